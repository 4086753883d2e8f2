/- Walks of the functions that the law reaches. -/
import Derived.Test.YtgmfjcckmapkbaaPFnExactCountingFormx7
namespace Go.Proofs.Ytgmfjcckmapkbaa.PFnExactCountingForm
open Go.RowKit Go.Proofs.YtgmfjcckmapkbaaW.PrintWords Go.Proofs.YtgmfjcckmapkbaaW.PrintLast Go.Proofs.YtgmfjcckmapkbaaW.PrintMore
attribute [local go_sem] max2_int min2_int max_two min_two max_three min_three max_four min_four
set_option linter.unusedVariables false
set_option maxHeartbeats 8000000
set_option maxRecDepth 100000
set_option linter.unusedSimpArgs false

mutual
def spec_CountingForm.j0 : Nat → Int → Bool → Int → List (List Int) → List Int → Option (Int × List Int × (List (List (List Int))) × List Int × Bool)
 | 0, _, _, _, _, _ => none
 | k + 1, x1, lh, aT, aE, aV => if lh = true then (some (0, ([] : List Int), ([] : List (List (List Int))), ([] : List Int), false)) else (if 0 ≤ (wrap64 (2 * (aE.length : Int))) then (if (wrap64 (2 * (aE.length : Int)) : Int).toNat ≤ 35184372088832 then ((some (List.replicate (wrap64 (2 * (aE.length : Int)) : Int).toNat 0 : List Int)).bind fun bt => (if 0 < (bt.length : Int) then (spec_CountingForm.l0 k x1 (aE.length : Int) 0 aT aE aV aT (bt.set (0 : Int).toNat 1) (List.replicate (wrap64 (2 * (aE.length : Int)) : Int).toNat 0)) else (none))) else (none)) else (none))
def spec_CountingForm.l0 : Nat → Int → Int → Int → Int → List (List Int) → List Int → Int → List Int → List Int → Option (Int × List Int × (List (List (List Int))) × List Int × Bool)
 | 0, _, _, _, _, _, _, _, _, _ => none
 | k + 1, x1, x8, eC, aT, aE, aV, aZ, a8, aY => if eC < x8 then (if 0 ≤ eC then (if eC < (aV.length : Int) then (if (rd aV eC) = x1 then (if 0 ≤ (wrap64 (x8 + eC)) then (if (wrap64 (x8 + eC)) < (aY.length : Int) then (spec_CountingForm.l0 k x1 x8 (wrap64 (eC + 1)) aT aE aV aZ a8 (aY.set ((wrap64 (x8 + eC)) : Int).toNat 1)) else (none)) else (none)) else (spec_CountingForm.l0 k x1 x8 (wrap64 (eC + 1)) aT aE aV aZ a8 aY)) else (none)) else (none)) else (spec_CountingForm.l1 k x8 0 aT aE aV aZ a8 ([] : List (List (List Int))) aY)
def spec_CountingForm.l1 : Nat → Int → Int → Int → List (List Int) → List Int → Int → List Int → List (List (List Int)) → List Int → Option (Int × List Int × (List (List (List Int))) × List Int × Bool)
 | 0, _, _, _, _, _, _, _, _, _ => none
 | k + 1, x8, cE, aT, aE, aV, aZ, a8, bc, aY => if cE < aT then (spec_CountingForm.l2 k x8 cE (([] : List (List Int))) 0 aT aE aV aZ a8 bc aY) else (some (aZ, a8, bc, aY, true))
def spec_CountingForm.l2 : Nat → Int → Int → List (List Int) → Int → Int → List (List Int) → List Int → Int → List Int → List (List (List Int)) → List Int → Option (Int × List Int × (List (List (List Int))) × List Int × Bool)
 | 0, _, _, _, _, _, _, _, _, _, _, _ => none
 | k + 1, x8, cE, df, cc, aT, aE, aV, aZ, a8, bc, aY => if cc < (wrap64 (2 * x8)) then (if 0 ≤ (wrap64 (2 * x8)) then (if (wrap64 (2 * x8) : Int).toNat ≤ 35184372088832 then (spec_CountingForm.l3 k x8 cE df cc (List.replicate (wrap64 (2 * x8) : Int).toNat 0) 0 aT aE aV aZ a8 bc aY) else (none)) else (none)) else (if bc.length < 5864062014805 then (spec_CountingForm.l1 k x8 (wrap64 (cE + 1)) aT aE aV aZ a8 (bc ++ [df]) aY) else (none))
def spec_CountingForm.l3 : Nat → Int → Int → List (List Int) → Int → List Int → Int → Int → List (List Int) → List Int → Int → List Int → List (List (List Int)) → List Int → Option (Int × List Int × (List (List (List Int))) × List Int × Bool)
 | 0, _, _, _, _, _, _, _, _, _, _, _, _, _ => none
 | k + 1, x8, cE, df, cc, cH, cI, aT, aE, aV, aZ, a8, bc, aY => if cI < aT then (if x8 = 0 then (none) else (if 0 ≤ (Int.tmod cc x8) then (if (Int.tmod cc x8) < (aE.length : Int) then (if 0 ≤ cI then (if cI < ((rd_L1 aE (Int.tmod cc x8)).length : Int) then (if cc < x8 then (spec_CountingForm.j5 k x8 cE df cc cH cI (rd (rd_L1 aE (Int.tmod cc x8)) cI) (cI == cE) aT aE aV aZ a8 bc aY) else (spec_CountingForm.j5 k x8 cE df cc cH cI (rd (rd_L1 aE (Int.tmod cc x8)) cI) false aT aE aV aZ a8 bc aY)) else (none)) else (none)) else (none)) else (none))) else (if df.length < 5864062014805 then (spec_CountingForm.l2 k x8 cE (df ++ [cH]) (wrap64 (cc + 1)) aT aE aV aZ a8 bc aY) else (none))
def spec_CountingForm.j5 : Nat → Int → Int → List (List Int) → Int → List Int → Int → Int → Bool → Int → List (List Int) → List Int → Int → List Int → List (List (List Int)) → List Int → Option (Int × List Int × (List (List (List Int))) × List Int × Bool)
 | 0, _, _, _, _, _, _, _, _, _, _, _, _, _, _, _ => none
 | k + 1, x8, cE, df, cc, cH, cI, cd, jz, aT, aE, aV, aZ, a8, bc, aY => if jz = true then (if 0 ≤ cd then (if cd < (cH.length : Int) then ((some (cH.set (cd : Int).toNat (wrap64 ((rd cH cd) + 1)) : List Int)).bind fun bj => (if cc < x8 then (if cI < cE then (if 0 ≤ (wrap64 (x8 + cd)) then (if (wrap64 (x8 + cd)) < (cH.length : Int) then (spec_CountingForm.l3 k x8 cE df cc (bj.set ((wrap64 (x8 + cd)) : Int).toNat (wrap64 ((rd bj (wrap64 (x8 + cd))) + 1))) (wrap64 (cI + 1)) aT aE aV aZ a8 bc aY) else (none)) else (none)) else (if cc ≥ x8 then (if 0 ≤ (wrap64 (x8 + cd)) then (if (wrap64 (x8 + cd)) < (cH.length : Int) then (spec_CountingForm.l3 k x8 cE df cc (bj.set ((wrap64 (x8 + cd)) : Int).toNat (wrap64 ((rd bj (wrap64 (x8 + cd))) + 1))) (wrap64 (cI + 1)) aT aE aV aZ a8 bc aY) else (none)) else (none)) else (spec_CountingForm.l3 k x8 cE df cc bj (wrap64 (cI + 1)) aT aE aV aZ a8 bc aY))) else (if cc ≥ x8 then (if 0 ≤ (wrap64 (x8 + cd)) then (if (wrap64 (x8 + cd)) < (cH.length : Int) then (spec_CountingForm.l3 k x8 cE df cc (bj.set ((wrap64 (x8 + cd)) : Int).toNat (wrap64 ((rd bj (wrap64 (x8 + cd))) + 1))) (wrap64 (cI + 1)) aT aE aV aZ a8 bc aY) else (none)) else (none)) else (spec_CountingForm.l3 k x8 cE df cc bj (wrap64 (cI + 1)) aT aE aV aZ a8 bc aY)))) else (none)) else (none)) else (if cc < x8 then (if cI < cE then (if 0 ≤ (wrap64 (x8 + cd)) then (if (wrap64 (x8 + cd)) < (cH.length : Int) then (spec_CountingForm.l3 k x8 cE df cc (cH.set ((wrap64 (x8 + cd)) : Int).toNat (wrap64 ((rd cH (wrap64 (x8 + cd))) + 1))) (wrap64 (cI + 1)) aT aE aV aZ a8 bc aY) else (none)) else (none)) else (if cc ≥ x8 then (if 0 ≤ (wrap64 (x8 + cd)) then (if (wrap64 (x8 + cd)) < (cH.length : Int) then (spec_CountingForm.l3 k x8 cE df cc (cH.set ((wrap64 (x8 + cd)) : Int).toNat (wrap64 ((rd cH (wrap64 (x8 + cd))) + 1))) (wrap64 (cI + 1)) aT aE aV aZ a8 bc aY) else (none)) else (none)) else (spec_CountingForm.l3 k x8 cE df cc cH (wrap64 (cI + 1)) aT aE aV aZ a8 bc aY))) else (if cc ≥ x8 then (if 0 ≤ (wrap64 (x8 + cd)) then (if (wrap64 (x8 + cd)) < (cH.length : Int) then (spec_CountingForm.l3 k x8 cE df cc (cH.set ((wrap64 (x8 + cd)) : Int).toNat (wrap64 ((rd cH (wrap64 (x8 + cd))) + 1))) (wrap64 (cI + 1)) aT aE aV aZ a8 bc aY) else (none)) else (none)) else (spec_CountingForm.l3 k x8 cE df cc cH (wrap64 (cI + 1)) aT aE aV aZ a8 bc aY)))
end
def spec_CountingForm.f (k : Nat) (bQ : Int) (bJ : List (List Int)) (bK : List Int) (a1 : Int) : Option (Int × List Int × (List (List (List Int))) × List Int × Bool) := (spec_MinimalForm.f k bQ bJ bK).bind fun bt280 => (if bt280.2.2.2 = true then ((spec_l1In.f a1 0 3).bind fun eB => (spec_CountingForm.j0 k a1 (!eB) bt280.1 bt280.2.1 bt280.2.2.1)) else (spec_CountingForm.j0 k a1 true bt280.1 bt280.2.1 bt280.2.2.1))
def spec_CountingForm.T5 : Bool × List (List Nat × List Nat) := (true, [([], []), ([0], [0]), ([], []), ([2], [2]), ([3, 3], [3]), ([], []), ([5], [5]), ([6, 6], [6]), ([1, 4, 7], [1, 4, 7]), ([], []), ([9, 8, 0, 1, 2, 3, 4, 5, 6, 7, 8, 9], [8, 9])])
def spec_CountingForm.B5 : List Nat := [0, 1, 0, 4, 12, 0, 32, 96, 255, 0, 1023]
theorem spec_CountingForm.tab5 : rtab .any (opsOf Try.f7 5) = spec_CountingForm.T5 := by kernel_rfl
theorem spec_CountingForm.bits5 : waitsOk spec_CountingForm.T5.2 spec_CountingForm.B5 = true := by kernel_rfl
def spec_CountingForm.T23 : Bool × List (List Nat × List Nat) := (true, [([], []), ([0], [0]), ([], []), ([], []), ([2, 3], [2, 3]), ([1, 4], [1, 4]), ([5], [5]), ([], []), ([6, 7], [6, 7]), ([8], [8]), ([9, 0, 1, 2, 3, 4, 5, 6, 7, 8, 9], [9])])
def spec_CountingForm.B23 : List Nat := [0, 1, 0, 0, 12, 31, 63, 0, 255, 511, 1023]
theorem spec_CountingForm.tab23 : rtab .any (opsOf Try.f7 23) = spec_CountingForm.T23 := by kernel_rfl
theorem spec_CountingForm.bits23 : waitsOk spec_CountingForm.T23.2 spec_CountingForm.B23 = true := by kernel_rfl
theorem spec_CountingForm.calls (k : Nat) (bQ : Int) (bX : Option Addr) (bZ : Nat) (bJ : List (List Int)) (bY : Option Addr) (b0 : Nat) (bK : List Int) (a1 : Int) (r1 : Int) (r2 : List Int) (r3 : List (List (List Int))) (r4 : List Int) (r5 : Bool) (w : World) (eU : Kd.C (Kd.slice 3 (Kd.int .i64)) w bX bJ.length bJ) (eR : bJ.length ≤ bZ) (eV : Kd.C (Kd.int .i64) w bY bK.length bK) (eS : bK.length ≤ b0) (h : spec_CountingForm.f k bQ bJ bK a1 = some (r1, r2, r3, r4, r5)) :
  Calls Try.prog 7 #[.agg #[.int .i64 bQ, .slice bX bJ.length bZ, .slice bY bK.length b0], .int .i64 a1] w fun e w' => ∃ v1_ v2_ v3_ : Value, e = .returned (.tuple #[.agg #[.int .i64 r1, v1_, v2_, v3_], .bool r5]) ∧ Kd.R (Kd.int .i64) 3 w' w.heap.size (o1 v3_) v1_ r2 ∧ Kd.R (Kd.slice 23 (Kd.slice 3 (Kd.int .i64))) 22 w' w.heap.size (o2 v1_ v3_) v2_ r3 ∧ Kd.R (Kd.int .i64) 3 w' w.heap.size (o1 v1_) v3_ r4 ∧ Below w.heap.size w w' := by
 have hu32 := Try.underlying32; have hu29 := Try.underlying29; have fZ := A_ eU; have fU := A_ eR; clear eU eR; have f0 := A_ eV; have fV := A_ eS; clear eV eS; have HB := A_ (Below.refl w.heap.size w); unfold spec_CountingForm.f at h; have H := h; clear h; replace H := bA_ H; obtain ⟨⟨ay, ac, aX, hL⟩, A3, H⟩ := H; dsimp only at H; have HC4 := A_ H; clear H; go_enter Try.func7, Try.ntmps7
 go_upto_region 2 with (first | ((with_reducible refine gate_dst (N := 2) rfl ?_); refine box_event rfl (N := 2) rfl (cs := #[.int .i64 bQ, .slice bX bJ.length bZ, .slice bY bK.length b0]) (t := 32) (by go_simp; done) ?_; intro bp hg w5 hbox hb; have am := A_ (hbox); have jK := A_ (lg_ (below_size HB.o) hg); have cK := A_ (lg_ (below_size HB.o) hg); replace HB := bs_ HB hb; clear hb hbox hg) | ((with_reducible refine gate_dst (N := 4) rfl ?_); refine box_event rfl (N := 4) rfl (cs := #[.int .i64 0, .slice none 0 0, .slice none 0 0, .slice none 0 0]) (t := 29) (by go_simp; done) ?_; intro bm hg w6 hbox hb; have al := A_ (hbox); have jL := A_ (lg_ (below_size HB.o) hg); have cL := A_ (lg_ (below_size HB.o) hg); replace HB := bs_ HB hb; have ce := nl_ am hg; have cf := ng_ am hg; replace am := bb_ am hb; clear hb hbox hg; have k0 := ce.o; have k6 := cf.o; have fg := bq3 am.o) | ((with_reducible refine gc_ 21 rfl ?_); refine cM_ E21 19 (spec_MinimalForm.calls k bQ _ _ bJ _ _ bK ay ac aX hL _ (Kd.C_below fZ.o HB.o) fU.o (Kd.C_below f0.o HB.o) fV.o A3.o) ?_; rintro e w9 ⟨lc, ld, rfl, ho0, ho1, hb⟩; refine ⟨_, rfl, ?_⟩; have dg := A_ (Kd.S_lower ho0 (below_size HB.o)); have dh := A_ (Kd.R_lower ho1 (below_size HB.o)); replace am := bb_ am hb; replace al := bb_ al hb; replace HB := bs_ HB hb; clear hb ho0; (try clear ho1)) | ((with_reducible refine gate_dst (N := 6) rfl ?_); refine box_event rfl (N := 6) rfl (cs := #[.int .i64 0, .slice none 0 0, .slice none 0 0]) (t := 32) (by go_simp; done) ?_; intro aK hg w10 hbox hb; replace dg := A_ (Kd.S_below dg.o hb); replace dh := A_ (Kd.R_below dh.o hb); have ai := A_ (hbox); have jM := A_ (lg_ (below_size HB.o) hg); have cN := A_ (lg_ (below_size HB.o) hg); replace HB := bs_ HB hb; have bd := nl_ am hg; have bu := ng_ am hg; replace am := bb_ am hb; have ba := nl_ al hg; have bo := ng_ al hg; replace al := bb_ al hb; clear hb hbox hg; have j7 := bu.o; have kw := bd.o; have j8 := bo.o; have kx := ba.o; have en := bq3 ai.o; obtain ⟨bi, aQ, iY⟩ := Kd.S_slice dg.o; subst iY; obtain ⟨bf, bg, iZ⟩ := Kd.R_slice dh.o; subst iZ))
 (try simp only [Act.put, mD, mE, mF])
 go_cut [28] (fun lb wc => ∃ (kq : Nat) (dB : Bool), lb = .bool dB ∧ Aside0 (spec_CountingForm.j0 kq a1 dB ay ac aX = some (r1, r2, r3, r4, r5)) ∧ Aside0 (kq ≤ k) ∧ Aside0 (Kd.S (Kd.slice 3 (Kd.int .i64)) 23 wc w.heap.size (o1 (.slice bf aX.length bg)) (.slice bi ac.length aQ) ac) ∧ Aside0 (Kd.R (Kd.int .i64) 3 wc w.heap.size (fun _ => True) (.slice bf aX.length bg) aX) ∧ Aside0 (wc.heap[bp]? = some (.cells #[.int .i64 bQ, (.slice bX bJ.length bZ), (.slice bY bK.length b0)] 32 (0, 0))) ∧ Aside0 (wc.heap[bm]? = some (.cells #[.int .i64 0, (.slice none 0 0), (.slice none 0 0), (.slice none 0 0)] 29 (0, 0))) ∧ Aside0 (wc.heap[aK]? = some (.cells #[.int .i64 ay, (.slice bi ac.length aQ), (.slice bf aX.length bg)] 32 (0, 0))) ∧ Aside0 (Below w.heap.size w wc))
 case first =>
  have H := HC4.o; clear HC4
  by_cases c16 : hL = true
  ·subst c16; rw [if_pos rfl] at H; replace H := bA_ H; obtain ⟨eB, A17, H⟩ := H
   have H' := A_ H
   clear H
   go_wp2_with (first | (go_at_call 22; (with_reducible refine (spec_l1In.calls a1 0 3 eB _ A17.o).mono ?_); rintro e w' ⟨rfl, ⟨nd, rfl⟩⟩))
   go_meet
   case rel => exact ⟨_, (!eB), (by rfl), H', ⟨by omega⟩, ⟨by (with_reducible repeat (first | apply Kd.S_alloc | apply Kd.S_drewN | apply Kd.S_drew)); exact Kd.S_mono (gS3_ (tS_ dg ai)) (fun _ hk => hk.1)⟩, ⟨by (with_reducible repeat (first | apply Kd.R_alloc | apply Kd.R_drewN | apply Kd.R_drew)); exact Kd.R_mono (gR3_ (tR_ dh ai)) (fun _ hk => trivial)⟩, ⟨by (with_reducible repeat (first | refine blk_drewN ?_ _ | refine blk_drew ?_ | refine blk_alloc ?_ _)); exact fa_ bd (fa_ bd (fa_ bd am.o))⟩, ⟨by (with_reducible repeat (first | refine blk_drewN ?_ _ | refine blk_drew ?_ | refine blk_alloc ?_ _)); exact fa_ ba (fa_ ba (fa_ ba al.o))⟩, ⟨by (with_reducible repeat (first | refine blk_drewN ?_ _ | refine blk_drew ?_ | refine blk_alloc ?_ _)); exact pu_ 2 (pu_ 1 (pu_ 0 ai.o rfl) rfl) rfl⟩, ⟨by repeat (first | (with_reducible first | exact HB.o | apply below_alloc | apply pw_below_drewN | apply below_drew1 | refine below_set ?_ cK.o | refine below_set ?_ cL.o | refine below_set ?_ cN.o) | exact HB.o)⟩⟩
  replace c16 := Bool.eq_false_iff.mpr c16; subst c16; rw [if_neg nf_] at H
  have H' := A_ H
  clear H
  go_wp2
  go_meet
  case rel => exact ⟨_, (true), (by rfl), H', ⟨by omega⟩, ⟨by exact Kd.S_mono (gS3_ (tS_ dg ai)) (fun _ hk => hk.1)⟩, ⟨by exact Kd.R_mono (gR3_ (tR_ dh ai)) (fun _ hk => trivial)⟩, ⟨by exact fa_ bd (fa_ bd (fa_ bd am.o))⟩, ⟨by exact fa_ ba (fa_ ba (fa_ ba al.o))⟩, ⟨by exact pu_ 2 (pu_ 1 (pu_ 0 ai.o rfl) rfl) rfl⟩, ⟨by repeat (first | (with_reducible first | exact HB.o | apply below_alloc | apply pw_below_drewN | apply below_drew1 | refine below_set ?_ cK.o | refine below_set ?_ cL.o | refine below_set ?_ cN.o) | exact HB.o)⟩⟩
 case rest =>
  clear HC4
  clear en fg
  obtain ⟨kq, dB, rfl, HA, b7, ab, aa, am, al, ai, HB⟩ := hcut
  cases kq with
  | zero => exact nz_ HA.o
  | succ kj3 =>
   have H := HA.o; clear HA; simp only [spec_CountingForm.j0] at H
   by_cases c18 : dB = true
   ·subst c18; rw [if_pos rfl] at H; simp only [Option.some.injEq, Prod.mk.injEq] at H; obtain ⟨rfl, rfl, rfl, rfl, rfl⟩ := H; have j9 := cf.o; have ky := ce.o; have ka := ba.o; have kz := bo.o; have hX := bq4 al.o
    go_wp2
    refine bodyPost_ret (results_ct rfl _ _ bm 29 #[.int .i64 0, .slice none 0 0, .slice none 0 0, .slice none 0 0] (0, 0) _ rfl (by exact pu_ 3 (pu_ 2 (pu_ 1 (pu_ 0 al.o rfl) rfl) rfl) rfl) Try.underlying29 rfl (by kernel_rfl)) rfl ?_; exact ⟨_, _, _, by rfl, by exact Kd.R_nil _ _ _ _ _, by exact Kd.R_nil _ _ _ _ _, by exact Kd.R_nil _ _ _ _ _, by repeat (first | (with_reducible first | exact HB.o | apply below_alloc | apply pw_below_drewN | apply below_drew1 | refine below_set ?_ cK.o | refine below_set ?_ cL.o | refine below_set ?_ cN.o) | exact HB.o)⟩
   replace c18 := Bool.eq_false_iff.mpr c18; subst c18; rw [if_neg nf_] at H; obtain ⟨bD, bv⟩ : ∃ j_ : Int, (wrap64 (2 * (ac.length : Int))) = j_ := ⟨_, rfl⟩; replace H : (if 0 ≤ (bD) then (if (bD : Int).toNat ≤ 35184372088832 then ((some (List.replicate (bD : Int).toNat 0 : List Int)).bind fun bt => (if 0 < (bt.length : Int) then (spec_CountingForm.l0 kj3 a1 (ac.length : Int) 0 ay ac aX ay (bt.set (0 : Int).toNat 1) (List.replicate (bD : Int).toNat 0)) else (none))) else (none)) else (none)) = some (r1, r2, r3, r4, r5) := by first | (rw [bv] at H; exact H) | (simp only [bv] at H ⊢; exact H)
   have i3 : (IntKind.i64.wrap (2 * (ac.length : Int))) = bD := (i64_w _).trans bv
   by_cases c23 : 0 ≤ (bD)
   ·rw [if_pos c23] at H; have jQ := eq_true c23; have jR := decide_eq_true c23; clear c23
    by_cases c24 : (bD : Int).toNat ≤ 35184372088832
    ·rw [if_pos c24] at H; have jS := eq_true c24; have jT := decide_eq_true c24; clear c24; obtain ⟨bt, dZ⟩ := ex_ ((List.replicate (bD : Int).toNat 0) : List Int); replace H : (if 0 < (bt.length : Int) then (spec_CountingForm.l0 kj3 a1 (ac.length : Int) 0 ay ac aX ay (bt.set (0 : Int).toNat 1) (List.replicate (bD : Int).toNat 0)) else (none)) = some (r1, r2, r3, r4, r5) := by (have H2_ := (Option.bind_some _ _).symm.trans H; rw [dZ]; with_reducible exact H2_)
     have dt := A_ dZ; clear dZ; obtain ⟨bL, d0⟩ := ex_ ((List.replicate (bD : Int).toNat 0) : List Int); replace H : (if 0 < (bt.length : Int) then (spec_CountingForm.l0 kj3 a1 (ac.length : Int) 0 ay ac aX ay (bt.set (0 : Int).toNat 1) bL) else (none)) = some (r1, r2, r3, r4, r5) := by (rw [d0]; with_reducible exact H)
     have du := A_ d0; clear d0
     by_cases c25 : 0 < (bt.length : Int)
     ·rw [if_pos c25] at H; have jU := decide_eq_true c25
      have jV : decide (0 < bt.length) = true := decide_eq_true (by omega)
      clear c25; obtain ⟨fI, d4⟩ := ex_ ((bt.set (0 : Int).toNat 1) : List Int); replace H : (spec_CountingForm.l0 kj3 a1 (ac.length : Int) 0 ay ac aX ay fI bL) = some (r1, r2, r3, r4, r5) := by (rw [d4]; with_reducible exact H)
      have f5 := A_ d4; clear d4
      have H' := A_ H
      clear H; have kb := bu.o; have kA := bd.o; have kc := bo.o; have kB := ba.o; have hY := bq3 ai.o
      try go_wp2
      replace ab := A_ (Kd.S_drew ab.o); replace aa := A_ (Kd.R_drew aa.o); replace am := A_ (blk_drew am.o); replace al := A_ (blk_drew al.o); replace ai := A_ (blk_drew ai.o); replace HB := A_ (below_drew1 HB.o); refine start_ (n := 11) (S := fun w' => w'.cell? ⟨aK, 0, none⟩ = some (.int .i64 ay) ∧ w'.cell? ⟨aK, 1, none⟩ = some (.slice bi ac.length aQ) ∧ w'.cell? ⟨aK, 2, none⟩ = some (.slice bf aX.length bg)) (ds := []) (mk_ 11 0) (by kernel_rfl) rfl rfl (bc3 ai) (fun aM => ?_); refine with_tabW spec_CountingForm.tab5 spec_CountingForm.bits5 (fun b1 f4 => ?_)
      generalize wc.drew = w30 at ab aa am al ai HB aM ⊢
      refine pw_ 0 33 (mk_ 11 1) b1 ?_; refine pw_ 2 35 (mk_ 11 5) b1 ?_; refine pw_ 3 36 (mk_ 11 13) b1 ?_; refine pw_ 5 38 (mk_ 11 45) b1 ?_; refine pw_ 6 39 (mk_ 11 109) b1 ?_; refine tk_ 1 34 (mk_ 11 111) b1 f4 aM ?_; refine join_ (σ := Value × Value × Nat) 1 (mk_ 11 1023) (fun s_ => [(37, s_.1), (40, s_.2.1), (9, .pointer (some ⟨s_.2.2, 0, none⟩)), (41, .agg #[.int .i64 ay, s_.1, .slice none 0 0, s_.2.1])]) (fun s_ w' => (w'.cell? ⟨aK, 0, none⟩ = some (.int .i64 ay) ∧ w'.cell? ⟨aK, 1, none⟩ = some (.slice bi ac.length aQ) ∧ w'.cell? ⟨aK, 2, none⟩ = some (.slice bf aX.length bg)) ∧ (Kd.R (Kd.int .i64) 3 w' w.heap.size (o2 s_.2.1 (.slice bf aX.length bg)) s_.1 bt) ∧ (Kd.R (Kd.int .i64) 3 w' w.heap.size (o2 s_.1 (.slice bf aX.length bg)) s_.2.1 bL) ∧ (Kd.S (Kd.slice 3 (Kd.int .i64)) 23 w' w.heap.size (o3 s_.1 s_.2.1 (.slice bf aX.length bg)) (.slice bi ac.length aQ) ac) ∧ (Kd.R (Kd.int .i64) 3 w' w.heap.size (o2 s_.1 s_.2.1) (.slice bf aX.length bg) aX) ∧ (w'.heap[bp]? = some (.cells #[.int .i64 bQ, .slice bX bJ.length bZ, .slice bY bK.length b0] 32 (0, 0))) ∧ (w'.heap[bm]? = some (.cells #[.int .i64 0, .slice none 0 0, .slice none 0 0, .slice none 0 0] 29 (0, 0))) ∧ (w'.heap[aK]? = some (.cells #[.int .i64 ay, .slice bi ac.length aQ, .slice bf aX.length bg] 32 (0, 0))) ∧ (w'.heap[s_.2.2]? = some (.cells #[.int .i64 0, .slice none 0 0, .slice none 0 0, .slice none 0 0] 29 (0, 0))) ∧ (w.heap.size ≤ s_.2.2) ∧ (w.heap.size ≤ s_.2.2) ∧ (bp ≠ s_.2.2) ∧ (s_.2.2 ≠ bp) ∧ (bm ≠ s_.2.2) ∧ (s_.2.2 ≠ bm) ∧ (aK ≠ s_.2.2) ∧ (s_.2.2 ≠ aK) ∧ (Below w.heap.size w w')) ?_ ?_; rotate_left
      ·intro hJ4_7_9; refine join_ (σ := Value × Value) 2 (mk_ 11 511) (fun s_ => [(37, s_.1), (40, s_.2), (41, .agg #[.int .i64 ay, s_.1, .slice none 0 0, s_.2])]) (fun s_ w' => (w'.cell? ⟨aK, 0, none⟩ = some (.int .i64 ay) ∧ w'.cell? ⟨aK, 1, none⟩ = some (.slice bi ac.length aQ) ∧ w'.cell? ⟨aK, 2, none⟩ = some (.slice bf aX.length bg)) ∧ (Kd.R (Kd.int .i64) 3 w' w.heap.size (o2 s_.2 (.slice bf aX.length bg)) s_.1 bt) ∧ (Kd.R (Kd.int .i64) 3 w' w.heap.size (o2 s_.1 (.slice bf aX.length bg)) s_.2 bL) ∧ (Kd.S (Kd.slice 3 (Kd.int .i64)) 23 w' w.heap.size (o3 s_.1 s_.2 (.slice bf aX.length bg)) (.slice bi ac.length aQ) ac) ∧ (Kd.R (Kd.int .i64) 3 w' w.heap.size (o2 s_.1 s_.2) (.slice bf aX.length bg) aX) ∧ (w'.heap[bp]? = some (.cells #[.int .i64 bQ, .slice bX bJ.length bZ, .slice bY bK.length b0] 32 (0, 0))) ∧ (w'.heap[bm]? = some (.cells #[.int .i64 0, .slice none 0 0, .slice none 0 0, .slice none 0 0] 29 (0, 0))) ∧ (w'.heap[aK]? = some (.cells #[.int .i64 ay, .slice bi ac.length aQ, .slice bf aX.length bg] 32 (0, 0))) ∧ (Below w.heap.size w w')) ?_ ?_; rotate_left
       ·intro hJ4_7; refine join_ (σ := Value × Nat) 3 (mk_ 11 639) (fun s_ => [(37, s_.1), (9, .pointer (some ⟨s_.2, 0, none⟩))]) (fun s_ w' => (w'.cell? ⟨aK, 0, none⟩ = some (.int .i64 ay) ∧ w'.cell? ⟨aK, 1, none⟩ = some (.slice bi ac.length aQ) ∧ w'.cell? ⟨aK, 2, none⟩ = some (.slice bf aX.length bg)) ∧ (Kd.R (Kd.int .i64) 3 w' w.heap.size (o1 (.slice bf aX.length bg)) s_.1 bt) ∧ (Kd.S (Kd.slice 3 (Kd.int .i64)) 23 w' w.heap.size (o2 s_.1 (.slice bf aX.length bg)) (.slice bi ac.length aQ) ac) ∧ (Kd.R (Kd.int .i64) 3 w' w.heap.size (o1 s_.1) (.slice bf aX.length bg) aX) ∧ (w'.heap[bp]? = some (.cells #[.int .i64 bQ, .slice bX bJ.length bZ, .slice bY bK.length b0] 32 (0, 0))) ∧ (w'.heap[bm]? = some (.cells #[.int .i64 0, .slice none 0 0, .slice none 0 0, .slice none 0 0] 29 (0, 0))) ∧ (w'.heap[aK]? = some (.cells #[.int .i64 ay, .slice bi ac.length aQ, .slice bf aX.length bg] 32 (0, 0))) ∧ (w'.heap[s_.2]? = some (.cells #[.int .i64 0, .slice none 0 0, .slice none 0 0, .slice none 0 0] 29 (0, 0))) ∧ (w.heap.size ≤ s_.2) ∧ (w.heap.size ≤ s_.2) ∧ (bp ≠ s_.2) ∧ (s_.2 ≠ bp) ∧ (bm ≠ s_.2) ∧ (s_.2 ≠ bm) ∧ (aK ≠ s_.2) ∧ (s_.2 ≠ aK) ∧ (Below w.heap.size w w')) ?_ ?_; rotate_left
        ·intro hJ4_9; refine join_ (σ := Value × Nat) 3 (mk_ 11 751) (fun s_ => [(40, s_.1), (9, .pointer (some ⟨s_.2, 0, none⟩))]) (fun s_ w' => (w'.cell? ⟨aK, 0, none⟩ = some (.int .i64 ay) ∧ w'.cell? ⟨aK, 1, none⟩ = some (.slice bi ac.length aQ) ∧ w'.cell? ⟨aK, 2, none⟩ = some (.slice bf aX.length bg)) ∧ (Kd.R (Kd.int .i64) 3 w' w.heap.size (o1 (.slice bf aX.length bg)) s_.1 bL) ∧ (Kd.S (Kd.slice 3 (Kd.int .i64)) 23 w' w.heap.size (o2 s_.1 (.slice bf aX.length bg)) (.slice bi ac.length aQ) ac) ∧ (Kd.R (Kd.int .i64) 3 w' w.heap.size (o1 s_.1) (.slice bf aX.length bg) aX) ∧ (w'.heap[bp]? = some (.cells #[.int .i64 bQ, .slice bX bJ.length bZ, .slice bY bK.length b0] 32 (0, 0))) ∧ (w'.heap[bm]? = some (.cells #[.int .i64 0, .slice none 0 0, .slice none 0 0, .slice none 0 0] 29 (0, 0))) ∧ (w'.heap[aK]? = some (.cells #[.int .i64 ay, .slice bi ac.length aQ, .slice bf aX.length bg] 32 (0, 0))) ∧ (w'.heap[s_.2]? = some (.cells #[.int .i64 0, .slice none 0 0, .slice none 0 0, .slice none 0 0] 29 (0, 0))) ∧ (w.heap.size ≤ s_.2) ∧ (w.heap.size ≤ s_.2) ∧ (bp ≠ s_.2) ∧ (s_.2 ≠ bp) ∧ (bm ≠ s_.2) ∧ (s_.2 ≠ bm) ∧ (aK ≠ s_.2) ∧ (s_.2 ≠ aK) ∧ (Below w.heap.size w w')) ?_ ?_; rotate_left
         ·intro hJ7_9; refine join_ (σ := Value) 4 (mk_ 11 127) (fun s_ => [(37, s_)]) (fun s_ w' => (w'.cell? ⟨aK, 0, none⟩ = some (.int .i64 ay) ∧ w'.cell? ⟨aK, 1, none⟩ = some (.slice bi ac.length aQ) ∧ w'.cell? ⟨aK, 2, none⟩ = some (.slice bf aX.length bg)) ∧ (Kd.R (Kd.int .i64) 3 w' w.heap.size (o1 (.slice bf aX.length bg)) s_ bt) ∧ (Kd.S (Kd.slice 3 (Kd.int .i64)) 23 w' w.heap.size (o2 s_ (.slice bf aX.length bg)) (.slice bi ac.length aQ) ac) ∧ (Kd.R (Kd.int .i64) 3 w' w.heap.size (o1 s_) (.slice bf aX.length bg) aX) ∧ (w'.heap[bp]? = some (.cells #[.int .i64 bQ, .slice bX bJ.length bZ, .slice bY bK.length b0] 32 (0, 0))) ∧ (w'.heap[bm]? = some (.cells #[.int .i64 0, .slice none 0 0, .slice none 0 0, .slice none 0 0] 29 (0, 0))) ∧ (w'.heap[aK]? = some (.cells #[.int .i64 ay, .slice bi ac.length aQ, .slice bf aX.length bg] 32 (0, 0))) ∧ (Below w.heap.size w w')) ?_ ?_; rotate_left
          ·intro hJ4; refine join_ (σ := Value) 4 (mk_ 11 239) (fun s_ => [(40, s_)]) (fun s_ w' => (w'.cell? ⟨aK, 0, none⟩ = some (.int .i64 ay) ∧ w'.cell? ⟨aK, 1, none⟩ = some (.slice bi ac.length aQ) ∧ w'.cell? ⟨aK, 2, none⟩ = some (.slice bf aX.length bg)) ∧ (Kd.R (Kd.int .i64) 3 w' w.heap.size (o1 (.slice bf aX.length bg)) s_ bL) ∧ (Kd.S (Kd.slice 3 (Kd.int .i64)) 23 w' w.heap.size (o2 s_ (.slice bf aX.length bg)) (.slice bi ac.length aQ) ac) ∧ (Kd.R (Kd.int .i64) 3 w' w.heap.size (o1 s_) (.slice bf aX.length bg) aX) ∧ (w'.heap[bp]? = some (.cells #[.int .i64 bQ, .slice bX bJ.length bZ, .slice bY bK.length b0] 32 (0, 0))) ∧ (w'.heap[bm]? = some (.cells #[.int .i64 0, .slice none 0 0, .slice none 0 0, .slice none 0 0] 29 (0, 0))) ∧ (w'.heap[aK]? = some (.cells #[.int .i64 ay, .slice bi ac.length aQ, .slice bf aX.length bg] 32 (0, 0))) ∧ (Below w.heap.size w w')) ?_ ?_; rotate_left
           ·intro hJ7; refine join_ (σ := Nat) 4 (mk_ 11 623) (fun s_ => [(9, .pointer (some ⟨s_, 0, none⟩))]) (fun s_ w' => (w'.cell? ⟨aK, 0, none⟩ = some (.int .i64 ay) ∧ w'.cell? ⟨aK, 1, none⟩ = some (.slice bi ac.length aQ) ∧ w'.cell? ⟨aK, 2, none⟩ = some (.slice bf aX.length bg)) ∧ (Kd.S (Kd.slice 3 (Kd.int .i64)) 23 w' w.heap.size (o1 (.slice bf aX.length bg)) (.slice bi ac.length aQ) ac) ∧ (Kd.R (Kd.int .i64) 3 w' w.heap.size (fun _ => True) (.slice bf aX.length bg) aX) ∧ (w'.heap[bp]? = some (.cells #[.int .i64 bQ, .slice bX bJ.length bZ, .slice bY bK.length b0] 32 (0, 0))) ∧ (w'.heap[bm]? = some (.cells #[.int .i64 0, .slice none 0 0, .slice none 0 0, .slice none 0 0] 29 (0, 0))) ∧ (w'.heap[aK]? = some (.cells #[.int .i64 ay, .slice bi ac.length aQ, .slice bf aX.length bg] 32 (0, 0))) ∧ (w'.heap[s_]? = some (.cells #[.int .i64 0, .slice none 0 0, .slice none 0 0, .slice none 0 0] 29 (0, 0))) ∧ (w.heap.size ≤ s_) ∧ (w.heap.size ≤ s_) ∧ (bp ≠ s_) ∧ (s_ ≠ bp) ∧ (bm ≠ s_) ∧ (s_ ≠ bm) ∧ (aK ≠ s_) ∧ (s_ ≠ aK) ∧ (Below w.heap.size w w')) ?_ ?_; rotate_left
            ·intro hJ9; refine three_ (i := 4) (j := 7) (k := 9) (Ni := some 37) (Nj := some 40) (Nk := some 9) (mk_ 11 127) (mk_ 11 239) (mk_ 11 623) rfl rfl rfl rfl rfl rfl (three_of b1.o (by kernel_rfl)) (by decide) (by decide) (by decide) (fun K hK => ?_) (fun K hK => ?_) (fun K hK => ?_)
             ·skip
              refine Kd.R_make_step (Kd.int .i64) _ 3 (by rfl) (N := 37) rfl 23 _ _ rfl bD rfl rfl Try.underlying23 (.int .i64 0) 8 info3 rfl (by decide) (by omega) 0 (ok := fun _ => True) (okp := fun _ => True) rfl (fun _ hk => hk) trivial oa_ (Nat.le_trans (Nat.mul_le_mul_right _ (oa_ : bD.toNat ≤ 35184372088832)) (by omega)) (Below.refl _ _) (Nat.le_refl _) ?_; intro cF w31 cC hb hg_ hnew_; clear hg_ hnew_
              (rw [← dt.o] at cC)
              replace ab := A_ (Kd.S_elder' ab.o (Kd.R_base cC) hb); have aW := A_ (Kd.R_lower (Kd.R_new' cC (Kd.R_lt aa.o)) (below_size HB.o)); replace aa := A_ (Kd.R_elder' aa.o (Kd.R_base cC) hb); replace am := bb_ am hb; replace al := bb_ al hb; replace ai := bb_ ai hb; replace HB := bs_ HB hb; clear hb cC; refine hK.out _ _ (bc3 ai) (fun aM => ?_); clear hK K; refine nm_ 37 ?_; exact norm_ (by simp only [putAll, Act.put, mD, mE, mF]; first | done | rfl) (hJ4 (cF) _ ⟨aM, (by exact Kd.R_mono aW.o (fun _ hk => hk.2)), (by exact Kd.S_mono ab.o (fun _ hk => ⟨hk.2, hk.1⟩)), (by exact Kd.R_mono aa.o (fun _ hk => hk.2)), am.o, al.o, ai.o, HB.o⟩)
             ·skip
              refine Kd.R_make_step (Kd.int .i64) _ 3 (by rfl) (N := 40) rfl 23 _ _ rfl bD rfl rfl Try.underlying23 (.int .i64 0) 8 info3 rfl (by decide) (by omega) 0 (ok := fun _ => True) (okp := fun _ => True) rfl (fun _ hk => hk) trivial oa_ (Nat.le_trans (Nat.mul_le_mul_right _ (oa_ : bD.toNat ≤ 35184372088832)) (by omega)) (Below.refl _ _) (Nat.le_refl _) ?_; intro cG w31 cC hb hg_ hnew_; clear hg_ hnew_
              (rw [← du.o] at cC)
              replace ab := A_ (Kd.S_elder' ab.o (Kd.R_base cC) hb); have bb := A_ (Kd.R_lower (Kd.R_new' cC (Kd.R_lt aa.o)) (below_size HB.o)); replace aa := A_ (Kd.R_elder' aa.o (Kd.R_base cC) hb); replace am := bb_ am hb; replace al := bb_ al hb; replace ai := bb_ ai hb; replace HB := bs_ HB hb; clear hb cC; refine hK.out _ _ (bc3 ai) (fun aM => ?_); clear hK K; refine nm_ 40 ?_; exact norm_ (by simp only [putAll, Act.put, mD, mE, mF]; first | done | rfl) (hJ7 (cG) _ ⟨aM, (by exact Kd.R_mono bb.o (fun _ hk => hk.2)), (by exact Kd.S_mono ab.o (fun _ hk => ⟨hk.2, hk.1⟩)), (by exact Kd.R_mono aa.o (fun _ hk => hk.2)), am.o, al.o, ai.o, HB.o⟩)
             skip
             refine box_step rfl (N := 9) rfl (cs := #[.int .i64 0, .slice none 0 0, .slice none 0 0, .slice none 0 0]) (t := 29) (by go_simp; done) ?_; intro aU hg w31 hbox hb; replace ab := A_ (Kd.S_below ab.o hb); replace aa := A_ (Kd.R_below aa.o hb); have ap := A_ (hbox); have bH := A_ (lg_ (below_size HB.o) hg); have bC := A_ (lg_ (below_size HB.o) hg); replace HB := bs_ HB hb; have az := nl_ am hg; have aH := ng_ am hg; replace am := bb_ am hb; have aA := nl_ al hg; have aI := ng_ al hg; replace al := bb_ al hb; have aq := nl_ ai hg; have aD := ng_ ai hg; replace ai := bb_ ai hb; clear hb hbox hg; refine hK.out _ _ (bc3 ai) (fun aM => ?_); clear hK K; refine nm_ 9 ?_; exact norm_ (by simp only [putAll, Act.put, mD, mE, mF]; first | done | rfl) (hJ9 (aU) _ ⟨aM, ab.o, aa.o, am.o, al.o, ai.o, ap.o, bH.o, bC.o, az.o, aH.o, aA.o, aI.o, aq.o, aD.o, HB.o⟩)
            skip
            rintro aU w32 ⟨aM, h0_, h1_, h2_, h3_, h4_, h5_, h6_, h7_, h8_, h9_, b2, b3, b4, b5, b6⟩
            clear ab aa am al ai HB; try dsimp only at aM h0_ h1_ h2_ h3_ h4_ h5_ h6_ h7_ h8_ h9_ b2 b3 b4 b5 b6
            have ab := A_ h0_; have aa := A_ h1_; have am := A_ h2_; have al := A_ h3_; have ai := A_ h4_; have ap := A_ h5_; have bH := A_ h6_; have bC := A_ h7_; have az := A_ h8_; have aH := A_ h9_; have aA := A_ b2; have aI := A_ b3; have aq := A_ b4; have aD := A_ b5; have HB := A_ b6; clear h0_ h1_ h2_ h3_ h4_ h5_ h6_ h7_ h8_ h9_ b2 b3 b4 b5 b6
            refine norm_ (by simp only [putAll, Act.put, mD, mE, mF]; rfl) ?_
            refine two_ (i := 4) (j := 7) (Ni := some 37) (Nj := some 40) (mk_ 11 639) (mk_ 11 751) rfl rfl rfl rfl (two_of b1.o (by kernel_rfl)) (by decide) (by decide) (fun K hK => ?_) (fun K hK => ?_)
            ·skip
             refine Kd.R_make_step (Kd.int .i64) _ 3 (by rfl) (N := 37) rfl 23 _ _ rfl bD rfl rfl Try.underlying23 (.int .i64 0) 8 info3 rfl (by decide) (by omega) 0 (ok := fun _ => True) (okp := fun _ => True) rfl (fun _ hk => hk) trivial oa_ (Nat.le_trans (Nat.mul_le_mul_right _ (oa_ : bD.toNat ≤ 35184372088832)) (by omega)) (Below.refl _ _) (Nat.le_refl _) ?_; intro cF w33 cD hb hg_ hnew_; clear hg_ hnew_
             (rw [← dt.o] at cD)
             replace ab := A_ (Kd.S_elder' ab.o (Kd.R_base cD) hb); have aW := A_ (Kd.R_lower (Kd.R_new' cD (Kd.R_lt aa.o)) (below_size HB.o)); replace aa := A_ (Kd.R_elder' aa.o (Kd.R_base cD) hb); replace am := bb_ am hb; replace al := bb_ al hb; replace ai := bb_ ai hb; replace ap := bb_ ap hb; replace HB := bs_ HB hb; clear hb cD; refine hK.out _ _ (bc3 ai) (fun aM => ?_); clear hK K; refine nm_ 37 ?_; exact norm_ (by simp only [putAll, Act.put, mD, mE, mF]; first | done | rfl) (hJ4_9 (cF, aU) _ ⟨aM, (by exact Kd.R_mono aW.o (fun _ hk => hk.2)), (by exact Kd.S_mono ab.o (fun _ hk => ⟨hk.2, hk.1⟩)), (by exact Kd.R_mono aa.o (fun _ hk => hk.2)), am.o, al.o, ai.o, ap.o, bH.o, bC.o, az.o, aH.o, aA.o, aI.o, aq.o, aD.o, HB.o⟩)
            skip
            refine Kd.R_make_step (Kd.int .i64) _ 3 (by rfl) (N := 40) rfl 23 _ _ rfl bD rfl rfl Try.underlying23 (.int .i64 0) 8 info3 rfl (by decide) (by omega) 0 (ok := fun _ => True) (okp := fun _ => True) rfl (fun _ hk => hk) trivial oa_ (Nat.le_trans (Nat.mul_le_mul_right _ (oa_ : bD.toNat ≤ 35184372088832)) (by omega)) (Below.refl _ _) (Nat.le_refl _) ?_; intro cG w33 cD hb hg_ hnew_; clear hg_ hnew_
            (rw [← du.o] at cD)
            replace ab := A_ (Kd.S_elder' ab.o (Kd.R_base cD) hb); have bb := A_ (Kd.R_lower (Kd.R_new' cD (Kd.R_lt aa.o)) (below_size HB.o)); replace aa := A_ (Kd.R_elder' aa.o (Kd.R_base cD) hb); replace am := bb_ am hb; replace al := bb_ al hb; replace ai := bb_ ai hb; replace ap := bb_ ap hb; replace HB := bs_ HB hb; clear hb cD; refine hK.out _ _ (bc3 ai) (fun aM => ?_); clear hK K; refine nm_ 40 ?_; exact norm_ (by simp only [putAll, Act.put, mD, mE, mF]; first | done | rfl) (hJ7_9 (cG, aU) _ ⟨aM, (by exact Kd.R_mono bb.o (fun _ hk => hk.2)), (by exact Kd.S_mono ab.o (fun _ hk => ⟨hk.2, hk.1⟩)), (by exact Kd.R_mono aa.o (fun _ hk => hk.2)), am.o, al.o, ai.o, ap.o, bH.o, bC.o, az.o, aH.o, aA.o, aI.o, aq.o, aD.o, HB.o⟩)
           skip
           rintro cG w33 ⟨aM, h0_, h1_, h2_, h3_, h4_, h5_, h6_⟩
           clear ab aa am al ai HB; try dsimp only at aM h0_ h1_ h2_ h3_ h4_ h5_ h6_
           have bb := A_ h0_; have ab := A_ h1_; have aa := A_ h2_; have am := A_ h3_; have al := A_ h4_; have ai := A_ h5_; have HB := A_ h6_; clear h0_ h1_ h2_ h3_ h4_ h5_ h6_
           refine norm_ (by simp only [putAll, Act.put, mD, mE, mF]; rfl) ?_
           refine two_ (i := 4) (j := 9) (Ni := some 37) (Nj := some 9) (mk_ 11 255) (mk_ 11 751) rfl rfl rfl rfl (two_of b1.o (by kernel_rfl)) (by decide) (by decide) (fun K hK => ?_) (fun K hK => ?_)
           ·skip
            refine Kd.R_make_step (Kd.int .i64) _ 3 (by rfl) (N := 37) rfl 23 _ _ rfl bD rfl rfl Try.underlying23 (.int .i64 0) 8 info3 rfl (by decide) (by omega) 0 (ok := fun _ => True) (okp := fun _ => True) rfl (fun _ hk => hk) trivial oa_ (Nat.le_trans (Nat.mul_le_mul_right _ (oa_ : bD.toNat ≤ 35184372088832)) (by omega)) (Below.refl _ _) (Nat.le_refl _) ?_; intro cF w34 cg hb hg_ hnew_; clear hg_ hnew_
            (rw [← dt.o] at cg)
            replace ab := A_ (Kd.S_elder' ab.o (Kd.R_base cg) hb); have aW := A_ (Kd.R_lower (Kd.R_new' (Kd.R_new' cg (Kd.R_lt aa.o)) (Kd.R_lt bb.o)) (below_size HB.o)); replace aa := A_ (Kd.R_elder' aa.o (Kd.R_base cg) hb); replace bb := A_ (Kd.R_elder' bb.o (Kd.R_base cg) hb); replace am := bb_ am hb; replace al := bb_ al hb; replace ai := bb_ ai hb; replace HB := bs_ HB hb; clear hb cg; obtain ⟨eW, fd, dS⟩ := Kd.R_slice bb.o
            (first | subst dS | (injection dS with f1_ f2_ f3_; have f4_ := f1_.symm; have f5_ := f3_.symm; clear f1_ f2_ f3_; subst f4_; subst f5_))
            obtain ⟨dl, dm, cA⟩ := Kd.R_slice aW.o
            (first | subst cA | (injection cA with f1_ f2_ f3_; have f4_ := f1_.symm; have f5_ := f3_.symm; clear f1_ f2_ f3_; subst f4_; subst f5_))
            refine hK.out _ _ (bc3 ai) (fun aM => ?_); clear hK K; refine nm_ 37 ?_; refine pw_ 8 41 (mk_ 11 511) b1 ?_; exact norm_ (by simp only [putAll, Act.put, mD, mE, mF]; first | done | rfl) (hJ4_7 (.slice dl bt.length dm, .slice eW bL.length fd) _ ⟨aM, (by exact Kd.R_mono aW.o (fun _ hk => ⟨hk.2, hk.1.2⟩)), (by exact Kd.R_mono bb.o (fun _ hk => ⟨hk.2, hk.1⟩)), (by exact Kd.S_mono ab.o (fun _ hk => ⟨hk.2, ⟨hk.1.1, hk.1.2⟩⟩)), (by exact Kd.R_mono aa.o (fun _ hk => ⟨hk.2, hk.1⟩)), am.o, al.o, ai.o, HB.o⟩)
           skip
           refine box_step rfl (N := 9) rfl (cs := #[.int .i64 0, .slice none 0 0, .slice none 0 0, .slice none 0 0]) (t := 29) (by go_simp; done) ?_; intro aU hg w34 hbox hb; replace ab := A_ (Kd.S_below ab.o hb); replace aa := A_ (Kd.R_below aa.o hb); replace bb := A_ (Kd.R_below bb.o hb); have ap := A_ (hbox); have bH := A_ (lg_ (below_size HB.o) hg); have bC := A_ (lg_ (below_size HB.o) hg); replace HB := bs_ HB hb; have az := nl_ am hg; have aH := ng_ am hg; replace am := bb_ am hb; have aA := nl_ al hg; have aI := ng_ al hg; replace al := bb_ al hb; have aq := nl_ ai hg; have aD := ng_ ai hg; replace ai := bb_ ai hb; clear hb hbox hg; refine hK.out _ _ (bc3 ai) (fun aM => ?_); clear hK K; refine nm_ 9 ?_; exact norm_ (by simp only [putAll, Act.put, mD, mE, mF]; first | done | rfl) (hJ7_9 (cG, aU) _ ⟨aM, bb.o, ab.o, aa.o, am.o, al.o, ai.o, ap.o, bH.o, bC.o, az.o, aH.o, aA.o, aI.o, aq.o, aD.o, HB.o⟩)
          skip
          rintro cF w33 ⟨aM, h0_, h1_, h2_, h3_, h4_, h5_, h6_⟩
          clear ab aa am al ai HB; try dsimp only at aM h0_ h1_ h2_ h3_ h4_ h5_ h6_
          have aW := A_ h0_; have ab := A_ h1_; have aa := A_ h2_; have am := A_ h3_; have al := A_ h4_; have ai := A_ h5_; have HB := A_ h6_; clear h0_ h1_ h2_ h3_ h4_ h5_ h6_
          refine norm_ (by simp only [putAll, Act.put, mD, mE, mF]; rfl) ?_
          refine two_ (i := 7) (j := 9) (Ni := some 40) (Nj := some 9) (mk_ 11 255) (mk_ 11 639) rfl rfl rfl rfl (two_of b1.o (by kernel_rfl)) (by decide) (by decide) (fun K hK => ?_) (fun K hK => ?_)
          ·skip
           refine Kd.R_make_step (Kd.int .i64) _ 3 (by rfl) (N := 40) rfl 23 _ _ rfl bD rfl rfl Try.underlying23 (.int .i64 0) 8 info3 rfl (by decide) (by omega) 0 (ok := fun _ => True) (okp := fun _ => True) rfl (fun _ hk => hk) trivial oa_ (Nat.le_trans (Nat.mul_le_mul_right _ (oa_ : bD.toNat ≤ 35184372088832)) (by omega)) (Below.refl _ _) (Nat.le_refl _) ?_; intro cG w34 cg hb hg_ hnew_; clear hg_ hnew_
           (rw [← du.o] at cg)
           replace ab := A_ (Kd.S_elder' ab.o (Kd.R_base cg) hb); have bb := A_ (Kd.R_lower (Kd.R_new' (Kd.R_new' cg (Kd.R_lt aa.o)) (Kd.R_lt aW.o)) (below_size HB.o)); replace aa := A_ (Kd.R_elder' aa.o (Kd.R_base cg) hb); replace aW := A_ (Kd.R_elder' aW.o (Kd.R_base cg) hb); replace am := bb_ am hb; replace al := bb_ al hb; replace ai := bb_ ai hb; replace HB := bs_ HB hb; clear hb cg; obtain ⟨eW, fd, dS⟩ := Kd.R_slice bb.o
           (first | subst dS | (injection dS with f1_ f2_ f3_; have f4_ := f1_.symm; have f5_ := f3_.symm; clear f1_ f2_ f3_; subst f4_; subst f5_))
           obtain ⟨dl, dm, cA⟩ := Kd.R_slice aW.o
           (first | subst cA | (injection cA with f1_ f2_ f3_; have f4_ := f1_.symm; have f5_ := f3_.symm; clear f1_ f2_ f3_; subst f4_; subst f5_))
           refine hK.out _ _ (bc3 ai) (fun aM => ?_); clear hK K; refine nm_ 40 ?_; refine pw_ 8 41 (mk_ 11 511) b1 ?_; exact norm_ (by simp only [putAll, Act.put, mD, mE, mF]; first | done | rfl) (hJ4_7 (.slice dl bt.length dm, .slice eW bL.length fd) _ ⟨aM, (by exact Kd.R_mono aW.o (fun _ hk => ⟨hk.2, hk.1⟩)), (by exact Kd.R_mono bb.o (fun _ hk => ⟨hk.2, hk.1.2⟩)), (by exact Kd.S_mono ab.o (fun _ hk => ⟨hk.1.1, ⟨hk.2, hk.1.2⟩⟩)), aa.o, am.o, al.o, ai.o, HB.o⟩)
          skip
          refine box_step rfl (N := 9) rfl (cs := #[.int .i64 0, .slice none 0 0, .slice none 0 0, .slice none 0 0]) (t := 29) (by go_simp; done) ?_; intro aU hg w34 hbox hb; replace ab := A_ (Kd.S_below ab.o hb); replace aa := A_ (Kd.R_below aa.o hb); replace aW := A_ (Kd.R_below aW.o hb); have ap := A_ (hbox); have bH := A_ (lg_ (below_size HB.o) hg); have bC := A_ (lg_ (below_size HB.o) hg); replace HB := bs_ HB hb; have az := nl_ am hg; have aH := ng_ am hg; replace am := bb_ am hb; have aA := nl_ al hg; have aI := ng_ al hg; replace al := bb_ al hb; have aq := nl_ ai hg; have aD := ng_ ai hg; replace ai := bb_ ai hb; clear hb hbox hg; refine hK.out _ _ (bc3 ai) (fun aM => ?_); clear hK K; refine nm_ 9 ?_; exact norm_ (by simp only [putAll, Act.put, mD, mE, mF]; first | done | rfl) (hJ4_9 (cF, aU) _ ⟨aM, aW.o, ab.o, aa.o, am.o, al.o, ai.o, ap.o, bH.o, bC.o, az.o, aH.o, aA.o, aI.o, aq.o, aD.o, HB.o⟩)
         skip
         rintro ⟨cG, aU⟩ w34 ⟨aM, h0_, h1_, h2_, h3_, h4_, h5_, h6_, h7_, h8_, h9_, b2, b3, b4, b5, b6, cB⟩
         clear ab aa am al ai HB; try dsimp only at aM h0_ h1_ h2_ h3_ h4_ h5_ h6_ h7_ h8_ h9_ b2 b3 b4 b5 b6 cB
         have bb := A_ h0_; have ab := A_ h1_; have aa := A_ h2_; have am := A_ h3_; have al := A_ h4_; have ai := A_ h5_; have ap := A_ h6_; have bH := A_ h7_; have bC := A_ h8_; have az := A_ h9_; have aH := A_ b2; have aA := A_ b3; have aI := A_ b4; have aq := A_ b5; have aD := A_ b6; have HB := A_ cB; clear h0_ h1_ h2_ h3_ h4_ h5_ h6_ h7_ h8_ h9_ b2 b3 b4 b5 b6 cB
         refine norm_ (by simp only [putAll, Act.put, mD, mE, mF]; rfl) ?_
         refine one_ (i := 4) (N := some 37) (mk_ 11 767) rfl rfl (one_of b1.o (by kernel_rfl)) (by decide) (fun K hK => ?_); refine Kd.R_make_step (Kd.int .i64) _ 3 (by rfl) (N := 37) rfl 23 _ _ rfl bD rfl rfl Try.underlying23 (.int .i64 0) 8 info3 rfl (by decide) (by omega) 0 (ok := fun _ => True) (okp := fun _ => True) rfl (fun _ hk => hk) trivial oa_ (Nat.le_trans (Nat.mul_le_mul_right _ (oa_ : bD.toNat ≤ 35184372088832)) (by omega)) (Below.refl _ _) (Nat.le_refl _) ?_; intro cF w35 ch hb hg_ hnew_; clear hg_ hnew_
         (rw [← dt.o] at ch)
         replace ab := A_ (Kd.S_elder' ab.o (Kd.R_base ch) hb); have aW := A_ (Kd.R_lower (Kd.R_new' (Kd.R_new' ch (Kd.R_lt aa.o)) (Kd.R_lt bb.o)) (below_size HB.o)); replace aa := A_ (Kd.R_elder' aa.o (Kd.R_base ch) hb); replace bb := A_ (Kd.R_elder' bb.o (Kd.R_base ch) hb); replace am := bb_ am hb; replace al := bb_ al hb; replace ai := bb_ ai hb; replace ap := bb_ ap hb; replace HB := bs_ HB hb; clear hb ch; obtain ⟨dl, dm, cA⟩ := Kd.R_slice bb.o
         (first | subst cA | (injection cA with f1_ f2_ f3_; have f4_ := f1_.symm; have f5_ := f3_.symm; clear f1_ f2_ f3_; subst f4_; subst f5_))
         obtain ⟨dD, dR, dj⟩ := Kd.R_slice aW.o
         (first | subst dj | (injection dj with f1_ f2_ f3_; have f4_ := f1_.symm; have f5_ := f3_.symm; clear f1_ f2_ f3_; subst f4_; subst f5_))
         refine hK.out _ _ (bc3 ai) (fun aM => ?_); clear hK K; refine nm_ 37 ?_; refine pw_ 8 41 (mk_ 11 1023) b1 ?_; exact norm_ (by simp only [putAll, Act.put, mD, mE, mF]; first | done | rfl) (hJ4_7_9 (.slice dD bt.length dR, .slice dl bL.length dm, aU) _ ⟨aM, (by exact Kd.R_mono aW.o (fun _ hk => ⟨hk.2, hk.1.2⟩)), (by exact Kd.R_mono bb.o (fun _ hk => ⟨hk.2, hk.1⟩)), (by exact Kd.S_mono ab.o (fun _ hk => ⟨hk.2, ⟨hk.1.1, hk.1.2⟩⟩)), (by exact Kd.R_mono aa.o (fun _ hk => ⟨hk.2, hk.1⟩)), am.o, al.o, ai.o, ap.o, bH.o, bC.o, az.o, aH.o, aA.o, aI.o, aq.o, aD.o, HB.o⟩)
        skip
        rintro ⟨cF, aU⟩ w34 ⟨aM, h0_, h1_, h2_, h3_, h4_, h5_, h6_, h7_, h8_, h9_, b2, b3, b4, b5, b6, cB⟩
        clear ab aa am al ai HB; try dsimp only at aM h0_ h1_ h2_ h3_ h4_ h5_ h6_ h7_ h8_ h9_ b2 b3 b4 b5 b6 cB
        have aW := A_ h0_; have ab := A_ h1_; have aa := A_ h2_; have am := A_ h3_; have al := A_ h4_; have ai := A_ h5_; have ap := A_ h6_; have bH := A_ h7_; have bC := A_ h8_; have az := A_ h9_; have aH := A_ b2; have aA := A_ b3; have aI := A_ b4; have aq := A_ b5; have aD := A_ b6; have HB := A_ cB; clear h0_ h1_ h2_ h3_ h4_ h5_ h6_ h7_ h8_ h9_ b2 b3 b4 b5 b6 cB
        refine norm_ (by simp only [putAll, Act.put, mD, mE, mF]; rfl) ?_
        refine one_ (i := 7) (N := some 40) (mk_ 11 767) rfl rfl (one_of b1.o (by kernel_rfl)) (by decide) (fun K hK => ?_); refine Kd.R_make_step (Kd.int .i64) _ 3 (by rfl) (N := 40) rfl 23 _ _ rfl bD rfl rfl Try.underlying23 (.int .i64 0) 8 info3 rfl (by decide) (by omega) 0 (ok := fun _ => True) (okp := fun _ => True) rfl (fun _ hk => hk) trivial oa_ (Nat.le_trans (Nat.mul_le_mul_right _ (oa_ : bD.toNat ≤ 35184372088832)) (by omega)) (Below.refl _ _) (Nat.le_refl _) ?_; intro cG w35 ch hb hg_ hnew_; clear hg_ hnew_
        (rw [← du.o] at ch)
        replace ab := A_ (Kd.S_elder' ab.o (Kd.R_base ch) hb); have bb := A_ (Kd.R_lower (Kd.R_new' (Kd.R_new' ch (Kd.R_lt aa.o)) (Kd.R_lt aW.o)) (below_size HB.o)); replace aa := A_ (Kd.R_elder' aa.o (Kd.R_base ch) hb); replace aW := A_ (Kd.R_elder' aW.o (Kd.R_base ch) hb); replace am := bb_ am hb; replace al := bb_ al hb; replace ai := bb_ ai hb; replace ap := bb_ ap hb; replace HB := bs_ HB hb; clear hb ch; obtain ⟨dl, dm, cA⟩ := Kd.R_slice bb.o
        (first | subst cA | (injection cA with f1_ f2_ f3_; have f4_ := f1_.symm; have f5_ := f3_.symm; clear f1_ f2_ f3_; subst f4_; subst f5_))
        obtain ⟨dD, dR, dj⟩ := Kd.R_slice aW.o
        (first | subst dj | (injection dj with f1_ f2_ f3_; have f4_ := f1_.symm; have f5_ := f3_.symm; clear f1_ f2_ f3_; subst f4_; subst f5_))
        refine hK.out _ _ (bc3 ai) (fun aM => ?_); clear hK K; refine nm_ 40 ?_; refine pw_ 8 41 (mk_ 11 1023) b1 ?_; exact norm_ (by simp only [putAll, Act.put, mD, mE, mF]; first | done | rfl) (hJ4_7_9 (.slice dD bt.length dR, .slice dl bL.length dm, aU) _ ⟨aM, (by exact Kd.R_mono aW.o (fun _ hk => ⟨hk.2, hk.1⟩)), (by exact Kd.R_mono bb.o (fun _ hk => ⟨hk.2, hk.1.2⟩)), (by exact Kd.S_mono ab.o (fun _ hk => ⟨hk.1.1, ⟨hk.2, hk.1.2⟩⟩)), aa.o, am.o, al.o, ai.o, ap.o, bH.o, bC.o, az.o, aH.o, aA.o, aI.o, aq.o, aD.o, HB.o⟩)
       skip
       rintro ⟨cF, cG⟩ w37 ⟨aM, h0_, h1_, h2_, h3_, h4_, h5_, h6_, h7_⟩
       clear ab aa am al ai HB; try dsimp only at aM h0_ h1_ h2_ h3_ h4_ h5_ h6_ h7_
       have aW := A_ h0_; have bb := A_ h1_; have ab := A_ h2_; have aa := A_ h3_; have am := A_ h4_; have al := A_ h5_; have ai := A_ h6_; have HB := A_ h7_; clear h0_ h1_ h2_ h3_ h4_ h5_ h6_ h7_
       obtain ⟨dD, dR, dj⟩ := Kd.R_slice bb.o
       (first | subst dj | (injection dj with f1_ f2_ f3_; have f4_ := f1_.symm; have f5_ := f3_.symm; clear f1_ f2_ f3_; subst f4_; subst f5_))
       obtain ⟨cm, co, dT⟩ := Kd.R_slice aW.o
       (first | subst dT | (injection dT with f1_ f2_ f3_; have f4_ := f1_.symm; have f5_ := f3_.symm; clear f1_ f2_ f3_; subst f4_; subst f5_))
       refine norm_ (by simp only [putAll, Act.put, mD, mE, mF]; rfl) ?_
       refine one_ (i := 9) (N := some 9) (mk_ 11 1023) rfl rfl (one_of b1.o (by kernel_rfl)) (by decide) (fun K hK => ?_); refine box_step rfl (N := 9) rfl (cs := #[.int .i64 0, .slice none 0 0, .slice none 0 0, .slice none 0 0]) (t := 29) (by go_simp; done) ?_; intro aU hg w40 hbox hb; replace ab := A_ (Kd.S_below ab.o hb); replace aa := A_ (Kd.R_below aa.o hb); replace aW := A_ (Kd.R_below aW.o hb); replace bb := A_ (Kd.R_below bb.o hb); have ap := A_ (hbox); have bH := A_ (lg_ (below_size HB.o) hg); have bC := A_ (lg_ (below_size HB.o) hg); replace HB := bs_ HB hb; have az := nl_ am hg; have aH := ng_ am hg; replace am := bb_ am hb; have aA := nl_ al hg; have aI := ng_ al hg; replace al := bb_ al hb; have aq := nl_ ai hg; have aD := ng_ ai hg; replace ai := bb_ ai hb; clear hb hbox hg; refine hK.out _ _ (bc3 ai) (fun aM => ?_); clear hK K; refine nm_ 9 ?_; exact norm_ (by simp only [putAll, Act.put, mD, mE, mF]; first | done | rfl) (hJ4_7_9 (.slice cm bt.length co, .slice dD bL.length dR, aU) _ ⟨aM, aW.o, bb.o, ab.o, aa.o, am.o, al.o, ai.o, ap.o, bH.o, bC.o, az.o, aH.o, aA.o, aI.o, aq.o, aD.o, HB.o⟩)
      rintro ⟨cF, cG, aU⟩ w38 ⟨aM, h0_, h1_, h2_, h3_, h4_, h5_, h6_, h7_, h8_, h9_, b2, b3, b4, b5, b6, cB, ff⟩
      clear ab aa am al ai HB; try dsimp only at aM h0_ h1_ h2_ h3_ h4_ h5_ h6_ h7_ h8_ h9_ b2 b3 b4 b5 b6 cB ff
      have aW := A_ h0_; have bb := A_ h1_; have ab := A_ h2_; have aa := A_ h3_; have am := A_ h4_; have al := A_ h5_; have ai := A_ h6_; have ap := A_ h7_; have bH := A_ h8_; have bC := A_ h9_; have az := A_ b2; have aH := A_ b3; have aA := A_ b4; have aI := A_ b5; have aq := A_ b6; have aD := A_ cB; have HB := A_ ff; clear h0_ h1_ h2_ h3_ h4_ h5_ h6_ h7_ h8_ h9_ b2 b3 b4 b5 b6 cB ff
      obtain ⟨cm, co, dT⟩ := Kd.R_slice bb.o
      (first | subst dT | (injection dT with f1_ f2_ f3_; have f4_ := f1_.symm; have f5_ := f3_.symm; clear f1_ f2_ f3_; subst f4_; subst f5_))
      obtain ⟨dC, di, hf⟩ := Kd.R_slice aW.o
      (first | subst hf | (injection hf with f1_ f2_ f3_; have f4_ := f1_.symm; have f5_ := f3_.symm; clear f1_ f2_ f3_; subst f4_; subst f5_))
      refine norm_ (by simp only [putAll, Act.put, mD, mE, mF]; rfl) ?_
      refine one_ (i := 10) (N := none) (mk_ 11 2047) rfl rfl (one_of b1.o (by kernel_rfl)) (by decide) (fun K hK => ?_)
      have hs41 : w38.cell? ⟨aU, 0, none⟩ = some (.int .i64 0) := bz0 ap.o
      have hfs41 := blk_frozen ap.o 0; have hns41_0 := az.o; have hns41_1 := aA.o; have hns41_2 := aq.o; have hms41_0 := aH.o; have hms41_1 := aI.o; have hms41_2 := aD.o
      have hs42 : w38.cell? ⟨aU, 1, none⟩ = some (.slice none 0 0) := bz1 ap.o
      have hfs42 := blk_frozen ap.o 1; have hns42_0 := az.o; have hns42_1 := aA.o; have hns42_2 := aq.o; have hms42_0 := aH.o; have hms42_1 := aI.o; have hms42_2 := aD.o
      have hs43 : w38.cell? ⟨aU, 2, none⟩ = some (.slice none 0 0) := bz2 ap.o
      have hfs43 := blk_frozen ap.o 2; have hns43_0 := az.o; have hns43_1 := aA.o; have hns43_2 := aq.o; have hms43_0 := aH.o; have hms43_1 := aI.o; have hms43_2 := aD.o
      have hs44 : w38.cell? ⟨aU, 3, none⟩ = some (.slice none 0 0) := bz3 ap.o
      have hfs44 := blk_frozen ap.o 3; have hns44_0 := az.o; have hns44_1 := aA.o; have hns44_2 := aq.o; have hms44_0 := aH.o; have hms44_1 := aI.o; have hms44_2 := aD.o; refine skip_ (w1 := ?_) (by rfl) rfl ?_ ?_; rotate_left
      ·go_simp
       rfl
      refine hK.out _ _ ⟨((cell_far (p := ⟨aU, _, none⟩) aq.o _).trans (((cell_far (p := ⟨aU, _, none⟩) aq.o _).trans (((cell_far (p := ⟨aU, _, none⟩) aq.o _).trans (((cell_far (p := ⟨aU, _, none⟩) aq.o _).trans (aM.1)))))))), ((cell_far (p := ⟨aU, _, none⟩) aq.o _).trans (((cell_far (p := ⟨aU, _, none⟩) aq.o _).trans (((cell_far (p := ⟨aU, _, none⟩) aq.o _).trans (((cell_far (p := ⟨aU, _, none⟩) aq.o _).trans (aM.2.1)))))))), ((cell_far (p := ⟨aU, _, none⟩) aq.o _).trans (((cell_far (p := ⟨aU, _, none⟩) aq.o _).trans (((cell_far (p := ⟨aU, _, none⟩) aq.o _).trans (((cell_far (p := ⟨aU, _, none⟩) aq.o _).trans (aM.2.2))))))))⟩ (fun aM => ?_); clear hK K; refine done_ (done_of b1.o (by kernel_rfl)) ?_
      generalize h_ : ((((w38.setCell ⟨aU, 0, none⟩ (.int .i64 ay)).setCell ⟨aU, 1, none⟩ (.slice dC bt.length di)).setCell ⟨aU, 2, none⟩ (.slice none 0 0)).setCell ⟨aU, 3, none⟩ (.slice cm bL.length co)) = w45
      replace ab : Aside0 (Kd.S (Kd.slice 3 (Kd.int .i64)) 23 w45 w.heap.size (o3 (.slice bf aX.length bg) (.slice dC bt.length di) (.slice cm bL.length co)) (.slice bi ac.length aQ) ac) := ⟨by rw [← h_]; exact Kd.S_mono (gS4_ (tS_ ab ap)) (fun _ hk => ⟨hk.1.2.2, ⟨hk.1.1, hk.1.2.1⟩⟩)⟩; replace aa : Aside0 (Kd.R (Kd.int .i64) 3 w45 w.heap.size (o2 (.slice dC bt.length di) (.slice cm bL.length co)) (.slice bf aX.length bg) aX) := ⟨by rw [← h_]; exact Kd.R_mono (gR4_ (tR_ aa ap)) (fun _ hk => ⟨hk.1.1, hk.1.2⟩)⟩; replace aW : Aside0 (Kd.R (Kd.int .i64) 3 w45 w.heap.size (o2 (.slice bf aX.length bg) (.slice cm bL.length co)) (.slice dC bt.length di) bt) := ⟨by rw [← h_]; exact Kd.R_mono (gR4_ (tR_ aW ap)) (fun _ hk => ⟨hk.1.2, hk.1.1⟩)⟩; replace bb : Aside0 (Kd.R (Kd.int .i64) 3 w45 w.heap.size (o2 (.slice bf aX.length bg) (.slice dC bt.length di)) (.slice cm bL.length co) bL) := ⟨by rw [← h_]; exact Kd.R_mono (gR4_ (tR_ bb ap)) (fun _ hk => ⟨hk.1.2, hk.1.1⟩)⟩; replace am : Aside0 (w45.heap[bp]? = some (.cells #[.int .i64 bQ, .slice bX bJ.length bZ, .slice bY bK.length b0] 32 (0, 0))) := ⟨by rw [← h_]; exact fa_ az (fa_ az (fa_ az (fa_ az am.o)))⟩; replace al : Aside0 (w45.heap[bm]? = some (.cells #[.int .i64 0, .slice none 0 0, .slice none 0 0, .slice none 0 0] 29 (0, 0))) := ⟨by rw [← h_]; exact fa_ aA (fa_ aA (fa_ aA (fa_ aA al.o)))⟩; replace ai : Aside0 (w45.heap[aK]? = some (.cells #[.int .i64 ay, .slice bi ac.length aQ, .slice bf aX.length bg] 32 (0, 0))) := ⟨by rw [← h_]; exact fa_ aq (fa_ aq (fa_ aq (fa_ aq ai.o)))⟩; replace ap : Aside0 (w45.heap[aU]? = some (.cells #[.int .i64 ay, .slice dC bt.length di, .slice none 0 0, .slice cm bL.length co] 29 (0, 0))) := ⟨by rw [← h_]; exact pu_ 3 (pu_ 2 (pu_ 1 (pu_ 0 ap.o rfl) rfl) rfl) rfl⟩; replace HB : Aside0 (Below w.heap.size w w45) := ⟨by rw [← h_]; repeat (first | (with_reducible first | exact HB.o | apply below_alloc | apply pw_below_drewN | apply below_drew1 | refine below_set ?_ cK.o | refine below_set ?_ cL.o | refine below_set ?_ cN.o | refine below_set ?_ bC.o) | exact HB.o)⟩; clear h_; have kd := aH.o; have kC := az.o; have ke := aI.o; have kD := aA.o; have kf := aD.o; have kE := aq.o; have eo := bq4 ap.o
      have iy : 0 ≤ (0 : Int) := (by omega)
      have iz : (0 : Int) < ((bt.length : Int) : Int) := oa_
      have qi26 : (0 < bt.length) = True := eq_true (by omega)
      obtain ⟨el, kZ, g7, ht, gl26, cl26, HG26⟩ := Kd.R_form aW.o (by omega)
      (first | cases g7 | (injection g7 with ea_ en_ ec_; (first | subst ea_ | (injection ea_ with ea_; subst ea_)); subst ec_; clear en_))
      have GB26 := A_ ht; have GG26 := A_ HG26; clear ht gl26 HG26; obtain ⟨dn, dX⟩ := Kd.R_celln 0 aW.o (0 : Int) iy iz
      (try rw [show ((0 : Int)).toNat = 0 from rfl] at dn)
      (try simp only [Nat.reduceMul, Nat.zero_mul, Nat.zero_add, Nat.reduceAdd] at dn)
      (try rw [show ((0 : Int)).toNat = 0 from rfl] at dX)
      (try simp only [Nat.reduceMul, Nat.zero_mul, Nat.zero_add, Nat.reduceAdd] at dX)
      replace iy := eq_true iy; replace iz := eq_true iz; obtain ⟨hy50_, hz50_⟩ := Kd.R_celln 0 aW.o (0 : Int) (by omega) oa_
      (try simp only [Int.reduceToNat, Int.toNat_zero, Int.toNat_ofNat, Nat.reduceMul, Nat.zero_mul, Nat.zero_add] at hy50_ hz50_)
      (try rw [show ((0 : Int)).toNat = 0 from rfl] at hy50_)
      (try rw [show ((0 : Int)).toNat = 0 from rfl] at hz50_)
      have eX := Kd.R_putg aW.o (0 : Int) 1
      try go_wp2_with (first | ((with_reducible refine gate_store (t := 3) (p := 44) rfl ?_); refine store_event (t := 3) (p := 44) (v := ?vo_w51) (w1 := (w45.setCell ⟨el, (0 : Int).toNat, none⟩ (.int .i64 1))) ?hg ?ho ?hn ?hr ?_; (case ho => rfl); (case hg => rfl); (case hn => rfl); (case hr => first | (go_simp; done) | (go_simp; rfl) | (obtain ⟨_, _, rfl⟩ := Kd.R_slice aW.o; go_simp; first | done | rfl) | (obtain ⟨_, _, rfl⟩ := Kd.R_slice (Kd.S_R aW.o); go_simp; first | done | rfl)); intro w51 hw; have hg : w45.grownBy w51 (some el) := (by rw [hw]; exact eX.2); have hp_ : Kd.R (Kd.int .i64) 3 w51 w.heap.size (o2 (.slice bf aX.length bg) (.slice cm bL.length co)) (.slice (some ⟨el, 0, none⟩) bt.length di) fI := (by rw [hw, f5.o]; exact eX.1); clear eX; replace ab := sB_ (ok := (o2 (.slice bf aX.length bg) (.slice cm bL.length co))) hp_ ab (fun _ hk => ⟨⟨hk.1, hk.2.2⟩, hk.2.1⟩) hg; replace aa := rB_ (ok := (o1 (.slice cm bL.length co))) hp_ aa (fun _ hk => ⟨hk.2, hk.1⟩) hg; replace am := gR_ aW am hg; replace al := gR_ aW al hg; replace ai := gR_ aW ai hg; replace bb := rA_ (ok := (o1 (.slice bf aX.length bg))) hp_ bb hg; replace ap := gR_ aW ap hg; replace aW := A_ (hp_); replace HB := A_ ((by rw [hw]; exact below_set (HB.o) GB26.o : Below w.heap.size w w51)); clear hg hw hp_))
      go_loopg [10] kj3 (fun kq k7 w' => ∃ (bn : Int) (aJ : List Int) (bw : List Int) (bk : List Int) (af : Value) (ae : Value) (ag : Value), k7 = .int .i64 bn ∧ Aside0 (spec_CountingForm.l0 kq a1 (ac.length : Int) bn ay ac aJ ay bw bk = some (r1, r2, r3, r4, r5)) ∧ Aside0 (kq ≤ kj3) ∧ Aside0 (Kd.S (Kd.slice 3 (Kd.int .i64)) 23 w' w.heap.size (o3 af ae ag) (.slice bi ac.length aQ) ac) ∧ Aside0 (Kd.R (Kd.int .i64) 3 w' w.heap.size (o2 ae ag) af aJ) ∧ Aside0 (Kd.R (Kd.int .i64) 3 w' w.heap.size (o2 af ag) ae bw) ∧ Aside0 (Kd.R (Kd.int .i64) 3 w' w.heap.size (o2 af ae) ag bk) ∧ Aside0 (w'.heap[bp]? = some (.cells #[.int .i64 bQ, (.slice bX bJ.length bZ), (.slice bY bK.length b0)] 32 (0, 0))) ∧ Aside0 (w'.heap[bm]? = some (.cells #[.int .i64 0, (.slice none 0 0), (.slice none 0 0), (.slice none 0 0)] 29 (0, 0))) ∧ Aside0 (w'.heap[aK]? = some (.cells #[.int .i64 ay, (.slice bi ac.length aQ), af] 32 (0, 0))) ∧ Aside0 (w'.heap[aU]? = some (.cells #[.int .i64 ay, ae, (.slice none 0 0), ag] 29 (0, 0))) ∧ Aside0 (Below w.heap.size w w'))
      case atStart => exact ⟨(0), (aX), (fI), (bL), (.slice bf aX.length bg), (.slice (some ⟨el, 0, none⟩) bt.length di), (.slice cm bL.length co), (by rfl), H', ⟨Nat.le_refl _⟩, ⟨by exact Kd.S_mono ab.o (fun _ hk => ⟨hk.1.1, ⟨hk.2, hk.1.2⟩⟩)⟩, ⟨by exact Kd.R_mono aa.o (fun _ hk => ⟨hk.2, hk.1⟩)⟩, ⟨aW.o⟩, ⟨bb.o⟩, ⟨am.o⟩, ⟨al.o⟩, ⟨ai.o⟩, ⟨ap.o⟩, ⟨HB.o⟩⟩
      case round =>
       clear H'
       clear iy iz qi26 eo dn
       obtain ⟨bn, aJ, bw, bk, af, ae, ag, rfl, HA, b8, ab, aa, aj, ah, am, al, ai, ap, HB⟩ := hrel
       cases gk with
       | zero => exact nz_ HA.o
       | succ k2 =>
        have H := HA.o; clear HA; simp only [spec_CountingForm.l0] at H
        by_cases c52 : bn < (ac.length : Int)
        ·rw [if_pos c52] at H; have eE := decide_eq_true c52; clear c52
         by_cases c53 : 0 ≤ bn
         ·rw [if_pos c53] at H; have jW := decide_eq_true c53; clear c53
          by_cases c54 : bn < (aJ.length : Int)
          ·rw [if_pos c54] at H; have jX := decide_eq_true c54; clear c54
           by_cases c55 : (rd aJ bn) = a1
           ·rw [if_pos c55] at H
            have gp : ((rd aJ bn) == a1) = true := beq_iff_eq.mpr c55
            have gq : ((rd aJ bn) != a1) = false := bne_eq_false_iff_eq.mpr c55
            clear c55; obtain ⟨cq, dz⟩ : ∃ j_ : Int, (wrap64 ((ac.length : Int) + bn)) = j_ := ⟨_, rfl⟩; replace H : (if 0 ≤ (cq) then (if (cq) < (bk.length : Int) then (spec_CountingForm.l0 k2 a1 (ac.length : Int) (wrap64 (bn + 1)) ay ac aJ ay bw (bk.set ((cq) : Int).toNat 1)) else (none)) else (none)) = some (r1, r2, r3, r4, r5) := by first | (rw [dz] at H; exact H) | (simp only [dz] at H ⊢; exact H)
            have i4 : (IntKind.i64.wrap ((ac.length : Int) + bn)) = cq := (i64_w _).trans dz
            by_cases c57 : 0 ≤ (cq)
            ·rw [if_pos c57] at H; have jY := decide_eq_true c57; clear c57
             by_cases c58 : (cq) < (bk.length : Int)
             ·rw [if_pos c58] at H; have jZ := decide_eq_true c58; clear c58; obtain ⟨fJ, d5⟩ := ex_ ((bk.set ((cq) : Int).toNat 1) : List Int); replace H : (spec_CountingForm.l0 k2 a1 (ac.length : Int) (wrap64 (bn + 1)) ay ac aJ ay bw fJ) = some (r1, r2, r3, r4, r5) := by (rw [d5]; with_reducible exact H)
              have f6 := A_ d5; clear d5
              have H' := A_ H
              clear H; have kg := bu.o; have kF := bd.o; have kh := bo.o; have kG := ba.o; have ki := aq.o; have kH := aD.o; have hZ := bq3 ai.o; obtain ⟨kX, ek, i0⟩ := Kd.R_slice aa.o; subst i0
              have dp : 0 ≤ (bn : Int) := oa_
              have dq : bn < (aJ.length : Int) := oa_
              obtain ⟨cO, fe, er⟩ := Kd.at_int (Kd.R_reads' aa.o).2.2 bn dp dq
              cases fe
              replace dp := eq_true dp; replace dq := eq_true dq; have kj := aH.o; have kI := az.o; have kk := aI.o; have kJ := aA.o; have h8 := bq4 ap.o
              have jv : 0 ≤ ((cq) : Int) := oa_
              have jw : ((cq) : Int) < ((bk.length : Int) : Int) := oa_
              obtain ⟨em, gN, hh, hv, gl59, cl59, HG59⟩ := Kd.R_form ah.o (by omega)
              (first | cases hh | (injection hh with ea_ en_ ec_; (first | subst ea_ | (injection ea_ with ea_; subst ea_)); subst ec_; clear en_))
              have GB59 := A_ hv; have GG59 := A_ HG59; clear hv gl59 HG59; obtain ⟨ju, i2⟩ := Kd.R_celln 0 ah.o ((cq) : Int) jv jw; replace jv := eq_true jv; replace jw := eq_true jw; have eY := Kd.R_putg ah.o ((cq) : Int) 1
              go_wp2_with (first | ((with_reducible refine gate_store (t := 3) (p := 62) rfl ?_); refine store_event (t := 3) (p := 62) (w1 := (wr.setCell ⟨em, ((cq) : Int).toNat, none⟩ (.int .i64 1))) rfl rfl rfl (by go_simp; done) ?_; intro w69 hw; have hg : wr.grownBy w69 (some em) := (by rw [hw]; exact eY.2); have hp_ : Kd.R (Kd.int .i64) 3 w69 w.heap.size (o2 (.slice (some cO) aJ.length ek) ae) (.slice (some ⟨em, 0, none⟩) bk.length gN) fJ := (by rw [hw, f6.o]; exact eY.1); clear eY; replace ab := sB_ (ok := (o2 (.slice (some cO) aJ.length ek) ae)) hp_ ab (fun _ hk => ⟨⟨hk.1, hk.2.1⟩, hk.2.2⟩) hg; replace aa := rA_ (ok := (o1 ae)) hp_ aa hg; replace aj := rA_ (ok := (o1 (.slice (some cO) aJ.length ek))) hp_ aj hg; replace am := gR_ ah am hg; replace al := gR_ ah al hg; replace ai := gR_ ah ai hg; replace ap := gR_ ah ap hg; replace ah := A_ (hp_); replace HB := A_ ((by rw [hw]; exact below_set (HB.o) GB59.o : Below w.heap.size w w69)); clear hg hw hp_))
              (try subst bv)
              (try subst dz)
              go_roundg k2
              case measure => have := b7.o; have := b8.o; omega
              case rel => exact ⟨(wrap64 (bn + 1)), (aJ), (bw), (fJ), (.slice (some cO) aJ.length ek), (ae), (.slice (some ⟨em, 0, none⟩) bk.length gN), (by rfl), H', ⟨by have := b7.o; have := b8.o; omega⟩, ⟨by exact Kd.S_mono ab.o (fun _ hk => ⟨hk.1.1, ⟨hk.1.2, hk.2⟩⟩)⟩, ⟨aa.o⟩, ⟨aj.o⟩, ⟨ah.o⟩, ⟨am.o⟩, ⟨al.o⟩, ⟨ai.o⟩, ⟨ap.o⟩, ⟨HB.o⟩⟩
             rw [if_neg c58] at H
             cases H
            rw [if_neg c57] at H
            cases H
           rw [if_neg c55] at H
           have gp : ((rd aJ bn) == a1) = false := beq_eq_false_iff_ne.mpr c55
           have gq : ((rd aJ bn) != a1) = true := bne_iff_ne.mpr c55
           have H' := A_ H
           clear H; have kl := bu.o; have kK := bd.o; have km := bo.o; have kL := ba.o; have kn := aq.o; have kM := aD.o; have h9 := bq3 ai.o; obtain ⟨kY, iP, i1⟩ := Kd.R_slice aa.o; subst i1
           have dp : 0 ≤ (bn : Int) := oa_
           have dq : bn < (aJ.length : Int) := oa_
           obtain ⟨cO, fe, er⟩ := Kd.at_int (Kd.R_reads' aa.o).2.2 bn dp dq
           cases fe
           replace dp := eq_true dp; replace dq := eq_true dq
           go_wp2
           (try subst bv)
           go_roundg k2
           case measure => have := b7.o; have := b8.o; omega
           case rel => exact ⟨(wrap64 (bn + 1)), (aJ), (bw), (bk), (.slice (some cO) aJ.length iP), (ae), (ag), (by rfl), H', ⟨by have := b7.o; have := b8.o; omega⟩, ⟨ab.o⟩, ⟨aa.o⟩, ⟨aj.o⟩, ⟨ah.o⟩, ⟨am.o⟩, ⟨al.o⟩, ⟨ai.o⟩, ⟨ap.o⟩, ⟨HB.o⟩⟩
          rw [if_neg c54] at H
          cases H
         rw [if_neg c53] at H
         cases H
        rw [if_neg c52] at H; have eE := decide_eq_false c52; clear c52
        have H' := A_ H
        clear H
        go_wp2
        go_loopg [11] k2 (fun kq k8 w' => ∃ (a9 : Int) (bR : List Int) (bF : List Int) (au : List (List (List Int))) (bG : List Int) (af : Value) (ae : Value) (bB : Value) (ag : Value), k8 = .int .i64 a9 ∧ Aside0 (spec_CountingForm.l1 kq (ac.length : Int) a9 ay ac bR ay bF au bG = some (r1, r2, r3, r4, r5)) ∧ Aside0 (kq ≤ k2) ∧ Aside0 (Kd.S (Kd.slice 3 (Kd.int .i64)) 23 w' w.heap.size (o3 af ae ag) (.slice bi ac.length aQ) ac) ∧ Aside0 (Kd.R (Kd.int .i64) 3 w' w.heap.size (o2 ae ag) af bR) ∧ Aside0 (Kd.R (Kd.int .i64) 3 w' w.heap.size (o2 af ag) ae bF) ∧ Aside0 (Kd.R (Kd.slice 23 (Kd.slice 3 (Kd.int .i64))) 22 w' w.heap.size (o4 (.slice bi ac.length aQ) af ae ag) bB au) ∧ Aside0 (Kd.R (Kd.int .i64) 3 w' w.heap.size (o2 af ae) ag bG) ∧ Aside0 (w'.heap[bp]? = some (.cells #[.int .i64 bQ, (.slice bX bJ.length bZ), (.slice bY bK.length b0)] 32 (0, 0))) ∧ Aside0 (w'.heap[bm]? = some (.cells #[.int .i64 0, (.slice none 0 0), (.slice none 0 0), (.slice none 0 0)] 29 (0, 0))) ∧ Aside0 (w'.heap[aK]? = some (.cells #[.int .i64 ay, (.slice bi ac.length aQ), af] 32 (0, 0))) ∧ Aside0 (w'.heap[aU]? = some (.cells #[.int .i64 ay, ae, bB, ag] 29 (0, 0))) ∧ Aside0 (Below w.heap.size w w'))
        case atStart => exact ⟨(0), (aJ), (bw), (([] : List (List (List Int)))), (bk), (af), (ae), (.slice none 0 0), (ag), (by rfl), H', ⟨Nat.le_refl _⟩, ⟨ab.o⟩, ⟨aa.o⟩, ⟨aj.o⟩, ⟨by exact Kd.R_nil _ _ _ _ _⟩, ⟨ah.o⟩, ⟨am.o⟩, ⟨al.o⟩, ⟨ai.o⟩, ⟨ap.o⟩, ⟨HB.o⟩⟩
        case round =>
         clear H'
         try clear eE
         obtain ⟨a9, bR, bF, au, bG, af, ae, bB, ag, rfl, HA, ci, ab, aa, aj, ak, ah, am, al, ai, ap, HB⟩ := hrel
         cases gk with
         | zero => exact nz_ HA.o
         | succ k3 =>
          have H := HA.o; clear HA; simp only [spec_CountingForm.l1] at H
          by_cases c75 : a9 < ay
          ·rw [if_pos c75] at H; have eF := decide_eq_true c75; clear c75; obtain ⟨hP, d6⟩ := ex_ ((([] : List (List Int))) : List (List Int)); replace H : (spec_CountingForm.l2 k3 (ac.length : Int) a9 hP 0 ay ac bR ay bF au bG) = some (r1, r2, r3, r4, r5) := by (rw [d6]; with_reducible exact H)
           have f8 := A_ d6; clear d6
           have H' := A_ H
           clear H; have ko := bu.o; have kN := bd.o; have kp := bo.o; have kO := ba.o; have kr := aq.o; have kP := aD.o; have ep := bq3 ai.o
           go_wp2_with (first | ((with_reducible refine gate_dst (N := 69) rfl ?_); refine Kd.S_lit (Kd.slice 3 (Kd.int .i64)) _ 23 ?hg (N := 69) ?hd (xs := ([] : List (List Int))) (inner := []) (ok := fun _ => True) (okp := fun _ => True) ?hr ?hp (fun _ hk => hk) trivial (Below.refl _ _) (Nat.le_refl _) (by simp) ?_; (case hd | hg => rfl); (case hr => go_simp; done); (case hp => exact (Reps.none _ _)); rintro le w80 dY hb - -; (rw [← f8.o] at dY); replace ak := A_ (Kd.R_elder' ak.o (Kd.S_base dY) hb); have fW := A_ (Kd.S_lower (Kd.S_new' (Kd.S_new' (Kd.S_new' (Kd.S_new' dY (Kd.S_lt ab.o)) (Kd.R_lt aa.o)) (Kd.R_lt aj.o)) (Kd.R_lt ah.o)) (below_size HB.o)); replace ab := A_ (Kd.S_elder' ab.o (Kd.S_base dY) hb); replace aa := A_ (Kd.R_below aa.o hb); replace aj := A_ (Kd.R_below aj.o hb); replace ah := A_ (Kd.R_below ah.o hb); replace am := bb_ am hb; replace al := bb_ al hb; replace ai := bb_ ai hb; replace ap := bb_ ap hb; replace HB := bs_ HB hb; clear hb dY))
           go_loopg [12, 13] k3 (fun kq jy k9 w' => ∃ (be : List (List Int)) (aN : Int) (av : List Int) (aw : List Int) (ax : List Int) (af : Value) (ae : Value) (ag : Value), k9 = .int .i64 aN ∧ Aside0 (spec_CountingForm.l2 kq (ac.length : Int) a9 be aN ay ac av ay aw au ax = some (r1, r2, r3, r4, r5)) ∧ Aside0 (kq ≤ k3) ∧ Aside0 (Kd.S (Kd.slice 3 (Kd.int .i64)) 23 w' w.heap.size (o4 (.slice bi ac.length aQ) af ae ag) jy be) ∧ Aside0 (Kd.S (Kd.slice 3 (Kd.int .i64)) 23 w' w.heap.size (o4 jy af ae ag) (.slice bi ac.length aQ) ac) ∧ Aside0 (Kd.R (Kd.int .i64) 3 w' w.heap.size (o2 ae ag) af av) ∧ Aside0 (Kd.R (Kd.int .i64) 3 w' w.heap.size (o2 af ag) ae aw) ∧ Aside0 (Kd.R (Kd.slice 23 (Kd.slice 3 (Kd.int .i64))) 22 w' w.heap.size (o5 jy (.slice bi ac.length aQ) af ae ag) bB au) ∧ Aside0 (Kd.R (Kd.int .i64) 3 w' w.heap.size (o2 af ae) ag ax) ∧ Aside0 (w'.heap[bp]? = some (.cells #[.int .i64 bQ, (.slice bX bJ.length bZ), (.slice bY bK.length b0)] 32 (0, 0))) ∧ Aside0 (w'.heap[bm]? = some (.cells #[.int .i64 0, (.slice none 0 0), (.slice none 0 0), (.slice none 0 0)] 29 (0, 0))) ∧ Aside0 (w'.heap[aK]? = some (.cells #[.int .i64 ay, (.slice bi ac.length aQ), af] 32 (0, 0))) ∧ Aside0 (w'.heap[aU]? = some (.cells #[.int .i64 ay, ae, bB, ag] 29 (0, 0))) ∧ Aside0 (Below w.heap.size w w'))
           case atStart => exact ⟨(hP), (0), (bR), (bF), (bG), (af), (ae), (ag), (by rfl), H', ⟨Nat.le_refl _⟩, ⟨by exact Kd.S_mono fW.o (fun _ hk => ⟨hk.1.1.1.2, ⟨hk.1.1.2, ⟨hk.1.2, hk.2⟩⟩⟩)⟩, ⟨by exact Kd.S_mono ab.o (fun _ hk => ⟨hk.2, ⟨hk.1.1, ⟨hk.1.2.1, hk.1.2.2⟩⟩⟩)⟩, ⟨aa.o⟩, ⟨aj.o⟩, ⟨by exact Kd.R_mono ak.o (fun _ hk => ⟨hk.2, ⟨hk.1.1, ⟨hk.1.2.1, ⟨hk.1.2.2.1, hk.1.2.2.2⟩⟩⟩⟩)⟩, ⟨ah.o⟩, ⟨am.o⟩, ⟨al.o⟩, ⟨ai.o⟩, ⟨ap.o⟩, ⟨HB.o⟩⟩
           case round =>
            clear H'
            clear eF ep
            obtain ⟨be, aN, av, aw, ax, af, ae, ag, rfl, HA, cj, aG, ab, aa, aj, ak, ah, am, al, ai, ap, HB⟩ := hrel
            cases gk with
            | zero => exact nz_ HA.o
            | succ k4 =>
             have H := HA.o; clear HA; simp only [spec_CountingForm.l2] at H
             (try subst bv)
             by_cases c82 : aN < (wrap64 (2 * (ac.length : Int)))
             ·rw [if_pos c82] at H; have dQ := decide_eq_true c82; clear c82
              (try subst bv)
              obtain ⟨de, bI⟩ : ∃ j_ : Int, (wrap64 (2 * (ac.length : Int))) = j_ := ⟨_, rfl⟩; replace H : (if 0 ≤ (de) then (if (de : Int).toNat ≤ 35184372088832 then (spec_CountingForm.l3 k4 (ac.length : Int) a9 be aN (List.replicate (de : Int).toNat 0) 0 ay ac av ay aw au ax) else (none)) else (none)) = some (r1, r2, r3, r4, r5) := by first | (rw [bI] at H; exact H) | (simp only [bI] at H ⊢; exact H)
              (try rw [bI] at dQ)
              have i5 : (IntKind.i64.wrap (2 * (ac.length : Int))) = de := (i64_w _).trans bI
              by_cases c84 : 0 ≤ (de)
              ·rw [if_pos c84] at H; have gs := eq_true c84; have gt := decide_eq_true c84; clear c84
               by_cases c85 : (de : Int).toNat ≤ 35184372088832
               ·rw [if_pos c85] at H; have gu := eq_true c85; have gv := decide_eq_true c85; clear c85; obtain ⟨hU, d8⟩ := ex_ ((List.replicate (de : Int).toNat 0) : List Int); replace H : (spec_CountingForm.l3 k4 (ac.length : Int) a9 be aN hU 0 ay ac av ay aw au ax) = some (r1, r2, r3, r4, r5) := by (rw [d8]; with_reducible exact H)
                have gc := A_ d8; clear d8
                have H' := A_ H
                clear H
                go_wp2_with (first | ((with_reducible refine gate_dst (N := 78) rfl ?_); refine Kd.R_make (Kd.int .i64) _ 3 rfl (N := 78) rfl 23 _ _ rfl de rfl rfl Try.underlying23 (.int .i64 0) 8 info3 rfl (by decide) (by omega) 0 (ok := fun _ => True) (okp := fun _ => True) rfl (fun _ hk => hk) trivial oa_ (Nat.le_trans (Nat.mul_le_mul_right _ (oa_ : de.toNat ≤ 35184372088832)) (by omega)) (Below.refl _ _) (Nat.le_refl _) ?_; rintro b9 w86 cZ hb - -; (rw [← gc.o] at cZ); replace aG := A_ (Kd.S_elder' aG.o (Kd.R_base cZ) hb); replace ab := A_ (Kd.S_elder' ab.o (Kd.R_base cZ) hb); replace ak := A_ (Kd.R_elder' ak.o (Kd.R_base cZ) hb); have fX := A_ (Kd.R_lower (Kd.R_new' (Kd.R_new' (Kd.R_new' cZ (Kd.R_lt aa.o)) (Kd.R_lt aj.o)) (Kd.R_lt ah.o)) (below_size HB.o)); replace aa := A_ (Kd.R_elder' aa.o (Kd.R_base cZ) hb); replace aj := A_ (Kd.R_elder' aj.o (Kd.R_base cZ) hb); replace ah := A_ (Kd.R_elder' ah.o (Kd.R_base cZ) hb); replace am := bb_ am hb; replace al := bb_ al hb; replace ai := bb_ ai hb; replace ap := bb_ ap hb; replace HB := bs_ HB hb; clear hb cZ))
                go_loopg [15] k4 (fun kq la w' => ∃ (ar : List Int) (ao : Int), la = .int .i64 ao ∧ Aside0 (spec_CountingForm.l3 kq (ac.length : Int) a9 be aN ar ao ay ac av ay aw au ax = some (r1, r2, r3, r4, r5)) ∧ Aside0 (kq ≤ k4) ∧ Aside0 (Kd.S (Kd.slice 3 (Kd.int .i64)) 23 w' w.heap.size (o5 b9 (.slice bi ac.length aQ) af ae ag) u12 be) ∧ Aside0 (Kd.R (Kd.int .i64) 3 w' w.heap.size (o3 af ae ag) b9 ar) ∧ Aside0 (Kd.S (Kd.slice 3 (Kd.int .i64)) 23 w' w.heap.size (o5 u12 b9 af ae ag) (.slice bi ac.length aQ) ac) ∧ Aside0 (Kd.R (Kd.int .i64) 3 w' w.heap.size (o3 b9 ae ag) af av) ∧ Aside0 (Kd.R (Kd.int .i64) 3 w' w.heap.size (o3 b9 af ag) ae aw) ∧ Aside0 (Kd.R (Kd.slice 23 (Kd.slice 3 (Kd.int .i64))) 22 w' w.heap.size (o6 u12 b9 (.slice bi ac.length aQ) af ae ag) bB au) ∧ Aside0 (Kd.R (Kd.int .i64) 3 w' w.heap.size (o3 b9 af ae) ag ax) ∧ Aside0 (w'.heap[bp]? = some (.cells #[.int .i64 bQ, (.slice bX bJ.length bZ), (.slice bY bK.length b0)] 32 (0, 0))) ∧ Aside0 (w'.heap[bm]? = some (.cells #[.int .i64 0, (.slice none 0 0), (.slice none 0 0), (.slice none 0 0)] 29 (0, 0))) ∧ Aside0 (w'.heap[aK]? = some (.cells #[.int .i64 ay, (.slice bi ac.length aQ), af] 32 (0, 0))) ∧ Aside0 (w'.heap[aU]? = some (.cells #[.int .i64 ay, ae, bB, ag] 29 (0, 0))) ∧ Aside0 (Below w.heap.size w w'))
                case atStart => exact ⟨(hU), (0), (by rfl), H', ⟨Nat.le_refl _⟩, ⟨by exact Kd.S_mono aG.o (fun _ hk => ⟨hk.2, ⟨hk.1.1, ⟨hk.1.2.1, ⟨hk.1.2.2.1, hk.1.2.2.2⟩⟩⟩⟩)⟩, ⟨by exact Kd.R_mono fX.o (fun _ hk => ⟨hk.1.1.2, ⟨hk.1.2, hk.2⟩⟩)⟩, ⟨by exact Kd.S_mono ab.o (fun _ hk => ⟨hk.1.1, ⟨hk.2, ⟨hk.1.2.1, ⟨hk.1.2.2.1, hk.1.2.2.2⟩⟩⟩⟩)⟩, ⟨by exact Kd.R_mono aa.o (fun _ hk => ⟨hk.2, ⟨hk.1.1, hk.1.2⟩⟩)⟩, ⟨by exact Kd.R_mono aj.o (fun _ hk => ⟨hk.2, ⟨hk.1.1, hk.1.2⟩⟩)⟩, ⟨by exact Kd.R_mono ak.o (fun _ hk => ⟨hk.1.1, ⟨hk.2, ⟨hk.1.2.1, ⟨hk.1.2.2.1, ⟨hk.1.2.2.2.1, hk.1.2.2.2.2⟩⟩⟩⟩⟩)⟩, ⟨by exact Kd.R_mono ah.o (fun _ hk => ⟨hk.2, ⟨hk.1.1, hk.1.2⟩⟩)⟩, ⟨am.o⟩, ⟨al.o⟩, ⟨ai.o⟩, ⟨ap.o⟩, ⟨HB.o⟩⟩
                case round =>
                 clear H'
                 clear dQ gs gt gu gv
                 obtain ⟨ar, ao, rfl, HA, cr, aG, an, ab, aa, aj, ak, ah, am, al, ai, ap, HB⟩ := hrel
                 cases gk with
                 | zero => exact nz_ HA.o
                 | succ k5 =>
                  have H := HA.o; clear HA; simp only [spec_CountingForm.l3] at H
                  by_cases c88 : ao < ay
                  ·rw [if_pos c88] at H; have eG := decide_eq_true c88; clear c88
                   by_cases c89 : (ac.length : Int) = 0
                   ·rw [if_pos c89] at H
                    cases H
                   rw [if_neg c89] at H
                   have gw : ((ac.length : Int) == 0) = false := beq_eq_false_iff_ne.mpr c89
                   have gx : ((ac.length : Int) != 0) = true := bne_iff_ne.mpr c89
                   have gy : ¬ (ac = []) := fun h_ => c89 (by rw [h_]; rfl)
                   obtain ⟨aC, bW⟩ : ∃ j_ : Int, (Int.tmod aN (ac.length : Int)) = j_ := ⟨_, rfl⟩; replace H : (if 0 ≤ (aC) then (if (aC) < (ac.length : Int) then (if 0 ≤ ao then (if ao < ((rd_L1 ac (aC)).length : Int) then (if aN < (ac.length : Int) then (spec_CountingForm.j5 k5 (ac.length : Int) a9 be aN ar ao (rd (rd_L1 ac (aC)) ao) (ao == a9) ay ac av ay aw au ax) else (spec_CountingForm.j5 k5 (ac.length : Int) a9 be aN ar ao (rd (rd_L1 ac (aC)) ao) false ay ac av ay aw au ax)) else (none)) else (none)) else (none)) else (none)) = some (r1, r2, r3, r4, r5) := by first | (rw [bW] at H; exact H) | (simp only [bW] at H ⊢; exact H)
                   by_cases c91 : 0 ≤ (aC)
                   ·rw [if_pos c91] at H; have gz := decide_eq_true c91; clear c91
                    by_cases c92 : (aC) < (ac.length : Int)
                    ·rw [if_pos c92] at H; have gB := decide_eq_true c92; clear c92
                     by_cases c93 : 0 ≤ ao
                     ·rw [if_pos c93] at H; have gC := decide_eq_true c93; clear c93
                      by_cases c94 : ao < ((rd_L1 ac (aC)).length : Int)
                      ·rw [if_pos c94] at H; have gD := decide_eq_true c94; clear c94; have HC95 := A_ H; clear H; have kt := bu.o; have kQ := bd.o; have ku := bo.o; have kS := ba.o; have kv := aq.o; have kT := aD.o; have eq := bq3 ai.o
                       try go_wp2
                       replace aG := A_ (Kd.S_drew aG.o); replace an := A_ (Kd.R_drew an.o); replace ab := A_ (Kd.S_drew ab.o); replace aa := A_ (Kd.R_drew aa.o); replace aj := A_ (Kd.R_drew aj.o); replace ak := A_ (Kd.R_drew ak.o); replace ah := A_ (Kd.R_drew ah.o); replace am := A_ (blk_drew am.o); replace al := A_ (blk_drew al.o); replace ai := A_ (blk_drew ai.o); replace ap := A_ (blk_drew ap.o); replace HB := A_ (below_drew1 HB.o)
                       have eh : 0 ≤ ((aC) : Int) := oa_
                       have ei : (aC) < (ac.length : Int) := oa_
                       obtain ⟨bl, iA, fc, iQ, cx, dA, dy⟩ := at_L1 (Kd.S_reads' ab.o).2.2 (aC) eh ei
                       cases iQ
                       obtain ⟨ce312, hce312, hMe312, hcc312⟩ := Kd.S_get ab.o [] (aC) eh (by exact ei); obtain ⟨ve312_0, rfl, ge312_0⟩ := hMe312; have hv312_0 := hcc312 0 _ rfl; rw [Nat.add_zero, show ((Kd.slice 3 (Kd.int .i64))).sz = 1 from rfl, Nat.mul_one] at hv312_0; replace hv312_0 := Option.some.inj (hv312_0.symm.trans cx); rw [hv312_0] at ge312_0; have HL312_0 := A_ (show Kd.R (Kd.int .i64) 3 _ _ _ _ (rd_L1 ac (aC)) from ge312_0); clear hv312_0 ge312_0 hcc312 hce312; have bM := A_ dy; have hW := A_ dA; clear dy dA; replace eh := eq_true eh; replace ei := eq_true ei
                       have ey : 0 ≤ (ao : Int) := oa_
                       have ez : ao < ((rd_L1 ac (aC)).length : Int) := oa_
                       obtain ⟨dP, iR, da⟩ := Kd.at_int (by repeat (first | (with_reducible exact bM.o) | (with_reducible refine Kd.C_alloc ?_ _) | (with_reducible refine Kd.C_drewN ?_ _) | (with_reducible refine Kd.C_drew ?_) | exact bM.o)) ao ey ez
                       cases iR
                       replace ey := eq_true ey; replace ez := eq_true ez; refine start_ (n := 11) (S := fun w' => w'.cell? ⟨aK, 0, none⟩ = some (.int .i64 ay) ∧ w'.cell? ⟨aK, 1, none⟩ = some (.slice (some bl) ac.length aQ) ∧ w'.cell? ⟨aK, 2, none⟩ = some (af) ∧ w'.cell? (bl.add ((aC)).toNat) = some (.slice (some dP) (rd_L1 ac (aC)).length fc) ∧ w'.cell? (dP.add (ao).toNat) = some (.int .i64 (rd (rd_L1 ac (aC)) ao))) (ds := []) (mk_ 11 0) (by kernel_rfl) rfl rfl ⟨bz0 ai.o, bz1 ai.o, bz2 ai.o, cx, da⟩ (fun aM => ?_); refine with_tabW spec_CountingForm.tab23 spec_CountingForm.bits23 (fun b1 f4 => ?_)
                       generalize wr.drew = w100 at aG an ab aa aj ak ah am al ai ap HB HL312_0 bM cx da aM ⊢
                       refine pw_ 0 85 (mk_ 11 1) b1 ?_; refine pw_ 2 87 (mk_ 11 5) b1 ?_; refine pw_ 3 88 (mk_ 11 13) b1 ?_; refine pw_ 4 89 (mk_ 11 29) b1 ?_; refine pw_ 7 92 (mk_ 11 157) b1 ?_; refine tk_ 1 86 (mk_ 11 159) b1 f4 aM ?_; refine pw_ 5 90 (mk_ 11 191) b1 ?_; refine tk_ 6 91 (mk_ 11 255) b1 f4 aM ?_; refine pw_ 8 93 (mk_ 11 511) b1 ?_; refine tk_ 9 94 (mk_ 11 1023) b1 f4 aM ?_; refine pw_ 10 16 (mk_ 11 2047) b1 ?_; refine done_ (done_of b1.o (by kernel_rfl)) ?_
                       go_upto_region 24 with (fail)
                       go_cut [102] (fun jx wc => ∃ (kq : Nat) (cy : Bool), jx = .bool cy ∧ Aside0 (spec_CountingForm.j5 kq (ac.length : Int) a9 be aN ar ao (rd (rd_L1 ac (aC)) ao) cy ay ac av ay aw au ax = some (r1, r2, r3, r4, r5)) ∧ Aside0 (kq ≤ k5) ∧ Aside0 (Kd.S (Kd.slice 3 (Kd.int .i64)) 23 wc w.heap.size (o5 b9 (.slice (some bl) ac.length aQ) af ae ag) u12 be) ∧ Aside0 (Kd.R (Kd.int .i64) 3 wc w.heap.size (o3 af ae ag) b9 ar) ∧ Aside0 (Kd.S (Kd.slice 3 (Kd.int .i64)) 23 wc w.heap.size (o5 u12 b9 af ae ag) (.slice (some bl) ac.length aQ) ac) ∧ Aside0 (Kd.R (Kd.int .i64) 3 wc w.heap.size (o3 b9 ae ag) af av) ∧ Aside0 (Kd.R (Kd.int .i64) 3 wc w.heap.size (o3 b9 af ag) ae aw) ∧ Aside0 (Kd.R (Kd.slice 23 (Kd.slice 3 (Kd.int .i64))) 22 wc w.heap.size (o6 u12 b9 (.slice (some bl) ac.length aQ) af ae ag) bB au) ∧ Aside0 (Kd.R (Kd.int .i64) 3 wc w.heap.size (o3 b9 af ae) ag ax) ∧ Aside0 (wc.heap[bp]? = some (.cells #[.int .i64 bQ, (.slice bX bJ.length bZ), (.slice bY bK.length b0)] 32 (0, 0))) ∧ Aside0 (wc.heap[bm]? = some (.cells #[.int .i64 0, (.slice none 0 0), (.slice none 0 0), (.slice none 0 0)] 29 (0, 0))) ∧ Aside0 (wc.heap[aK]? = some (.cells #[.int .i64 ay, (.slice (some bl) ac.length aQ), af] 32 (0, 0))) ∧ Aside0 (wc.heap[aU]? = some (.cells #[.int .i64 ay, ae, bB, ag] 29 (0, 0))) ∧ Aside0 (Kd.C (Kd.int .i64) wc (some dP) (rd_L1 ac (aC)).length (rd_L1 ac (aC))) ∧ Aside0 (Below w.heap.size w wc))
                       case first =>
                        have H := HC95.o; clear HC95
                        by_cases c101 : aN < (ac.length : Int)
                        ·rw [if_pos c101] at H; have e3 := decide_eq_true c101; clear c101
                         (skip)
                         have H' := A_ H
                         clear H
                         go_wp2
                         go_meet
                         case rel => exact ⟨_, ((ao == a9)), (by rfl), H', ⟨by have := b7.o; have := b8.o; have := ci.o; have := cj.o; have := cr.o; omega⟩, ⟨aG.o⟩, ⟨an.o⟩, ⟨ab.o⟩, ⟨aa.o⟩, ⟨aj.o⟩, ⟨ak.o⟩, ⟨ah.o⟩, ⟨am.o⟩, ⟨al.o⟩, ⟨ai.o⟩, ⟨ap.o⟩, ⟨by repeat (first | (with_reducible exact bM.o) | (with_reducible refine Kd.C_alloc ?_ _) | (with_reducible refine Kd.C_drewN ?_ _) | (with_reducible refine Kd.C_drew ?_) | exact bM.o)⟩, ⟨HB.o⟩⟩
                        rw [if_neg c101] at H; have e3 := decide_eq_false c101; clear c101
                        (skip)
                        have H' := A_ H
                        clear H
                        go_wp2
                        go_meet
                        case rel => exact ⟨_, (false), (by rfl), H', ⟨by have := b7.o; have := b8.o; have := ci.o; have := cj.o; have := cr.o; omega⟩, ⟨aG.o⟩, ⟨an.o⟩, ⟨ab.o⟩, ⟨aa.o⟩, ⟨aj.o⟩, ⟨ak.o⟩, ⟨ah.o⟩, ⟨am.o⟩, ⟨al.o⟩, ⟨ai.o⟩, ⟨ap.o⟩, ⟨by repeat (first | (with_reducible exact bM.o) | (with_reducible refine Kd.C_alloc ?_ _) | (with_reducible refine Kd.C_drewN ?_ _) | (with_reducible refine Kd.C_drew ?_) | exact bM.o)⟩, ⟨HB.o⟩⟩
                       case rest =>
                        clear HC95
                        clear eG c89 gw gx gy gz gB gC gD eq cx da eh ey ei ez
                        obtain ⟨kq, cy, rfl, HA, bP, aG, an, ab, aa, aj, ak, ah, am, al, ai, ap, bM, HB⟩ := hcut
                        cases kq with
                        | zero => exact nz_ HA.o
                        | succ kj94 =>
                         have H := HA.o; clear HA; simp only [spec_CountingForm.j5] at H
                         by_cases c102 : cy = true
                         ·subst c102; rw [if_pos rfl] at H
                          by_cases c103 : 0 ≤ (rd (rd_L1 ac (aC)) ao)
                          ·rw [if_pos c103] at H; have iB := decide_eq_true c103; clear c103
                           by_cases c104 : (rd (rd_L1 ac (aC)) ao) < (ar.length : Int)
                           ·rw [if_pos c104] at H; have iC := decide_eq_true c104; clear c104; obtain ⟨bj, ea⟩ := ex_ ((ar.set ((rd (rd_L1 ac (aC)) ao) : Int).toNat (wrap64 ((rd ar (rd (rd_L1 ac (aC)) ao)) + 1))) : List Int); replace H : (if aN < (ac.length : Int) then (if ao < a9 then (if 0 ≤ (wrap64 ((ac.length : Int) + (rd (rd_L1 ac (aC)) ao))) then (if (wrap64 ((ac.length : Int) + (rd (rd_L1 ac (aC)) ao))) < (ar.length : Int) then (spec_CountingForm.l3 kj94 (ac.length : Int) a9 be aN (bj.set ((wrap64 ((ac.length : Int) + (rd (rd_L1 ac (aC)) ao))) : Int).toNat (wrap64 ((rd bj (wrap64 ((ac.length : Int) + (rd (rd_L1 ac (aC)) ao)))) + 1))) (wrap64 (ao + 1)) ay ac av ay aw au ax) else (none)) else (none)) else (if aN ≥ (ac.length : Int) then (if 0 ≤ (wrap64 ((ac.length : Int) + (rd (rd_L1 ac (aC)) ao))) then (if (wrap64 ((ac.length : Int) + (rd (rd_L1 ac (aC)) ao))) < (ar.length : Int) then (spec_CountingForm.l3 kj94 (ac.length : Int) a9 be aN (bj.set ((wrap64 ((ac.length : Int) + (rd (rd_L1 ac (aC)) ao))) : Int).toNat (wrap64 ((rd bj (wrap64 ((ac.length : Int) + (rd (rd_L1 ac (aC)) ao)))) + 1))) (wrap64 (ao + 1)) ay ac av ay aw au ax) else (none)) else (none)) else (spec_CountingForm.l3 kj94 (ac.length : Int) a9 be aN bj (wrap64 (ao + 1)) ay ac av ay aw au ax))) else (if aN ≥ (ac.length : Int) then (if 0 ≤ (wrap64 ((ac.length : Int) + (rd (rd_L1 ac (aC)) ao))) then (if (wrap64 ((ac.length : Int) + (rd (rd_L1 ac (aC)) ao))) < (ar.length : Int) then (spec_CountingForm.l3 kj94 (ac.length : Int) a9 be aN (bj.set ((wrap64 ((ac.length : Int) + (rd (rd_L1 ac (aC)) ao))) : Int).toNat (wrap64 ((rd bj (wrap64 ((ac.length : Int) + (rd (rd_L1 ac (aC)) ao)))) + 1))) (wrap64 (ao + 1)) ay ac av ay aw au ax) else (none)) else (none)) else (spec_CountingForm.l3 kj94 (ac.length : Int) a9 be aN bj (wrap64 (ao + 1)) ay ac av ay aw au ax))) = some (r1, r2, r3, r4, r5) := by (have H2_ := (Option.bind_some _ _).symm.trans H; rw [ea]; with_reducible exact H2_)
                            have ck := A_ ea; clear ea
                            by_cases c106 : aN < (ac.length : Int)
                            ·rw [if_pos c106] at H; have e4 := decide_eq_true c106; clear c106
                             by_cases c107 : ao < a9
                             ·rw [if_pos c107] at H; have e5 := decide_eq_true c107; clear c107; obtain ⟨bq, cS⟩ : ∃ j_ : Int, (wrap64 ((ac.length : Int) + (rd (rd_L1 ac (aC)) ao))) = j_ := ⟨_, rfl⟩; replace H : (if 0 ≤ (bq) then (if (bq) < (ar.length : Int) then (spec_CountingForm.l3 kj94 (ac.length : Int) a9 be aN (bj.set ((bq) : Int).toNat (wrap64 ((rd bj (bq)) + 1))) (wrap64 (ao + 1)) ay ac av ay aw au ax) else (none)) else (none)) = some (r1, r2, r3, r4, r5) := by first | (rw [cS] at H; exact H) | (simp only [cS] at H ⊢; exact H)
                              have ij : (IntKind.i64.wrap ((ac.length : Int) + (rd (rd_L1 ac (aC)) ao))) = bq := (i64_w _).trans cS
                              by_cases c109 : 0 ≤ (bq)
                              ·rw [if_pos c109] at H; have iD := decide_eq_true c109; clear c109
                               by_cases c110 : (bq) < (ar.length : Int)
                               ·rw [if_pos c110] at H; have iE := decide_eq_true c110; clear c110; obtain ⟨fK, eb⟩ := ex_ ((bj.set ((bq) : Int).toNat (wrap64 ((rd bj (bq)) + 1))) : List Int); replace H : (spec_CountingForm.l3 kj94 (ac.length : Int) a9 be aN fK (wrap64 (ao + 1)) ay ac av ay aw au ax) = some (r1, r2, r3, r4, r5) := by (rw [eb]; with_reducible exact H)
                                have gf := A_ eb; clear eb
                                have H' := A_ H
                                clear H; obtain ⟨jC, eH, gO⟩ := Kd.R_slice an.o; subst gO
                                have bT : 0 ≤ ((rd (rd_L1 ac (aC)) ao) : Int) := oa_
                                have bV : (rd (rd_L1 ac (aC)) ao) < (ar.length : Int) := oa_
                                obtain ⟨dv, cQ, bE⟩ := Kd.at_int (Kd.R_reads' an.o).2.2 (rd (rd_L1 ac (aC)) ao) bT bV
                                cases cQ
                                replace bT := eq_true bT; replace bV := eq_true bV
                                have bS : 0 ≤ ((rd (rd_L1 ac (aC)) ao) : Int) := oa_
                                have bU : ((rd (rd_L1 ac (aC)) ao) : Int) < ((ar.length : Int) : Int) := oa_
                                obtain ⟨bh, dw, bN, bO, gl105, cl105, HG105⟩ := Kd.R_form an.o (by omega)
                                (first | cases bN | (injection bN with ea_ en_ ec_; (first | subst ea_ | (injection ea_ with ea_; subst ea_)); subst ec_; clear en_))
                                have GB105 := A_ bO; have GG105 := A_ HG105; clear bO gl105 HG105
                                (first | simp only [add_plain] at bE | skip)
                                obtain ⟨cw, cv⟩ := Kd.R_celln 0 an.o ((rd (rd_L1 ac (aC)) ao) : Int) bS bU; replace bS := eq_true bS; replace bU := eq_true bU; have dE := Kd.R_putg an.o ((rd (rd_L1 ac (aC)) ao) : Int) (wrap64 ((rd ar (rd (rd_L1 ac (aC)) ao)) + 1))
                                go_wp2_with (first | ((with_reducible refine gate_store (t := 3) (p := 110) rfl ?_); refine store_event (t := 3) (p := 110) (w1 := (wc.setCell ⟨bh, ((rd (rd_L1 ac (aC)) ao) : Int).toNat, none⟩ (.int .i64 (wrap64 ((rd ar (rd (rd_L1 ac (aC)) ao)) + 1))))) rfl rfl rfl (by go_simp; done) ?_; intro w114 hw; have hg : wc.grownBy w114 (some bh) := (by rw [hw]; exact dE.2); have hp_ : Kd.R (Kd.int .i64) 3 w114 w.heap.size (o3 af ae ag) (.slice (some ⟨bh, 0, none⟩) ar.length eH) bj := (by rw [hw, ck.o]; exact dE.1); clear dE; replace aG := sB_ (ok := (o4 (.slice (some bl) ac.length aQ) af ae ag)) hp_ aG (fun _ hk => ⟨⟨hk.2.1, ⟨hk.2.2.1, ⟨hk.2.2.2.1, hk.2.2.2.2⟩⟩⟩, hk.1⟩) hg; replace ab := sB_ (ok := (o4 u12 af ae ag)) hp_ ab (fun _ hk => ⟨⟨hk.1, ⟨hk.2.2.1, ⟨hk.2.2.2.1, hk.2.2.2.2⟩⟩⟩, hk.2.1⟩) hg; replace aa := rB_ (ok := (o2 ae ag)) hp_ aa (fun _ hk => ⟨⟨hk.2.1, hk.2.2⟩, hk.1⟩) hg; replace aj := rB_ (ok := (o2 af ag)) hp_ aj (fun _ hk => ⟨⟨hk.2.1, hk.2.2⟩, hk.1⟩) hg; replace ak := rB_ (ok := (o5 u12 (.slice (some bl) ac.length aQ) af ae ag)) hp_ ak (fun _ hk => ⟨⟨hk.1, ⟨hk.2.2.1, ⟨hk.2.2.2.1, ⟨hk.2.2.2.2.1, hk.2.2.2.2.2⟩⟩⟩⟩, hk.2.1⟩) hg; replace ah := rB_ (ok := (o2 af ae)) hp_ ah (fun _ hk => ⟨⟨hk.2.1, hk.2.2⟩, hk.1⟩) hg; replace am := gR_ an am hg; replace al := gR_ an al hg; replace ai := gR_ an ai hg; replace ap := gR_ an ap hg; replace an := A_ (hp_); replace HB := A_ ((by rw [hw]; exact below_set (HB.o) GB105.o : Below w.heap.size w w114)); clear hg hw hp_; have fo : 0 ≤ ((bq) : Int) := oa_; have fA : (bq) < (bj.length : Int) := (by have h_ : ((bq) : Int) < ((ar.length : Int) : Int) := oa_; first | (have e_ := (Kd.R_reads' an.o).1; omega) | simpa only [ck.o, List.length_set] using h_); have kU : (((bq) : Int) < ((ar.length : Int) : Int)) = True := eq_true oa_; obtain ⟨gm, iS, db⟩ := Kd.at_int (Kd.R_reads' an.o).2.2 (bq) fo fA; obtain rfl : (⟨bh, 0, none⟩ : Addr) = gm := (by injection iS); (first | simp only [add_plain] at db | simp only [add_at] at db | simp only [Addr.add, Nat.zero_add] at db | skip); replace fo := eq_true fo; replace fA := eq_true fA; have fh : 0 ≤ ((bq) : Int) := oa_; have fu : ((bq) : Int) < ((ar.length : Int) : Int) := oa_; obtain ⟨iq, ia⟩ := Kd.R_celln 0 an.o ((bq) : Int) fh fu; replace fh := eq_true fh; replace fu := eq_true fu; obtain ⟨hy115_, hz115_⟩ := Kd.R_celln 0 an.o ((bq) : Int) oa_ oa_; have dF := Kd.R_putg an.o ((bq) : Int) (wrap64 ((rd bj (bq)) + 1))) | ((with_reducible refine gate_store (t := 3) (p := 135) rfl ?_); refine store_event (t := 3) (p := 135) (w1 := (w114.setCell ⟨bh, ((bq) : Int).toNat, none⟩ (.int .i64 (wrap64 ((rd bj (bq)) + 1))))) rfl rfl rfl (by go_simp; done) ?_; intro w116 hw; have hg : w114.grownBy w116 (some bh) := (by rw [hw]; exact dF.2); have hp_ : Kd.R (Kd.int .i64) 3 w116 w.heap.size (o3 af ae ag) (.slice (some ⟨bh, 0, none⟩) ar.length eH) fK := (by rw [hw, gf.o]; exact dF.1); clear dF; replace aG := sA_ (ok := (o4 (.slice (some bl) ac.length aQ) af ae ag)) hp_ aG hg; replace ab := sA_ (ok := (o4 u12 af ae ag)) hp_ ab hg; replace aa := rA_ (ok := (o2 ae ag)) hp_ aa hg; replace aj := rA_ (ok := (o2 af ag)) hp_ aj hg; replace ak := rA_ (ok := (o5 u12 (.slice (some bl) ac.length aQ) af ae ag)) hp_ ak hg; replace ah := rA_ (ok := (o2 af ae)) hp_ ah hg; replace am := gR_ an am hg; replace al := gR_ an al hg; replace ai := gR_ an ai hg; replace ap := gR_ an ap hg; replace an := A_ (hp_); replace HB := A_ ((by rw [hw]; exact below_set (HB.o) GB105.o : Below w.heap.size w w116)); clear hg hw hp_))
                                (try subst bv)
                                (try subst bI)
                                (try subst bW)
                                (try subst cS)
                                go_roundg kj94
                                case measure => have := b7.o; have := b8.o; have := ci.o; have := cj.o; have := cr.o; have := bP.o; omega
                                case rel => exact ⟨(fK), (wrap64 (ao + 1)), (by rfl), H', ⟨by have := b7.o; have := b8.o; have := ci.o; have := cj.o; have := cr.o; have := bP.o; omega⟩, ⟨by exact Kd.S_mono aG.o (fun _ hk => ⟨hk.2, ⟨hk.1.1, ⟨hk.1.2.1, ⟨hk.1.2.2.1, hk.1.2.2.2⟩⟩⟩⟩)⟩, ⟨an.o⟩, ⟨by exact Kd.S_mono ab.o (fun _ hk => ⟨hk.1.1, ⟨hk.2, ⟨hk.1.2.1, ⟨hk.1.2.2.1, hk.1.2.2.2⟩⟩⟩⟩)⟩, ⟨by exact Kd.R_mono aa.o (fun _ hk => ⟨hk.2, ⟨hk.1.1, hk.1.2⟩⟩)⟩, ⟨by exact Kd.R_mono aj.o (fun _ hk => ⟨hk.2, ⟨hk.1.1, hk.1.2⟩⟩)⟩, ⟨by exact Kd.R_mono ak.o (fun _ hk => ⟨hk.1.1, ⟨hk.2, ⟨hk.1.2.1, ⟨hk.1.2.2.1, ⟨hk.1.2.2.2.1, hk.1.2.2.2.2⟩⟩⟩⟩⟩)⟩, ⟨by exact Kd.R_mono ah.o (fun _ hk => ⟨hk.2, ⟨hk.1.1, hk.1.2⟩⟩)⟩, ⟨am.o⟩, ⟨al.o⟩, ⟨ai.o⟩, ⟨ap.o⟩, ⟨HB.o⟩⟩
                               rw [if_neg c110] at H
                               cases H
                              rw [if_neg c109] at H
                              cases H
                             rw [if_neg c107] at H; have e5 := decide_eq_false c107; clear c107
                             by_cases c117 : aN ≥ (ac.length : Int)
                             ·rw [if_pos c117] at H
                              have e6 : decide ((ac.length : Int) ≤ aN) = true := decide_eq_true c117
                              clear c117; obtain ⟨br, cU⟩ : ∃ j_ : Int, (wrap64 ((ac.length : Int) + (rd (rd_L1 ac (aC)) ao))) = j_ := ⟨_, rfl⟩; replace H : (if 0 ≤ (br) then (if (br) < (ar.length : Int) then (spec_CountingForm.l3 kj94 (ac.length : Int) a9 be aN (bj.set ((br) : Int).toNat (wrap64 ((rd bj (br)) + 1))) (wrap64 (ao + 1)) ay ac av ay aw au ax) else (none)) else (none)) = some (r1, r2, r3, r4, r5) := by first | (rw [cU] at H; exact H) | (simp only [cU] at H ⊢; exact H)
                              have ik : (IntKind.i64.wrap ((ac.length : Int) + (rd (rd_L1 ac (aC)) ao))) = br := (i64_w _).trans cU
                              by_cases c119 : 0 ≤ (br)
                              ·rw [if_pos c119] at H; have iF := decide_eq_true c119; clear c119
                               by_cases c120 : (br) < (ar.length : Int)
                               ·rw [if_pos c120] at H; have iG := decide_eq_true c120; clear c120; obtain ⟨fL, ec⟩ := ex_ ((bj.set ((br) : Int).toNat (wrap64 ((rd bj (br)) + 1))) : List Int); replace H : (spec_CountingForm.l3 kj94 (ac.length : Int) a9 be aN fL (wrap64 (ao + 1)) ay ac av ay aw au ax) = some (r1, r2, r3, r4, r5) := by (rw [ec]; with_reducible exact H)
                                have gg := A_ ec; clear ec
                                have H' := A_ H
                                clear H; obtain ⟨jD, eI, gP⟩ := Kd.R_slice an.o; subst gP
                                have bT : 0 ≤ ((rd (rd_L1 ac (aC)) ao) : Int) := oa_
                                have bV : (rd (rd_L1 ac (aC)) ao) < (ar.length : Int) := oa_
                                obtain ⟨dv, cQ, bE⟩ := Kd.at_int (Kd.R_reads' an.o).2.2 (rd (rd_L1 ac (aC)) ao) bT bV
                                cases cQ
                                replace bT := eq_true bT; replace bV := eq_true bV
                                have bS : 0 ≤ ((rd (rd_L1 ac (aC)) ao) : Int) := oa_
                                have bU : ((rd (rd_L1 ac (aC)) ao) : Int) < ((ar.length : Int) : Int) := oa_
                                obtain ⟨bh, dw, bN, bO, gl105, cl105, HG105⟩ := Kd.R_form an.o (by omega)
                                (first | cases bN | (injection bN with ea_ en_ ec_; (first | subst ea_ | (injection ea_ with ea_; subst ea_)); subst ec_; clear en_))
                                have GB105 := A_ bO; have GG105 := A_ HG105; clear bO gl105 HG105
                                (first | simp only [add_plain] at bE | skip)
                                obtain ⟨cw, cv⟩ := Kd.R_celln 0 an.o ((rd (rd_L1 ac (aC)) ao) : Int) bS bU; replace bS := eq_true bS; replace bU := eq_true bU; have dG := Kd.R_putg an.o ((rd (rd_L1 ac (aC)) ao) : Int) (wrap64 ((rd ar (rd (rd_L1 ac (aC)) ao)) + 1))
                                go_wp2_with (first | ((with_reducible refine gate_store (t := 3) (p := 110) rfl ?_); refine store_event (t := 3) (p := 110) (w1 := (wc.setCell ⟨bh, ((rd (rd_L1 ac (aC)) ao) : Int).toNat, none⟩ (.int .i64 (wrap64 ((rd ar (rd (rd_L1 ac (aC)) ao)) + 1))))) rfl rfl rfl (by go_simp; done) ?_; intro w124 hw; have hg : wc.grownBy w124 (some bh) := (by rw [hw]; exact dG.2); have hp_ : Kd.R (Kd.int .i64) 3 w124 w.heap.size (o3 af ae ag) (.slice (some ⟨bh, 0, none⟩) ar.length eI) bj := (by rw [hw, ck.o]; exact dG.1); clear dG; replace aG := sB_ (ok := (o4 (.slice (some bl) ac.length aQ) af ae ag)) hp_ aG (fun _ hk => ⟨⟨hk.2.1, ⟨hk.2.2.1, ⟨hk.2.2.2.1, hk.2.2.2.2⟩⟩⟩, hk.1⟩) hg; replace ab := sB_ (ok := (o4 u12 af ae ag)) hp_ ab (fun _ hk => ⟨⟨hk.1, ⟨hk.2.2.1, ⟨hk.2.2.2.1, hk.2.2.2.2⟩⟩⟩, hk.2.1⟩) hg; replace aa := rB_ (ok := (o2 ae ag)) hp_ aa (fun _ hk => ⟨⟨hk.2.1, hk.2.2⟩, hk.1⟩) hg; replace aj := rB_ (ok := (o2 af ag)) hp_ aj (fun _ hk => ⟨⟨hk.2.1, hk.2.2⟩, hk.1⟩) hg; replace ak := rB_ (ok := (o5 u12 (.slice (some bl) ac.length aQ) af ae ag)) hp_ ak (fun _ hk => ⟨⟨hk.1, ⟨hk.2.2.1, ⟨hk.2.2.2.1, ⟨hk.2.2.2.2.1, hk.2.2.2.2.2⟩⟩⟩⟩, hk.2.1⟩) hg; replace ah := rB_ (ok := (o2 af ae)) hp_ ah (fun _ hk => ⟨⟨hk.2.1, hk.2.2⟩, hk.1⟩) hg; replace am := gR_ an am hg; replace al := gR_ an al hg; replace ai := gR_ an ai hg; replace ap := gR_ an ap hg; replace an := A_ (hp_); replace HB := A_ ((by rw [hw]; exact below_set (HB.o) GB105.o : Below w.heap.size w w124)); clear hg hw hp_; have fp : 0 ≤ ((br) : Int) := oa_; have fB : (br) < (bj.length : Int) := (by have h_ : ((br) : Int) < ((ar.length : Int) : Int) := oa_; first | (have e_ := (Kd.R_reads' an.o).1; omega) | simpa only [ck.o, List.length_set] using h_); have kV : (((br) : Int) < ((ar.length : Int) : Int)) = True := eq_true oa_; obtain ⟨gn, iT, dc⟩ := Kd.at_int (Kd.R_reads' an.o).2.2 (br) fp fB; obtain rfl : (⟨bh, 0, none⟩ : Addr) = gn := (by injection iT); (first | simp only [add_plain] at dc | simp only [add_at] at dc | simp only [Addr.add, Nat.zero_add] at dc | skip); replace fp := eq_true fp; replace fB := eq_true fB; have fi : 0 ≤ ((br) : Int) := oa_; have fv : ((br) : Int) < ((ar.length : Int) : Int) := oa_; obtain ⟨ir, ib⟩ := Kd.R_celln 0 an.o ((br) : Int) fi fv; replace fi := eq_true fi; replace fv := eq_true fv; obtain ⟨hy125_, hz125_⟩ := Kd.R_celln 0 an.o ((br) : Int) oa_ oa_; have dH := Kd.R_putg an.o ((br) : Int) (wrap64 ((rd bj (br)) + 1))) | ((with_reducible refine gate_store (t := 3) (p := 135) rfl ?_); refine store_event (t := 3) (p := 135) (w1 := (w124.setCell ⟨bh, ((br) : Int).toNat, none⟩ (.int .i64 (wrap64 ((rd bj (br)) + 1))))) rfl rfl rfl (by go_simp; done) ?_; intro w126 hw; have hg : w124.grownBy w126 (some bh) := (by rw [hw]; exact dH.2); have hp_ : Kd.R (Kd.int .i64) 3 w126 w.heap.size (o3 af ae ag) (.slice (some ⟨bh, 0, none⟩) ar.length eI) fL := (by rw [hw, gg.o]; exact dH.1); clear dH; replace aG := sA_ (ok := (o4 (.slice (some bl) ac.length aQ) af ae ag)) hp_ aG hg; replace ab := sA_ (ok := (o4 u12 af ae ag)) hp_ ab hg; replace aa := rA_ (ok := (o2 ae ag)) hp_ aa hg; replace aj := rA_ (ok := (o2 af ag)) hp_ aj hg; replace ak := rA_ (ok := (o5 u12 (.slice (some bl) ac.length aQ) af ae ag)) hp_ ak hg; replace ah := rA_ (ok := (o2 af ae)) hp_ ah hg; replace am := gR_ an am hg; replace al := gR_ an al hg; replace ai := gR_ an ai hg; replace ap := gR_ an ap hg; replace an := A_ (hp_); replace HB := A_ ((by rw [hw]; exact below_set (HB.o) GB105.o : Below w.heap.size w w126)); clear hg hw hp_))
                                (try subst bv)
                                (try subst bI)
                                (try subst bW)
                                (try subst cU)
                                go_roundg kj94
                                case measure => have := b7.o; have := b8.o; have := ci.o; have := cj.o; have := cr.o; have := bP.o; omega
                                case rel => exact ⟨(fL), (wrap64 (ao + 1)), (by rfl), H', ⟨by have := b7.o; have := b8.o; have := ci.o; have := cj.o; have := cr.o; have := bP.o; omega⟩, ⟨by exact Kd.S_mono aG.o (fun _ hk => ⟨hk.2, ⟨hk.1.1, ⟨hk.1.2.1, ⟨hk.1.2.2.1, hk.1.2.2.2⟩⟩⟩⟩)⟩, ⟨an.o⟩, ⟨by exact Kd.S_mono ab.o (fun _ hk => ⟨hk.1.1, ⟨hk.2, ⟨hk.1.2.1, ⟨hk.1.2.2.1, hk.1.2.2.2⟩⟩⟩⟩)⟩, ⟨by exact Kd.R_mono aa.o (fun _ hk => ⟨hk.2, ⟨hk.1.1, hk.1.2⟩⟩)⟩, ⟨by exact Kd.R_mono aj.o (fun _ hk => ⟨hk.2, ⟨hk.1.1, hk.1.2⟩⟩)⟩, ⟨by exact Kd.R_mono ak.o (fun _ hk => ⟨hk.1.1, ⟨hk.2, ⟨hk.1.2.1, ⟨hk.1.2.2.1, ⟨hk.1.2.2.2.1, hk.1.2.2.2.2⟩⟩⟩⟩⟩)⟩, ⟨by exact Kd.R_mono ah.o (fun _ hk => ⟨hk.2, ⟨hk.1.1, hk.1.2⟩⟩)⟩, ⟨am.o⟩, ⟨al.o⟩, ⟨ai.o⟩, ⟨ap.o⟩, ⟨HB.o⟩⟩
                               rw [if_neg c120] at H
                               cases H
                              rw [if_neg c119] at H
                              cases H
                             rw [if_neg c117] at H
                             have e6 : decide ((ac.length : Int) ≤ aN) = false := decide_eq_false c117
                             clear c117
                             have H' := A_ H
                             clear H; obtain ⟨jE, gE, gQ⟩ := Kd.R_slice an.o; subst gQ
                             have bT : 0 ≤ ((rd (rd_L1 ac (aC)) ao) : Int) := oa_
                             have bV : (rd (rd_L1 ac (aC)) ao) < (ar.length : Int) := oa_
                             obtain ⟨dv, cQ, bE⟩ := Kd.at_int (Kd.R_reads' an.o).2.2 (rd (rd_L1 ac (aC)) ao) bT bV
                             cases cQ
                             replace bT := eq_true bT; replace bV := eq_true bV
                             have bS : 0 ≤ ((rd (rd_L1 ac (aC)) ao) : Int) := oa_
                             have bU : ((rd (rd_L1 ac (aC)) ao) : Int) < ((ar.length : Int) : Int) := oa_
                             obtain ⟨bh, dw, bN, bO, gl105, cl105, HG105⟩ := Kd.R_form an.o (by omega)
                             (first | cases bN | (injection bN with ea_ en_ ec_; (first | subst ea_ | (injection ea_ with ea_; subst ea_)); subst ec_; clear en_))
                             have GB105 := A_ bO; have GG105 := A_ HG105; clear bO gl105 HG105
                             (first | simp only [add_plain] at bE | skip)
                             obtain ⟨cw, cv⟩ := Kd.R_celln 0 an.o ((rd (rd_L1 ac (aC)) ao) : Int) bS bU; replace bS := eq_true bS; replace bU := eq_true bU; have dI := Kd.R_putg an.o ((rd (rd_L1 ac (aC)) ao) : Int) (wrap64 ((rd ar (rd (rd_L1 ac (aC)) ao)) + 1))
                             go_wp2_with (first | ((with_reducible refine gate_store (t := 3) (p := 110) rfl ?_); refine store_event (t := 3) (p := 110) (w1 := (wc.setCell ⟨bh, ((rd (rd_L1 ac (aC)) ao) : Int).toNat, none⟩ (.int .i64 (wrap64 ((rd ar (rd (rd_L1 ac (aC)) ao)) + 1))))) rfl rfl rfl (by go_simp; done) ?_; intro w129 hw; have hg : wc.grownBy w129 (some bh) := (by rw [hw]; exact dI.2); have hp_ : Kd.R (Kd.int .i64) 3 w129 w.heap.size (o3 af ae ag) (.slice (some ⟨bh, 0, none⟩) ar.length gE) bj := (by rw [hw, ck.o]; exact dI.1); clear dI; replace aG := sB_ (ok := (o4 (.slice (some bl) ac.length aQ) af ae ag)) hp_ aG (fun _ hk => ⟨⟨hk.2.1, ⟨hk.2.2.1, ⟨hk.2.2.2.1, hk.2.2.2.2⟩⟩⟩, hk.1⟩) hg; replace ab := sB_ (ok := (o4 u12 af ae ag)) hp_ ab (fun _ hk => ⟨⟨hk.1, ⟨hk.2.2.1, ⟨hk.2.2.2.1, hk.2.2.2.2⟩⟩⟩, hk.2.1⟩) hg; replace aa := rB_ (ok := (o2 ae ag)) hp_ aa (fun _ hk => ⟨⟨hk.2.1, hk.2.2⟩, hk.1⟩) hg; replace aj := rB_ (ok := (o2 af ag)) hp_ aj (fun _ hk => ⟨⟨hk.2.1, hk.2.2⟩, hk.1⟩) hg; replace ak := rB_ (ok := (o5 u12 (.slice (some bl) ac.length aQ) af ae ag)) hp_ ak (fun _ hk => ⟨⟨hk.1, ⟨hk.2.2.1, ⟨hk.2.2.2.1, ⟨hk.2.2.2.2.1, hk.2.2.2.2.2⟩⟩⟩⟩, hk.2.1⟩) hg; replace ah := rB_ (ok := (o2 af ae)) hp_ ah (fun _ hk => ⟨⟨hk.2.1, hk.2.2⟩, hk.1⟩) hg; replace am := gR_ an am hg; replace al := gR_ an al hg; replace ai := gR_ an ai hg; replace ap := gR_ an ap hg; replace an := A_ (hp_); replace HB := A_ ((by rw [hw]; exact below_set (HB.o) GB105.o : Below w.heap.size w w129)); clear hg hw hp_))
                             (try subst bv)
                             (try subst bI)
                             (try subst bW)
                             go_roundg kj94
                             case measure => have := b7.o; have := b8.o; have := ci.o; have := cj.o; have := cr.o; have := bP.o; omega
                             case rel => exact ⟨(bj), (wrap64 (ao + 1)), (by rfl), H', ⟨by have := b7.o; have := b8.o; have := ci.o; have := cj.o; have := cr.o; have := bP.o; omega⟩, ⟨by exact Kd.S_mono aG.o (fun _ hk => ⟨hk.2, ⟨hk.1.1, ⟨hk.1.2.1, ⟨hk.1.2.2.1, hk.1.2.2.2⟩⟩⟩⟩)⟩, ⟨an.o⟩, ⟨by exact Kd.S_mono ab.o (fun _ hk => ⟨hk.1.1, ⟨hk.2, ⟨hk.1.2.1, ⟨hk.1.2.2.1, hk.1.2.2.2⟩⟩⟩⟩)⟩, ⟨by exact Kd.R_mono aa.o (fun _ hk => ⟨hk.2, ⟨hk.1.1, hk.1.2⟩⟩)⟩, ⟨by exact Kd.R_mono aj.o (fun _ hk => ⟨hk.2, ⟨hk.1.1, hk.1.2⟩⟩)⟩, ⟨by exact Kd.R_mono ak.o (fun _ hk => ⟨hk.1.1, ⟨hk.2, ⟨hk.1.2.1, ⟨hk.1.2.2.1, ⟨hk.1.2.2.2.1, hk.1.2.2.2.2⟩⟩⟩⟩⟩)⟩, ⟨by exact Kd.R_mono ah.o (fun _ hk => ⟨hk.2, ⟨hk.1.1, hk.1.2⟩⟩)⟩, ⟨am.o⟩, ⟨al.o⟩, ⟨ai.o⟩, ⟨ap.o⟩, ⟨HB.o⟩⟩
                            rw [if_neg c106] at H; have e4 := decide_eq_false c106; clear c106
                            by_cases c130 : aN ≥ (ac.length : Int)
                            ·rw [if_pos c130] at H
                             have e7 : decide ((ac.length : Int) ≤ aN) = true := decide_eq_true c130
                             clear c130; obtain ⟨bs, cV⟩ : ∃ j_ : Int, (wrap64 ((ac.length : Int) + (rd (rd_L1 ac (aC)) ao))) = j_ := ⟨_, rfl⟩; replace H : (if 0 ≤ (bs) then (if (bs) < (ar.length : Int) then (spec_CountingForm.l3 kj94 (ac.length : Int) a9 be aN (bj.set ((bs) : Int).toNat (wrap64 ((rd bj (bs)) + 1))) (wrap64 (ao + 1)) ay ac av ay aw au ax) else (none)) else (none)) = some (r1, r2, r3, r4, r5) := by first | (rw [cV] at H; exact H) | (simp only [cV] at H ⊢; exact H)
                             have il : (IntKind.i64.wrap ((ac.length : Int) + (rd (rd_L1 ac (aC)) ao))) = bs := (i64_w _).trans cV
                             by_cases c132 : 0 ≤ (bs)
                             ·rw [if_pos c132] at H; have iH := decide_eq_true c132; clear c132
                              by_cases c133 : (bs) < (ar.length : Int)
                              ·rw [if_pos c133] at H; have iI := decide_eq_true c133; clear c133; obtain ⟨fM, ed⟩ := ex_ ((bj.set ((bs) : Int).toNat (wrap64 ((rd bj (bs)) + 1))) : List Int); replace H : (spec_CountingForm.l3 kj94 (ac.length : Int) a9 be aN fM (wrap64 (ao + 1)) ay ac av ay aw au ax) = some (r1, r2, r3, r4, r5) := by (rw [ed]; with_reducible exact H)
                               have gh := A_ ed; clear ed
                               have H' := A_ H
                               clear H; obtain ⟨jF, eJ, gR⟩ := Kd.R_slice an.o; subst gR
                               have bT : 0 ≤ ((rd (rd_L1 ac (aC)) ao) : Int) := oa_
                               have bV : (rd (rd_L1 ac (aC)) ao) < (ar.length : Int) := oa_
                               obtain ⟨dv, cQ, bE⟩ := Kd.at_int (Kd.R_reads' an.o).2.2 (rd (rd_L1 ac (aC)) ao) bT bV
                               cases cQ
                               replace bT := eq_true bT; replace bV := eq_true bV
                               have bS : 0 ≤ ((rd (rd_L1 ac (aC)) ao) : Int) := oa_
                               have bU : ((rd (rd_L1 ac (aC)) ao) : Int) < ((ar.length : Int) : Int) := oa_
                               obtain ⟨bh, dw, bN, bO, gl105, cl105, HG105⟩ := Kd.R_form an.o (by omega)
                               (first | cases bN | (injection bN with ea_ en_ ec_; (first | subst ea_ | (injection ea_ with ea_; subst ea_)); subst ec_; clear en_))
                               have GB105 := A_ bO; have GG105 := A_ HG105; clear bO gl105 HG105
                               (first | simp only [add_plain] at bE | skip)
                               obtain ⟨cw, cv⟩ := Kd.R_celln 0 an.o ((rd (rd_L1 ac (aC)) ao) : Int) bS bU; replace bS := eq_true bS; replace bU := eq_true bU; have dJ := Kd.R_putg an.o ((rd (rd_L1 ac (aC)) ao) : Int) (wrap64 ((rd ar (rd (rd_L1 ac (aC)) ao)) + 1))
                               go_wp2_with (first | ((with_reducible refine gate_store (t := 3) (p := 110) rfl ?_); refine store_event (t := 3) (p := 110) (w1 := (wc.setCell ⟨bh, ((rd (rd_L1 ac (aC)) ao) : Int).toNat, none⟩ (.int .i64 (wrap64 ((rd ar (rd (rd_L1 ac (aC)) ao)) + 1))))) rfl rfl rfl (by go_simp; done) ?_; intro w137 hw; have hg : wc.grownBy w137 (some bh) := (by rw [hw]; exact dJ.2); have hp_ : Kd.R (Kd.int .i64) 3 w137 w.heap.size (o3 af ae ag) (.slice (some ⟨bh, 0, none⟩) ar.length eJ) bj := (by rw [hw, ck.o]; exact dJ.1); clear dJ; replace aG := sB_ (ok := (o4 (.slice (some bl) ac.length aQ) af ae ag)) hp_ aG (fun _ hk => ⟨⟨hk.2.1, ⟨hk.2.2.1, ⟨hk.2.2.2.1, hk.2.2.2.2⟩⟩⟩, hk.1⟩) hg; replace ab := sB_ (ok := (o4 u12 af ae ag)) hp_ ab (fun _ hk => ⟨⟨hk.1, ⟨hk.2.2.1, ⟨hk.2.2.2.1, hk.2.2.2.2⟩⟩⟩, hk.2.1⟩) hg; replace aa := rB_ (ok := (o2 ae ag)) hp_ aa (fun _ hk => ⟨⟨hk.2.1, hk.2.2⟩, hk.1⟩) hg; replace aj := rB_ (ok := (o2 af ag)) hp_ aj (fun _ hk => ⟨⟨hk.2.1, hk.2.2⟩, hk.1⟩) hg; replace ak := rB_ (ok := (o5 u12 (.slice (some bl) ac.length aQ) af ae ag)) hp_ ak (fun _ hk => ⟨⟨hk.1, ⟨hk.2.2.1, ⟨hk.2.2.2.1, ⟨hk.2.2.2.2.1, hk.2.2.2.2.2⟩⟩⟩⟩, hk.2.1⟩) hg; replace ah := rB_ (ok := (o2 af ae)) hp_ ah (fun _ hk => ⟨⟨hk.2.1, hk.2.2⟩, hk.1⟩) hg; replace am := gR_ an am hg; replace al := gR_ an al hg; replace ai := gR_ an ai hg; replace ap := gR_ an ap hg; replace an := A_ (hp_); replace HB := A_ ((by rw [hw]; exact below_set (HB.o) GB105.o : Below w.heap.size w w137)); clear hg hw hp_; have fq : 0 ≤ ((bs) : Int) := oa_; have fC : (bs) < (bj.length : Int) := (by have h_ : ((bs) : Int) < ((ar.length : Int) : Int) := oa_; first | (have e_ := (Kd.R_reads' an.o).1; omega) | simpa only [ck.o, List.length_set] using h_); have kW : (((bs) : Int) < ((ar.length : Int) : Int)) = True := eq_true oa_; obtain ⟨go, iU, dd⟩ := Kd.at_int (Kd.R_reads' an.o).2.2 (bs) fq fC; obtain rfl : (⟨bh, 0, none⟩ : Addr) = go := (by injection iU); (first | simp only [add_plain] at dd | simp only [add_at] at dd | simp only [Addr.add, Nat.zero_add] at dd | skip); replace fq := eq_true fq; replace fC := eq_true fC; have fj : 0 ≤ ((bs) : Int) := oa_; have fw : ((bs) : Int) < ((ar.length : Int) : Int) := oa_; obtain ⟨iu, ic⟩ := Kd.R_celln 0 an.o ((bs) : Int) fj fw; replace fj := eq_true fj; replace fw := eq_true fw; obtain ⟨hy138_, hz138_⟩ := Kd.R_celln 0 an.o ((bs) : Int) oa_ oa_; have dK := Kd.R_putg an.o ((bs) : Int) (wrap64 ((rd bj (bs)) + 1))) | ((with_reducible refine gate_store (t := 3) (p := 135) rfl ?_); refine store_event (t := 3) (p := 135) (w1 := (w137.setCell ⟨bh, ((bs) : Int).toNat, none⟩ (.int .i64 (wrap64 ((rd bj (bs)) + 1))))) rfl rfl rfl (by go_simp; done) ?_; intro w139 hw; have hg : w137.grownBy w139 (some bh) := (by rw [hw]; exact dK.2); have hp_ : Kd.R (Kd.int .i64) 3 w139 w.heap.size (o3 af ae ag) (.slice (some ⟨bh, 0, none⟩) ar.length eJ) fM := (by rw [hw, gh.o]; exact dK.1); clear dK; replace aG := sA_ (ok := (o4 (.slice (some bl) ac.length aQ) af ae ag)) hp_ aG hg; replace ab := sA_ (ok := (o4 u12 af ae ag)) hp_ ab hg; replace aa := rA_ (ok := (o2 ae ag)) hp_ aa hg; replace aj := rA_ (ok := (o2 af ag)) hp_ aj hg; replace ak := rA_ (ok := (o5 u12 (.slice (some bl) ac.length aQ) af ae ag)) hp_ ak hg; replace ah := rA_ (ok := (o2 af ae)) hp_ ah hg; replace am := gR_ an am hg; replace al := gR_ an al hg; replace ai := gR_ an ai hg; replace ap := gR_ an ap hg; replace an := A_ (hp_); replace HB := A_ ((by rw [hw]; exact below_set (HB.o) GB105.o : Below w.heap.size w w139)); clear hg hw hp_))
                               (try subst bv)
                               (try subst bI)
                               (try subst bW)
                               (try subst cV)
                               go_roundg kj94
                               case measure => have := b7.o; have := b8.o; have := ci.o; have := cj.o; have := cr.o; have := bP.o; omega
                               case rel => exact ⟨(fM), (wrap64 (ao + 1)), (by rfl), H', ⟨by have := b7.o; have := b8.o; have := ci.o; have := cj.o; have := cr.o; have := bP.o; omega⟩, ⟨by exact Kd.S_mono aG.o (fun _ hk => ⟨hk.2, ⟨hk.1.1, ⟨hk.1.2.1, ⟨hk.1.2.2.1, hk.1.2.2.2⟩⟩⟩⟩)⟩, ⟨an.o⟩, ⟨by exact Kd.S_mono ab.o (fun _ hk => ⟨hk.1.1, ⟨hk.2, ⟨hk.1.2.1, ⟨hk.1.2.2.1, hk.1.2.2.2⟩⟩⟩⟩)⟩, ⟨by exact Kd.R_mono aa.o (fun _ hk => ⟨hk.2, ⟨hk.1.1, hk.1.2⟩⟩)⟩, ⟨by exact Kd.R_mono aj.o (fun _ hk => ⟨hk.2, ⟨hk.1.1, hk.1.2⟩⟩)⟩, ⟨by exact Kd.R_mono ak.o (fun _ hk => ⟨hk.1.1, ⟨hk.2, ⟨hk.1.2.1, ⟨hk.1.2.2.1, ⟨hk.1.2.2.2.1, hk.1.2.2.2.2⟩⟩⟩⟩⟩)⟩, ⟨by exact Kd.R_mono ah.o (fun _ hk => ⟨hk.2, ⟨hk.1.1, hk.1.2⟩⟩)⟩, ⟨am.o⟩, ⟨al.o⟩, ⟨ai.o⟩, ⟨ap.o⟩, ⟨HB.o⟩⟩
                              rw [if_neg c133] at H
                              cases H
                             rw [if_neg c132] at H
                             cases H
                            rw [if_neg c130] at H
                            have e7 : decide ((ac.length : Int) ≤ aN) = false := decide_eq_false c130
                            clear c130
                            have H' := A_ H
                            clear H; obtain ⟨jG, gF, gS⟩ := Kd.R_slice an.o; subst gS
                            have bT : 0 ≤ ((rd (rd_L1 ac (aC)) ao) : Int) := oa_
                            have bV : (rd (rd_L1 ac (aC)) ao) < (ar.length : Int) := oa_
                            obtain ⟨dv, cQ, bE⟩ := Kd.at_int (Kd.R_reads' an.o).2.2 (rd (rd_L1 ac (aC)) ao) bT bV
                            cases cQ
                            replace bT := eq_true bT; replace bV := eq_true bV
                            have bS : 0 ≤ ((rd (rd_L1 ac (aC)) ao) : Int) := oa_
                            have bU : ((rd (rd_L1 ac (aC)) ao) : Int) < ((ar.length : Int) : Int) := oa_
                            obtain ⟨bh, dw, bN, bO, gl105, cl105, HG105⟩ := Kd.R_form an.o (by omega)
                            (first | cases bN | (injection bN with ea_ en_ ec_; (first | subst ea_ | (injection ea_ with ea_; subst ea_)); subst ec_; clear en_))
                            have GB105 := A_ bO; have GG105 := A_ HG105; clear bO gl105 HG105
                            (first | simp only [add_plain] at bE | skip)
                            obtain ⟨cw, cv⟩ := Kd.R_celln 0 an.o ((rd (rd_L1 ac (aC)) ao) : Int) bS bU; replace bS := eq_true bS; replace bU := eq_true bU; have dL := Kd.R_putg an.o ((rd (rd_L1 ac (aC)) ao) : Int) (wrap64 ((rd ar (rd (rd_L1 ac (aC)) ao)) + 1))
                            go_wp2_with (first | ((with_reducible refine gate_store (t := 3) (p := 110) rfl ?_); refine store_event (t := 3) (p := 110) (w1 := (wc.setCell ⟨bh, ((rd (rd_L1 ac (aC)) ao) : Int).toNat, none⟩ (.int .i64 (wrap64 ((rd ar (rd (rd_L1 ac (aC)) ao)) + 1))))) rfl rfl rfl (by go_simp; done) ?_; intro w142 hw; have hg : wc.grownBy w142 (some bh) := (by rw [hw]; exact dL.2); have hp_ : Kd.R (Kd.int .i64) 3 w142 w.heap.size (o3 af ae ag) (.slice (some ⟨bh, 0, none⟩) ar.length gF) bj := (by rw [hw, ck.o]; exact dL.1); clear dL; replace aG := sB_ (ok := (o4 (.slice (some bl) ac.length aQ) af ae ag)) hp_ aG (fun _ hk => ⟨⟨hk.2.1, ⟨hk.2.2.1, ⟨hk.2.2.2.1, hk.2.2.2.2⟩⟩⟩, hk.1⟩) hg; replace ab := sB_ (ok := (o4 u12 af ae ag)) hp_ ab (fun _ hk => ⟨⟨hk.1, ⟨hk.2.2.1, ⟨hk.2.2.2.1, hk.2.2.2.2⟩⟩⟩, hk.2.1⟩) hg; replace aa := rB_ (ok := (o2 ae ag)) hp_ aa (fun _ hk => ⟨⟨hk.2.1, hk.2.2⟩, hk.1⟩) hg; replace aj := rB_ (ok := (o2 af ag)) hp_ aj (fun _ hk => ⟨⟨hk.2.1, hk.2.2⟩, hk.1⟩) hg; replace ak := rB_ (ok := (o5 u12 (.slice (some bl) ac.length aQ) af ae ag)) hp_ ak (fun _ hk => ⟨⟨hk.1, ⟨hk.2.2.1, ⟨hk.2.2.2.1, ⟨hk.2.2.2.2.1, hk.2.2.2.2.2⟩⟩⟩⟩, hk.2.1⟩) hg; replace ah := rB_ (ok := (o2 af ae)) hp_ ah (fun _ hk => ⟨⟨hk.2.1, hk.2.2⟩, hk.1⟩) hg; replace am := gR_ an am hg; replace al := gR_ an al hg; replace ai := gR_ an ai hg; replace ap := gR_ an ap hg; replace an := A_ (hp_); replace HB := A_ ((by rw [hw]; exact below_set (HB.o) GB105.o : Below w.heap.size w w142)); clear hg hw hp_))
                            (try subst bv)
                            (try subst bI)
                            (try subst bW)
                            go_roundg kj94
                            case measure => have := b7.o; have := b8.o; have := ci.o; have := cj.o; have := cr.o; have := bP.o; omega
                            case rel => exact ⟨(bj), (wrap64 (ao + 1)), (by rfl), H', ⟨by have := b7.o; have := b8.o; have := ci.o; have := cj.o; have := cr.o; have := bP.o; omega⟩, ⟨by exact Kd.S_mono aG.o (fun _ hk => ⟨hk.2, ⟨hk.1.1, ⟨hk.1.2.1, ⟨hk.1.2.2.1, hk.1.2.2.2⟩⟩⟩⟩)⟩, ⟨an.o⟩, ⟨by exact Kd.S_mono ab.o (fun _ hk => ⟨hk.1.1, ⟨hk.2, ⟨hk.1.2.1, ⟨hk.1.2.2.1, hk.1.2.2.2⟩⟩⟩⟩)⟩, ⟨by exact Kd.R_mono aa.o (fun _ hk => ⟨hk.2, ⟨hk.1.1, hk.1.2⟩⟩)⟩, ⟨by exact Kd.R_mono aj.o (fun _ hk => ⟨hk.2, ⟨hk.1.1, hk.1.2⟩⟩)⟩, ⟨by exact Kd.R_mono ak.o (fun _ hk => ⟨hk.1.1, ⟨hk.2, ⟨hk.1.2.1, ⟨hk.1.2.2.1, ⟨hk.1.2.2.2.1, hk.1.2.2.2.2⟩⟩⟩⟩⟩)⟩, ⟨by exact Kd.R_mono ah.o (fun _ hk => ⟨hk.2, ⟨hk.1.1, hk.1.2⟩⟩)⟩, ⟨am.o⟩, ⟨al.o⟩, ⟨ai.o⟩, ⟨ap.o⟩, ⟨HB.o⟩⟩
                           rw [if_neg c104] at H
                           cases H
                          rw [if_neg c103] at H
                          cases H
                         replace c102 := Bool.eq_false_iff.mpr c102; subst c102; rw [if_neg nf_] at H
                         by_cases c143 : aN < (ac.length : Int)
                         ·rw [if_pos c143] at H; have e8 := decide_eq_true c143; clear c143
                          by_cases c144 : ao < a9
                          ·rw [if_pos c144] at H; have e9 := decide_eq_true c144; clear c144; obtain ⟨bx, cW⟩ : ∃ j_ : Int, (wrap64 ((ac.length : Int) + (rd (rd_L1 ac (aC)) ao))) = j_ := ⟨_, rfl⟩; replace H : (if 0 ≤ (bx) then (if (bx) < (ar.length : Int) then (spec_CountingForm.l3 kj94 (ac.length : Int) a9 be aN (ar.set ((bx) : Int).toNat (wrap64 ((rd ar (bx)) + 1))) (wrap64 (ao + 1)) ay ac av ay aw au ax) else (none)) else (none)) = some (r1, r2, r3, r4, r5) := by first | (rw [cW] at H; exact H) | (simp only [cW] at H ⊢; exact H)
                           have im : (IntKind.i64.wrap ((ac.length : Int) + (rd (rd_L1 ac (aC)) ao))) = bx := (i64_w _).trans cW
                           by_cases c146 : 0 ≤ (bx)
                           ·rw [if_pos c146] at H; have iJ := decide_eq_true c146; clear c146
                            by_cases c147 : (bx) < (ar.length : Int)
                            ·rw [if_pos c147] at H; have iK := decide_eq_true c147; clear c147; obtain ⟨fN, ee⟩ := ex_ ((ar.set ((bx) : Int).toNat (wrap64 ((rd ar (bx)) + 1))) : List Int); replace H : (spec_CountingForm.l3 kj94 (ac.length : Int) a9 be aN fN (wrap64 (ao + 1)) ay ac av ay aw au ax) = some (r1, r2, r3, r4, r5) := by (rw [ee]; with_reducible exact H)
                             have gi := A_ ee; clear ee
                             have H' := A_ H
                             clear H; obtain ⟨jH, gG, gT⟩ := Kd.R_slice an.o; subst gT
                             have fr : 0 ≤ ((bx) : Int) := oa_
                             have fD : (bx) < (ar.length : Int) := oa_
                             obtain ⟨jN, iV, ev⟩ := Kd.at_int (Kd.R_reads' an.o).2.2 (bx) fr fD
                             cases iV
                             replace fr := eq_true fr; replace fD := eq_true fD
                             have fk : 0 ≤ ((bx) : Int) := oa_
                             have fx : ((bx) : Int) < ((ar.length : Int) : Int) := oa_
                             obtain ⟨dU, j1, eK, eO, gl148, cl148, HG148⟩ := Kd.R_form an.o (by omega)
                             (first | cases eK | (injection eK with ea_ en_ ec_; (first | subst ea_ | (injection ea_ with ea_; subst ea_)); subst ec_; clear en_))
                             have GB148 := A_ eO; have GG148 := A_ HG148; clear eO gl148 HG148
                             (first | simp only [add_plain] at ev | skip)
                             obtain ⟨iv, ie⟩ := Kd.R_celln 0 an.o ((bx) : Int) fk fx; replace fk := eq_true fk; replace fx := eq_true fx; have dM := Kd.R_putg an.o ((bx) : Int) (wrap64 ((rd ar (bx)) + 1))
                             go_wp2_with (first | ((with_reducible refine gate_store (t := 3) (p := 135) rfl ?_); refine store_event (t := 3) (p := 135) (w1 := (wc.setCell ⟨dU, ((bx) : Int).toNat, none⟩ (.int .i64 (wrap64 ((rd ar (bx)) + 1))))) rfl rfl rfl (by go_simp; done) ?_; intro w151 hw; have hg : wc.grownBy w151 (some dU) := (by rw [hw]; exact dM.2); have hp_ : Kd.R (Kd.int .i64) 3 w151 w.heap.size (o3 af ae ag) (.slice (some ⟨dU, 0, none⟩) ar.length gG) fN := (by rw [hw, gi.o]; exact dM.1); clear dM; replace aG := sB_ (ok := (o4 (.slice (some bl) ac.length aQ) af ae ag)) hp_ aG (fun _ hk => ⟨⟨hk.2.1, ⟨hk.2.2.1, ⟨hk.2.2.2.1, hk.2.2.2.2⟩⟩⟩, hk.1⟩) hg; replace ab := sB_ (ok := (o4 u12 af ae ag)) hp_ ab (fun _ hk => ⟨⟨hk.1, ⟨hk.2.2.1, ⟨hk.2.2.2.1, hk.2.2.2.2⟩⟩⟩, hk.2.1⟩) hg; replace aa := rB_ (ok := (o2 ae ag)) hp_ aa (fun _ hk => ⟨⟨hk.2.1, hk.2.2⟩, hk.1⟩) hg; replace aj := rB_ (ok := (o2 af ag)) hp_ aj (fun _ hk => ⟨⟨hk.2.1, hk.2.2⟩, hk.1⟩) hg; replace ak := rB_ (ok := (o5 u12 (.slice (some bl) ac.length aQ) af ae ag)) hp_ ak (fun _ hk => ⟨⟨hk.1, ⟨hk.2.2.1, ⟨hk.2.2.2.1, ⟨hk.2.2.2.2.1, hk.2.2.2.2.2⟩⟩⟩⟩, hk.2.1⟩) hg; replace ah := rB_ (ok := (o2 af ae)) hp_ ah (fun _ hk => ⟨⟨hk.2.1, hk.2.2⟩, hk.1⟩) hg; replace am := gR_ an am hg; replace al := gR_ an al hg; replace ai := gR_ an ai hg; replace ap := gR_ an ap hg; replace an := A_ (hp_); replace HB := A_ ((by rw [hw]; exact below_set (HB.o) GB148.o : Below w.heap.size w w151)); clear hg hw hp_))
                             (try subst bv)
                             (try subst bI)
                             (try subst bW)
                             (try subst cW)
                             go_roundg kj94
                             case measure => have := b7.o; have := b8.o; have := ci.o; have := cj.o; have := cr.o; have := bP.o; omega
                             case rel => exact ⟨(fN), (wrap64 (ao + 1)), (by rfl), H', ⟨by have := b7.o; have := b8.o; have := ci.o; have := cj.o; have := cr.o; have := bP.o; omega⟩, ⟨by exact Kd.S_mono aG.o (fun _ hk => ⟨hk.2, ⟨hk.1.1, ⟨hk.1.2.1, ⟨hk.1.2.2.1, hk.1.2.2.2⟩⟩⟩⟩)⟩, ⟨an.o⟩, ⟨by exact Kd.S_mono ab.o (fun _ hk => ⟨hk.1.1, ⟨hk.2, ⟨hk.1.2.1, ⟨hk.1.2.2.1, hk.1.2.2.2⟩⟩⟩⟩)⟩, ⟨by exact Kd.R_mono aa.o (fun _ hk => ⟨hk.2, ⟨hk.1.1, hk.1.2⟩⟩)⟩, ⟨by exact Kd.R_mono aj.o (fun _ hk => ⟨hk.2, ⟨hk.1.1, hk.1.2⟩⟩)⟩, ⟨by exact Kd.R_mono ak.o (fun _ hk => ⟨hk.1.1, ⟨hk.2, ⟨hk.1.2.1, ⟨hk.1.2.2.1, ⟨hk.1.2.2.2.1, hk.1.2.2.2.2⟩⟩⟩⟩⟩)⟩, ⟨by exact Kd.R_mono ah.o (fun _ hk => ⟨hk.2, ⟨hk.1.1, hk.1.2⟩⟩)⟩, ⟨am.o⟩, ⟨al.o⟩, ⟨ai.o⟩, ⟨ap.o⟩, ⟨HB.o⟩⟩
                            rw [if_neg c147] at H
                            cases H
                           rw [if_neg c146] at H
                           cases H
                          rw [if_neg c144] at H; have e9 := decide_eq_false c144; clear c144
                          by_cases c152 : aN ≥ (ac.length : Int)
                          ·rw [if_pos c152] at H
                           have fa : decide ((ac.length : Int) ≤ aN) = true := decide_eq_true c152
                           clear c152; obtain ⟨bz, cX⟩ : ∃ j_ : Int, (wrap64 ((ac.length : Int) + (rd (rd_L1 ac (aC)) ao))) = j_ := ⟨_, rfl⟩; replace H : (if 0 ≤ (bz) then (if (bz) < (ar.length : Int) then (spec_CountingForm.l3 kj94 (ac.length : Int) a9 be aN (ar.set ((bz) : Int).toNat (wrap64 ((rd ar (bz)) + 1))) (wrap64 (ao + 1)) ay ac av ay aw au ax) else (none)) else (none)) = some (r1, r2, r3, r4, r5) := by first | (rw [cX] at H; exact H) | (simp only [cX] at H ⊢; exact H)
                           have io : (IntKind.i64.wrap ((ac.length : Int) + (rd (rd_L1 ac (aC)) ao))) = bz := (i64_w _).trans cX
                           by_cases c154 : 0 ≤ (bz)
                           ·rw [if_pos c154] at H; have iL := decide_eq_true c154; clear c154
                            by_cases c155 : (bz) < (ar.length : Int)
                            ·rw [if_pos c155] at H; have iM := decide_eq_true c155; clear c155; obtain ⟨fO, ef⟩ := ex_ ((ar.set ((bz) : Int).toNat (wrap64 ((rd ar (bz)) + 1))) : List Int); replace H : (spec_CountingForm.l3 kj94 (ac.length : Int) a9 be aN fO (wrap64 (ao + 1)) ay ac av ay aw au ax) = some (r1, r2, r3, r4, r5) := by (rw [ef]; with_reducible exact H)
                             have gj := A_ ef; clear ef
                             have H' := A_ H
                             clear H; obtain ⟨jI, gH, gU⟩ := Kd.R_slice an.o; subst gU
                             have fs : 0 ≤ ((bz) : Int) := oa_
                             have fE : (bz) < (ar.length : Int) := oa_
                             obtain ⟨jO, iW, ew⟩ := Kd.at_int (Kd.R_reads' an.o).2.2 (bz) fs fE
                             cases iW
                             replace fs := eq_true fs; replace fE := eq_true fE
                             have fl : 0 ≤ ((bz) : Int) := oa_
                             have fy : ((bz) : Int) < ((ar.length : Int) : Int) := oa_
                             obtain ⟨dV, j4, eL, eP, gl156, cl156, HG156⟩ := Kd.R_form an.o (by omega)
                             (first | cases eL | (injection eL with ea_ en_ ec_; (first | subst ea_ | (injection ea_ with ea_; subst ea_)); subst ec_; clear en_))
                             have GB156 := A_ eP; have GG156 := A_ HG156; clear eP gl156 HG156
                             (first | simp only [add_plain] at ew | skip)
                             obtain ⟨iw, ig⟩ := Kd.R_celln 0 an.o ((bz) : Int) fl fy; replace fl := eq_true fl; replace fy := eq_true fy; have dN := Kd.R_putg an.o ((bz) : Int) (wrap64 ((rd ar (bz)) + 1))
                             go_wp2_with (first | ((with_reducible refine gate_store (t := 3) (p := 135) rfl ?_); refine store_event (t := 3) (p := 135) (w1 := (wc.setCell ⟨dV, ((bz) : Int).toNat, none⟩ (.int .i64 (wrap64 ((rd ar (bz)) + 1))))) rfl rfl rfl (by go_simp; done) ?_; intro w159 hw; have hg : wc.grownBy w159 (some dV) := (by rw [hw]; exact dN.2); have hp_ : Kd.R (Kd.int .i64) 3 w159 w.heap.size (o3 af ae ag) (.slice (some ⟨dV, 0, none⟩) ar.length gH) fO := (by rw [hw, gj.o]; exact dN.1); clear dN; replace aG := sB_ (ok := (o4 (.slice (some bl) ac.length aQ) af ae ag)) hp_ aG (fun _ hk => ⟨⟨hk.2.1, ⟨hk.2.2.1, ⟨hk.2.2.2.1, hk.2.2.2.2⟩⟩⟩, hk.1⟩) hg; replace ab := sB_ (ok := (o4 u12 af ae ag)) hp_ ab (fun _ hk => ⟨⟨hk.1, ⟨hk.2.2.1, ⟨hk.2.2.2.1, hk.2.2.2.2⟩⟩⟩, hk.2.1⟩) hg; replace aa := rB_ (ok := (o2 ae ag)) hp_ aa (fun _ hk => ⟨⟨hk.2.1, hk.2.2⟩, hk.1⟩) hg; replace aj := rB_ (ok := (o2 af ag)) hp_ aj (fun _ hk => ⟨⟨hk.2.1, hk.2.2⟩, hk.1⟩) hg; replace ak := rB_ (ok := (o5 u12 (.slice (some bl) ac.length aQ) af ae ag)) hp_ ak (fun _ hk => ⟨⟨hk.1, ⟨hk.2.2.1, ⟨hk.2.2.2.1, ⟨hk.2.2.2.2.1, hk.2.2.2.2.2⟩⟩⟩⟩, hk.2.1⟩) hg; replace ah := rB_ (ok := (o2 af ae)) hp_ ah (fun _ hk => ⟨⟨hk.2.1, hk.2.2⟩, hk.1⟩) hg; replace am := gR_ an am hg; replace al := gR_ an al hg; replace ai := gR_ an ai hg; replace ap := gR_ an ap hg; replace an := A_ (hp_); replace HB := A_ ((by rw [hw]; exact below_set (HB.o) GB156.o : Below w.heap.size w w159)); clear hg hw hp_))
                             (try subst bv)
                             (try subst bI)
                             (try subst bW)
                             (try subst cX)
                             go_roundg kj94
                             case measure => have := b7.o; have := b8.o; have := ci.o; have := cj.o; have := cr.o; have := bP.o; omega
                             case rel => exact ⟨(fO), (wrap64 (ao + 1)), (by rfl), H', ⟨by have := b7.o; have := b8.o; have := ci.o; have := cj.o; have := cr.o; have := bP.o; omega⟩, ⟨by exact Kd.S_mono aG.o (fun _ hk => ⟨hk.2, ⟨hk.1.1, ⟨hk.1.2.1, ⟨hk.1.2.2.1, hk.1.2.2.2⟩⟩⟩⟩)⟩, ⟨an.o⟩, ⟨by exact Kd.S_mono ab.o (fun _ hk => ⟨hk.1.1, ⟨hk.2, ⟨hk.1.2.1, ⟨hk.1.2.2.1, hk.1.2.2.2⟩⟩⟩⟩)⟩, ⟨by exact Kd.R_mono aa.o (fun _ hk => ⟨hk.2, ⟨hk.1.1, hk.1.2⟩⟩)⟩, ⟨by exact Kd.R_mono aj.o (fun _ hk => ⟨hk.2, ⟨hk.1.1, hk.1.2⟩⟩)⟩, ⟨by exact Kd.R_mono ak.o (fun _ hk => ⟨hk.1.1, ⟨hk.2, ⟨hk.1.2.1, ⟨hk.1.2.2.1, ⟨hk.1.2.2.2.1, hk.1.2.2.2.2⟩⟩⟩⟩⟩)⟩, ⟨by exact Kd.R_mono ah.o (fun _ hk => ⟨hk.2, ⟨hk.1.1, hk.1.2⟩⟩)⟩, ⟨am.o⟩, ⟨al.o⟩, ⟨ai.o⟩, ⟨ap.o⟩, ⟨HB.o⟩⟩
                            rw [if_neg c155] at H
                            cases H
                           rw [if_neg c154] at H
                           cases H
                          rw [if_neg c152] at H
                          have fa : decide ((ac.length : Int) ≤ aN) = false := decide_eq_false c152
                          clear c152
                          have H' := A_ H
                          clear H
                          go_wp2
                          (try subst bv)
                          (try subst bI)
                          (try subst bW)
                          go_roundg kj94
                          case measure => have := b7.o; have := b8.o; have := ci.o; have := cj.o; have := cr.o; have := bP.o; omega
                          case rel => exact ⟨(ar), (wrap64 (ao + 1)), (by rfl), H', ⟨by have := b7.o; have := b8.o; have := ci.o; have := cj.o; have := cr.o; have := bP.o; omega⟩, ⟨aG.o⟩, ⟨an.o⟩, ⟨ab.o⟩, ⟨aa.o⟩, ⟨aj.o⟩, ⟨ak.o⟩, ⟨ah.o⟩, ⟨am.o⟩, ⟨al.o⟩, ⟨ai.o⟩, ⟨ap.o⟩, ⟨HB.o⟩⟩
                         rw [if_neg c143] at H; have e8 := decide_eq_false c143; clear c143
                         by_cases c160 : aN ≥ (ac.length : Int)
                         ·rw [if_pos c160] at H
                          have fb : decide ((ac.length : Int) ≤ aN) = true := decide_eq_true c160
                          clear c160; obtain ⟨bA, cY⟩ : ∃ j_ : Int, (wrap64 ((ac.length : Int) + (rd (rd_L1 ac (aC)) ao))) = j_ := ⟨_, rfl⟩; replace H : (if 0 ≤ (bA) then (if (bA) < (ar.length : Int) then (spec_CountingForm.l3 kj94 (ac.length : Int) a9 be aN (ar.set ((bA) : Int).toNat (wrap64 ((rd ar (bA)) + 1))) (wrap64 (ao + 1)) ay ac av ay aw au ax) else (none)) else (none)) = some (r1, r2, r3, r4, r5) := by first | (rw [cY] at H; exact H) | (simp only [cY] at H ⊢; exact H)
                          have ip : (IntKind.i64.wrap ((ac.length : Int) + (rd (rd_L1 ac (aC)) ao))) = bA := (i64_w _).trans cY
                          by_cases c162 : 0 ≤ (bA)
                          ·rw [if_pos c162] at H; have iN := decide_eq_true c162; clear c162
                           by_cases c163 : (bA) < (ar.length : Int)
                           ·rw [if_pos c163] at H; have iO := decide_eq_true c163; clear c163; obtain ⟨fP, eg⟩ := ex_ ((ar.set ((bA) : Int).toNat (wrap64 ((rd ar (bA)) + 1))) : List Int); replace H : (spec_CountingForm.l3 kj94 (ac.length : Int) a9 be aN fP (wrap64 (ao + 1)) ay ac av ay aw au ax) = some (r1, r2, r3, r4, r5) := by (rw [eg]; with_reducible exact H)
                            have gl := A_ eg; clear eg
                            have H' := A_ H
                            clear H; obtain ⟨jJ, gI, gV⟩ := Kd.R_slice an.o; subst gV
                            have ft : 0 ≤ ((bA) : Int) := oa_
                            have fF : (bA) < (ar.length : Int) := oa_
                            obtain ⟨jP, iX, ex⟩ := Kd.at_int (Kd.R_reads' an.o).2.2 (bA) ft fF
                            cases iX
                            replace ft := eq_true ft; replace fF := eq_true fF
                            have fm : 0 ≤ ((bA) : Int) := oa_
                            have fz : ((bA) : Int) < ((ar.length : Int) : Int) := oa_
                            obtain ⟨dW, j6, eN, eQ, gl164, cl164, HG164⟩ := Kd.R_form an.o (by omega)
                            (first | cases eN | (injection eN with ea_ en_ ec_; (first | subst ea_ | (injection ea_ with ea_; subst ea_)); subst ec_; clear en_))
                            have GB164 := A_ eQ; have GG164 := A_ HG164; clear eQ gl164 HG164
                            (first | simp only [add_plain] at ex | skip)
                            obtain ⟨ix, ii⟩ := Kd.R_celln 0 an.o ((bA) : Int) fm fz; replace fm := eq_true fm; replace fz := eq_true fz; have dO := Kd.R_putg an.o ((bA) : Int) (wrap64 ((rd ar (bA)) + 1))
                            go_wp2_with (first | ((with_reducible refine gate_store (t := 3) (p := 135) rfl ?_); refine store_event (t := 3) (p := 135) (w1 := (wc.setCell ⟨dW, ((bA) : Int).toNat, none⟩ (.int .i64 (wrap64 ((rd ar (bA)) + 1))))) rfl rfl rfl (by go_simp; done) ?_; intro w167 hw; have hg : wc.grownBy w167 (some dW) := (by rw [hw]; exact dO.2); have hp_ : Kd.R (Kd.int .i64) 3 w167 w.heap.size (o3 af ae ag) (.slice (some ⟨dW, 0, none⟩) ar.length gI) fP := (by rw [hw, gl.o]; exact dO.1); clear dO; replace aG := sB_ (ok := (o4 (.slice (some bl) ac.length aQ) af ae ag)) hp_ aG (fun _ hk => ⟨⟨hk.2.1, ⟨hk.2.2.1, ⟨hk.2.2.2.1, hk.2.2.2.2⟩⟩⟩, hk.1⟩) hg; replace ab := sB_ (ok := (o4 u12 af ae ag)) hp_ ab (fun _ hk => ⟨⟨hk.1, ⟨hk.2.2.1, ⟨hk.2.2.2.1, hk.2.2.2.2⟩⟩⟩, hk.2.1⟩) hg; replace aa := rB_ (ok := (o2 ae ag)) hp_ aa (fun _ hk => ⟨⟨hk.2.1, hk.2.2⟩, hk.1⟩) hg; replace aj := rB_ (ok := (o2 af ag)) hp_ aj (fun _ hk => ⟨⟨hk.2.1, hk.2.2⟩, hk.1⟩) hg; replace ak := rB_ (ok := (o5 u12 (.slice (some bl) ac.length aQ) af ae ag)) hp_ ak (fun _ hk => ⟨⟨hk.1, ⟨hk.2.2.1, ⟨hk.2.2.2.1, ⟨hk.2.2.2.2.1, hk.2.2.2.2.2⟩⟩⟩⟩, hk.2.1⟩) hg; replace ah := rB_ (ok := (o2 af ae)) hp_ ah (fun _ hk => ⟨⟨hk.2.1, hk.2.2⟩, hk.1⟩) hg; replace am := gR_ an am hg; replace al := gR_ an al hg; replace ai := gR_ an ai hg; replace ap := gR_ an ap hg; replace an := A_ (hp_); replace HB := A_ ((by rw [hw]; exact below_set (HB.o) GB164.o : Below w.heap.size w w167)); clear hg hw hp_))
                            (try subst bv)
                            (try subst bI)
                            (try subst bW)
                            (try subst cY)
                            go_roundg kj94
                            case measure => have := b7.o; have := b8.o; have := ci.o; have := cj.o; have := cr.o; have := bP.o; omega
                            case rel => exact ⟨(fP), (wrap64 (ao + 1)), (by rfl), H', ⟨by have := b7.o; have := b8.o; have := ci.o; have := cj.o; have := cr.o; have := bP.o; omega⟩, ⟨by exact Kd.S_mono aG.o (fun _ hk => ⟨hk.2, ⟨hk.1.1, ⟨hk.1.2.1, ⟨hk.1.2.2.1, hk.1.2.2.2⟩⟩⟩⟩)⟩, ⟨an.o⟩, ⟨by exact Kd.S_mono ab.o (fun _ hk => ⟨hk.1.1, ⟨hk.2, ⟨hk.1.2.1, ⟨hk.1.2.2.1, hk.1.2.2.2⟩⟩⟩⟩)⟩, ⟨by exact Kd.R_mono aa.o (fun _ hk => ⟨hk.2, ⟨hk.1.1, hk.1.2⟩⟩)⟩, ⟨by exact Kd.R_mono aj.o (fun _ hk => ⟨hk.2, ⟨hk.1.1, hk.1.2⟩⟩)⟩, ⟨by exact Kd.R_mono ak.o (fun _ hk => ⟨hk.1.1, ⟨hk.2, ⟨hk.1.2.1, ⟨hk.1.2.2.1, ⟨hk.1.2.2.2.1, hk.1.2.2.2.2⟩⟩⟩⟩⟩)⟩, ⟨by exact Kd.R_mono ah.o (fun _ hk => ⟨hk.2, ⟨hk.1.1, hk.1.2⟩⟩)⟩, ⟨am.o⟩, ⟨al.o⟩, ⟨ai.o⟩, ⟨ap.o⟩, ⟨HB.o⟩⟩
                           rw [if_neg c163] at H
                           cases H
                          rw [if_neg c162] at H
                          cases H
                         rw [if_neg c160] at H
                         have fb : decide ((ac.length : Int) ≤ aN) = false := decide_eq_false c160
                         clear c160
                         have H' := A_ H
                         clear H
                         go_wp2
                         (try subst bv)
                         (try subst bI)
                         (try subst bW)
                         go_roundg kj94
                         case measure => have := b7.o; have := b8.o; have := ci.o; have := cj.o; have := cr.o; have := bP.o; omega
                         case rel => exact ⟨(ar), (wrap64 (ao + 1)), (by rfl), H', ⟨by have := b7.o; have := b8.o; have := ci.o; have := cj.o; have := cr.o; have := bP.o; omega⟩, ⟨aG.o⟩, ⟨an.o⟩, ⟨ab.o⟩, ⟨aa.o⟩, ⟨aj.o⟩, ⟨ak.o⟩, ⟨ah.o⟩, ⟨am.o⟩, ⟨al.o⟩, ⟨ai.o⟩, ⟨ap.o⟩, ⟨HB.o⟩⟩
                      rw [if_neg c94] at H
                      cases H
                     rw [if_neg c93] at H
                     cases H
                    rw [if_neg c92] at H
                    cases H
                   rw [if_neg c91] at H
                   cases H
                  rw [if_neg c88] at H; have eG := decide_eq_false c88; clear c88
                  by_cases c168 : be.length < 5864062014805
                  ·rw [if_pos c168] at H; have eZ := A_ c168; clear c168; obtain ⟨hV, d9⟩ := ex_ ((be ++ [ar]) : List (List Int)); replace H : (spec_CountingForm.l2 k5 (ac.length : Int) a9 hV (wrap64 (aN + 1)) ay ac av ay aw au ax) = some (r1, r2, r3, r4, r5) := by (rw [d9]; with_reducible exact H)
                   have gd := A_ d9; clear d9
                   have H' := A_ H
                   clear H; have i6 := bu.o; have ji := bd.o; have i7 := bo.o; have jj := ba.o; have i8 := aq.o; have jk := aD.o; have hy := bq3 ai.o; obtain ⟨dr, dx, gW⟩ := Kd.R_slice an.o; subst gW
                   go_wp2_with (first | ((with_reducible refine gate_builtin (b := .append) (xs := #[.tmp 136, .tmp 138]) rfl ?_); at_builtin; refine Kd.S_append (Kd.slice 3 (Kd.int .i64)) (w0 := w) w.heap.size rfl (.tmp 136) (.tmp 138) 22 23 (.slice none 0 0) 24 rfl Try.underlying22 info23 rfl (by decide) (by omega) u12 be ar [.slice dr ar.length dx] (o4 (.slice bi ac.length aQ) af ae ag) (fun k_ => some k_ = (.slice dr ar.length dx : Value).ownBlock) rfl rfl ?aP (fun k_ hk_ => ((Kd.R_mono (ok' := fun k_ => ((o4 (.slice bi ac.length aQ) af ae ag)) k_ ∧ some k_ ≠ (u12 : Value).ownBlock) (Kd.R_apart' (Kd.R_apart' (an.o) (Kd.S_typed ab.o) (by decide)) (Kd.S_typed aG.o) (by decide)) (fun k_ hk => ⟨⟨hk.1.2, ⟨hk.1.1.1, ⟨hk.1.1.2.1, hk.1.1.2.2⟩⟩⟩, hk.2⟩))).1 k_ hk_.symm) ?aF ?aO ?aB ?aS ?aL ?_; (case aP => exact Kd.M_row (Kd.R_mono (Kd.R_tight rfl (Kd.R_mono (ok' := fun k_ => ((o4 (.slice bi ac.length aQ) af ae ag)) k_ ∧ some k_ ≠ (u12 : Value).ownBlock) (Kd.R_apart' (Kd.R_apart' (an.o) (Kd.S_typed ab.o) (by decide)) (Kd.S_typed aG.o) (by decide)) (fun k_ hk => ⟨⟨hk.1.2, ⟨hk.1.1.1, ⟨hk.1.1.2.1, hk.1.1.2.2⟩⟩⟩, hk.2⟩))) (fun _ h_ => h_))); (case aB => exact HB.o); (case aF => exact (fun k_ hk => ⟨Kd.fresh' (Kd.S_lt ab.o) k_ hk, Kd.fresh' (Kd.R_lt aa.o) k_ hk, Kd.fresh' (Kd.R_lt aj.o) k_ hk, Kd.fresh' (Kd.R_lt ah.o) k_ hk⟩)); (case aO => exact (by exact Kd.S_mono aG.o (fun k_ hk => ⟨⟨hk.2.1, ⟨hk.2.2.1, ⟨hk.2.2.2.1, hk.2.2.2.2⟩⟩⟩, fun e_ => hk.1 e_⟩))); (case aS => exact (below_size HB.o)); (case aL => have := eZ.o; omega); intro lg w173 ho hb hg hat; rw [← gd.o] at ho; replace ab := A_ (Kd.S_after (ok := (o4 (.slice dr ar.length dx) af ae ag)) (by exact Kd.S_mono ab.o (fun _ hk => ⟨⟨hk.2.1, ⟨hk.2.2.1, ⟨hk.2.2.2.1, hk.2.2.2.2⟩⟩⟩, hk.1⟩)) hg hat); replace aa := A_ (Kd.R_over' aa.o (Kd.S_typed aG.o) (by decide) hg); replace aj := A_ (Kd.R_over' aj.o (Kd.S_typed aG.o) (by decide) hg); replace ak := A_ (Kd.R_after (ok := (o5 (.slice dr ar.length dx) (.slice bi ac.length aQ) af ae ag)) (by exact Kd.R_mono ak.o (fun _ hk => ⟨⟨hk.2.1, ⟨hk.2.2.1, ⟨hk.2.2.2.1, ⟨hk.2.2.2.2.1, hk.2.2.2.2.2⟩⟩⟩⟩, hk.1⟩)) hg hat); replace ah := A_ (Kd.R_over' ah.o (Kd.S_typed aG.o) (by decide) hg); replace am := gS_ aG am hg; replace al := gS_ aG al hg; replace ai := gS_ aG ai hg; replace ap := gS_ aG ap hg; replace HB := A_ (hb); have fY := A_ (ho); clear aG an; clear ho hb hg hat))
                   (try subst bv)
                   (try subst bI)
                   go_roundg k5
                   case measure => have := b7.o; have := b8.o; have := ci.o; have := cj.o; have := cr.o; omega
                   case rel => exact ⟨(hV), (wrap64 (aN + 1)), (av), (aw), (ax), (af), (ae), (ag), (by rfl), H', ⟨by have := b7.o; have := b8.o; have := ci.o; have := cj.o; have := cr.o; omega⟩, ⟨fY.o⟩, ⟨by exact Kd.S_mono ab.o (fun _ hk => ⟨hk.2, ⟨hk.1.2.1, ⟨hk.1.2.2.1, hk.1.2.2.2⟩⟩⟩)⟩, ⟨by exact Kd.R_mono aa.o (fun _ hk => ⟨hk.2.1, hk.2.2⟩)⟩, ⟨by exact Kd.R_mono aj.o (fun _ hk => ⟨hk.2.1, hk.2.2⟩)⟩, ⟨by exact Kd.R_mono ak.o (fun _ hk => ⟨hk.2, ⟨hk.1.2.1, ⟨hk.1.2.2.1, ⟨hk.1.2.2.2.1, hk.1.2.2.2.2⟩⟩⟩⟩)⟩, ⟨by exact Kd.R_mono ah.o (fun _ hk => ⟨hk.2.1, hk.2.2⟩)⟩, ⟨am.o⟩, ⟨al.o⟩, ⟨ai.o⟩, ⟨ap.o⟩, ⟨HB.o⟩⟩
                  rw [if_neg c168] at H
                  cases H
               rw [if_neg c85] at H
               cases H
              rw [if_neg c84] at H
              cases H
             rw [if_neg c82] at H; have dQ := decide_eq_false c82; clear c82
             by_cases c175 : au.length < 5864062014805
             ·rw [if_pos c175] at H; have e0 := A_ c175; clear c175; obtain ⟨dk, d7⟩ := ex_ ((au ++ [be]) : List (List (List Int))); replace H : (spec_CountingForm.l1 k4 (ac.length : Int) (wrap64 (a9 + 1)) ay ac av ay aw dk ax) = some (r1, r2, r3, r4, r5) := by (rw [d7]; with_reducible exact H)
              have ga := A_ d7; clear d7
              have H' := A_ H
              clear H; have i9 := aH.o; have jl := az.o; have ja := aI.o; have jm := aA.o; have jb := aD.o; have jn := aq.o; have hC := bq4 ap.o; obtain ⟨fQ, gJ, gX⟩ := Kd.S_slice aG.o; subst gX
              go_wp2_with (first | ((with_reducible refine gate_builtin (b := .append) (xs := #[.tmp 141, .tmp 143]) rfl ?_); at_builtin; refine Kd.R_append (Kd.slice 23 (Kd.slice 3 (Kd.int .i64))) (w0 := w) w.heap.size rfl (.tmp 141) (.tmp 143) 27 22 (.slice none 0 0) 24 rfl Try.underlying27 info22 rfl (by decide) (by omega) bB au be [.slice fQ be.length gJ] (o4 (.slice bi ac.length aQ) af ae ag) (fun k_ => ((o4 (.slice bi ac.length aQ) af ae ag)) k_ ∧ some k_ ≠ (bB : Value).ownBlock) rfl rfl ?aP (fun _ hk => hk) ?aF ?aO ?aB ?aS ?aL ?_; (case aP => exact Kd.M_row (Kd.R_mono (Kd.R_apart' ((Kd.S_R aG.o)) (Kd.R_typed ak.o) (by decide)) (fun k_ hk => ⟨⟨hk.1.1, ⟨hk.1.2.1, ⟨hk.1.2.2.1, hk.1.2.2.2⟩⟩⟩, hk.2⟩))); (case aB => exact HB.o); (case aF => exact (fun k_ hk => ⟨Kd.fresh' (Kd.S_lt ab.o) k_ hk, Kd.fresh' (Kd.R_lt aa.o) k_ hk, Kd.fresh' (Kd.R_lt aj.o) k_ hk, Kd.fresh' (Kd.R_lt ah.o) k_ hk⟩)); (case aO => exact (by exact Kd.R_mono ak.o (fun _ hk => ⟨hk.2.1, ⟨hk.2.2.1, ⟨hk.2.2.2.1, hk.2.2.2.2⟩⟩⟩))); (case aS => exact (below_size HB.o)); (case aL => have := e0.o; omega); intro lf w180 ho hb hg hat; rw [← ga.o] at ho; replace ab := A_ (Kd.S_over' ab.o (Kd.R_typed ak.o) (by decide) hg); replace aa := A_ (Kd.R_over' aa.o (Kd.R_typed ak.o) (by decide) hg); replace aj := A_ (Kd.R_over' aj.o (Kd.R_typed ak.o) (by decide) hg); replace ah := A_ (Kd.R_over' ah.o (Kd.R_typed ak.o) (by decide) hg); replace am := gR_ ak am hg; replace al := gR_ ak al hg; replace ai := gR_ ak ai hg; replace ap := gR_ ak ap hg; replace HB := A_ (hb); have eD := A_ (ho); clear ak aG; clear ho hb hg hat; obtain ⟨cJ, cP, gY⟩ := Kd.R_slice eD.o; subst gY; have hF := bq4 ap.o))
              (try subst bv)
              go_roundg k4
              case measure => have := b7.o; have := b8.o; have := ci.o; have := cj.o; omega
              case rel => exact ⟨(wrap64 (a9 + 1)), (av), (aw), (dk), (ax), (af), (ae), (.slice cJ dk.length cP), (ag), (by rfl), H', ⟨by have := b7.o; have := b8.o; have := ci.o; have := cj.o; omega⟩, ⟨by exact Kd.S_mono (Kd.S_far (p := ⟨aU, 2, none⟩) (Kd.S_types ab.o ap.o (by decide)) (fun _ hk => hk.2) (.slice cJ dk.length cP)) (fun _ hk => ⟨hk.1.2.1, ⟨hk.1.2.2.1, hk.1.2.2.2⟩⟩)⟩, ⟨by exact Kd.R_mono (Kd.R_far (p := ⟨aU, 2, none⟩) (Kd.R_types aa.o ap.o (by decide)) (fun _ hk => hk.2) (.slice cJ dk.length cP)) (fun _ hk => ⟨hk.1.1, hk.1.2⟩)⟩, ⟨by exact Kd.R_mono (Kd.R_far (p := ⟨aU, 2, none⟩) (Kd.R_types aj.o ap.o (by decide)) (fun _ hk => hk.2) (.slice cJ dk.length cP)) (fun _ hk => ⟨hk.1.1, hk.1.2⟩)⟩, ⟨by exact Kd.R_mono (Kd.R_far (p := ⟨aU, 2, none⟩) (Kd.R_types eD.o ap.o (by decide)) (fun _ hk => hk.2) (.slice cJ dk.length cP)) (fun _ hk => ⟨hk.1.1, ⟨hk.1.2.1, ⟨hk.1.2.2.1, hk.1.2.2.2⟩⟩⟩)⟩, ⟨by exact Kd.R_mono (Kd.R_far (p := ⟨aU, 2, none⟩) (Kd.R_types ah.o ap.o (by decide)) (fun _ hk => hk.2) (.slice cJ dk.length cP)) (fun _ hk => ⟨hk.1.1, hk.1.2⟩)⟩, ⟨by exact fa_ az am.o⟩, ⟨by exact fa_ aA al.o⟩, ⟨by exact fa_ aq ai.o⟩, ⟨by exact pu_ 2 ap.o rfl⟩, ⟨by repeat (first | (with_reducible first | exact HB.o | apply below_alloc | apply pw_below_drewN | apply below_drew1 | refine below_set ?_ cK.o | refine below_set ?_ cL.o | refine below_set ?_ cN.o | refine below_set ?_ bC.o) | exact HB.o)⟩⟩
             rw [if_neg c175] at H
             cases H
          rw [if_neg c75] at H; have eF := decide_eq_false c75; clear c75; simp only [Option.some.injEq, Prod.mk.injEq] at H; obtain ⟨rfl, rfl, rfl, rfl, rfl⟩ := H; have jc := bu.o; have jo := bd.o; have jd := bo.o; have jp := ba.o; have je := aq.o; have jq := aD.o; have hG := bq3 ai.o; have jf := aH.o; have jr := az.o; have jg := aI.o; have js := aA.o; have hI := bq4 ap.o; have jh := cf.o; have jt := ce.o; have hJ := bq4 al.o; obtain ⟨fR, gK, gZ⟩ := Kd.R_slice aj.o; subst gZ; obtain ⟨fS, gL, g4⟩ := Kd.R_slice ak.o; subst g4; obtain ⟨fT, gM, g5⟩ := Kd.R_slice ah.o; subst g5
          go_wp2
          refine bodyPost_ret (results_ct rfl _ _ bm 29 #[.int .i64 ay, .slice fR bF.length gK, .slice fS au.length gL, .slice fT bG.length gM] (0, 0) _ rfl (by exact pu_ 3 (pu_ 2 (pu_ 1 (pu_ 0 al.o rfl) rfl) rfl) rfl) Try.underlying29 rfl (by kernel_rfl)) rfl ?_; exact ⟨_, _, _, by first | rfl | (simp [errW_none, errW_some] <;> rfl) | (simp only [← bv]; first | rfl | (simp [errW_none, errW_some] <;> rfl)) | (simp [*, errW_none, errW_some] <;> rfl), by exact Kd.R_mono (gR4_ (tR_ aj al)) (fun _ hk => hk.1.2), by exact Kd.R_mono (gR4_ (tR_ ak al)) (fun _ hk => ⟨hk.1.2.2.1, hk.1.2.2.2⟩), by exact Kd.R_mono (gR4_ (tR_ ah al)) (fun _ hk => hk.1.2), by repeat (first | (with_reducible first | exact HB.o | apply below_alloc | apply pw_below_drewN | apply below_drew1 | refine below_set ?_ cK.o | refine below_set ?_ cL.o | refine below_set ?_ cN.o | refine below_set ?_ bC.o) | exact HB.o)⟩
     rw [if_neg c25] at H
     cases H
    rw [if_neg c24] at H
    cases H
   rw [if_neg c23] at H
   cases H

end Go.Proofs.Ytgmfjcckmapkbaa.PFnExactCountingForm

