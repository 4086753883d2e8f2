/- Walks of the functions that the law reaches. -/
import Derived.Test.YtgmfjcckmapkbaaPFnExactPrefixSumx7
namespace Go.Proofs.Ytgmfjcckmapkbaa.PFnExactPrefixSum
open Go.RowKit Go.Proofs.YtgmfjcckmapkbaaW.PrintWords Go.Proofs.YtgmfjcckmapkbaaW.PrintLast Go.Proofs.YtgmfjcckmapkbaaW.PrintMore
attribute [local go_sem] max2_int min2_int max_two min_two max_three min_three max_four min_four
set_option linter.unusedVariables false
set_option maxHeartbeats 8000000
set_option maxRecDepth 100000
set_option linter.unusedSimpArgs false

mutual
def spec_CountingForm.j0 : Nat → Int → Bool → Int → List (List Int) → List Int → Option (Int × List Int × (List (List (List Int))) × List Int × Bool)
 | 0, _, _, _, _, _ => none
 | k + 1, x1, kB, aT, aE, aV => if kB = true then (some (0, ([] : List Int), ([] : List (List (List Int))), ([] : List Int), false)) else (if 0 ≤ (wrap64 (2 * (aE.length : Int))) then (if (wrap64 (2 * (aE.length : Int)) : Int).toNat ≤ 35184372088832 then ((some (List.replicate (wrap64 (2 * (aE.length : Int)) : Int).toNat 0 : List Int)).bind fun bo => (if 0 < (bo.length : Int) then (spec_CountingForm.l0 k x1 (aE.length : Int) 0 aT aE aV aT (bo.set (0 : Int).toNat 1) (List.replicate (wrap64 (2 * (aE.length : Int)) : Int).toNat 0)) else (none))) else (none)) else (none))
def spec_CountingForm.l0 : Nat → Int → Int → Int → Int → List (List Int) → List Int → Int → List Int → List Int → Option (Int × List Int × (List (List (List Int))) × List Int × Bool)
 | 0, _, _, _, _, _, _, _, _, _ => none
 | k + 1, x1, x8, el, aT, aE, aV, aZ, a3, aY => if el < x8 then (if 0 ≤ el then (if el < (aV.length : Int) then (if (rd aV el) = x1 then (if 0 ≤ (wrap64 (x8 + el)) then (if (wrap64 (x8 + el)) < (aY.length : Int) then (spec_CountingForm.l0 k x1 x8 (wrap64 (el + 1)) aT aE aV aZ a3 (aY.set ((wrap64 (x8 + el)) : Int).toNat 1)) else (none)) else (none)) else (spec_CountingForm.l0 k x1 x8 (wrap64 (el + 1)) aT aE aV aZ a3 aY)) else (none)) else (none)) else (spec_CountingForm.l1 k x8 0 aT aE aV aZ a3 ([] : List (List (List Int))) aY)
def spec_CountingForm.l1 : Nat → Int → Int → Int → List (List Int) → List Int → Int → List Int → List (List (List Int)) → List Int → Option (Int × List Int × (List (List (List Int))) × List Int × Bool)
 | 0, _, _, _, _, _, _, _, _, _ => none
 | k + 1, x8, cr, aT, aE, aV, aZ, a3, a7, aY => if cr < aT then (spec_CountingForm.l2 k x8 cr (([] : List (List Int))) 0 aT aE aV aZ a3 a7 aY) else (some (aZ, a3, a7, aY, true))
def spec_CountingForm.l2 : Nat → Int → Int → List (List Int) → Int → Int → List (List Int) → List Int → Int → List Int → List (List (List Int)) → List Int → Option (Int × List Int × (List (List (List Int))) × List Int × Bool)
 | 0, _, _, _, _, _, _, _, _, _, _, _ => none
 | k + 1, x8, cr, cW, b5, aT, aE, aV, aZ, a3, a7, aY => if b5 < (wrap64 (2 * x8)) then (if 0 ≤ (wrap64 (2 * x8)) then (if (wrap64 (2 * x8) : Int).toNat ≤ 35184372088832 then (spec_CountingForm.l3 k x8 cr cW b5 (List.replicate (wrap64 (2 * x8) : Int).toNat 0) 0 aT aE aV aZ a3 a7 aY) else (none)) else (none)) else (if a7.length < 5864062014805 then (spec_CountingForm.l1 k x8 (wrap64 (cr + 1)) aT aE aV aZ a3 (a7 ++ [cW]) aY) else (none))
def spec_CountingForm.l3 : Nat → Int → Int → List (List Int) → Int → List Int → Int → Int → List (List Int) → List Int → Int → List Int → List (List (List Int)) → List Int → Option (Int × List Int × (List (List (List Int))) × List Int × Bool)
 | 0, _, _, _, _, _, _, _, _, _, _, _, _, _ => none
 | k + 1, x8, cr, cW, b5, cx, cy, aT, aE, aV, aZ, a3, a7, aY => if cy < aT then (if x8 = 0 then (none) else (if 0 ≤ (Int.tmod b5 x8) then (if (Int.tmod b5 x8) < (aE.length : Int) then (if 0 ≤ cy then (if cy < ((rd_L1 aE (Int.tmod b5 x8)).length : Int) then (if b5 < x8 then (spec_CountingForm.j5 k x8 cr cW b5 cx cy (rd (rd_L1 aE (Int.tmod b5 x8)) cy) (cy == cr) aT aE aV aZ a3 a7 aY) else (spec_CountingForm.j5 k x8 cr cW b5 cx cy (rd (rd_L1 aE (Int.tmod b5 x8)) cy) false aT aE aV aZ a3 a7 aY)) else (none)) else (none)) else (none)) else (none))) else (if cW.length < 5864062014805 then (spec_CountingForm.l2 k x8 cr (cW ++ [cx]) (wrap64 (b5 + 1)) aT aE aV aZ a3 a7 aY) else (none))
def spec_CountingForm.j5 : Nat → Int → Int → List (List Int) → Int → List Int → Int → Int → Bool → Int → List (List Int) → List Int → Int → List Int → List (List (List Int)) → List Int → Option (Int × List Int × (List (List (List Int))) × List Int × Bool)
 | 0, _, _, _, _, _, _, _, _, _, _, _, _, _, _, _ => none
 | k + 1, x8, cr, cW, b5, cx, cy, b6, i1, aT, aE, aV, aZ, a3, a7, aY => if i1 = true then (if 0 ≤ b6 then (if b6 < (cx.length : Int) then ((some (cx.set (b6 : Int).toNat (wrap64 ((rd cx b6) + 1)) : List Int)).bind fun be => (if b5 < x8 then (if cy < cr then (if 0 ≤ (wrap64 (x8 + b6)) then (if (wrap64 (x8 + b6)) < (cx.length : Int) then (spec_CountingForm.l3 k x8 cr cW b5 (be.set ((wrap64 (x8 + b6)) : Int).toNat (wrap64 ((rd be (wrap64 (x8 + b6))) + 1))) (wrap64 (cy + 1)) aT aE aV aZ a3 a7 aY) else (none)) else (none)) else (if b5 ≥ x8 then (if 0 ≤ (wrap64 (x8 + b6)) then (if (wrap64 (x8 + b6)) < (cx.length : Int) then (spec_CountingForm.l3 k x8 cr cW b5 (be.set ((wrap64 (x8 + b6)) : Int).toNat (wrap64 ((rd be (wrap64 (x8 + b6))) + 1))) (wrap64 (cy + 1)) aT aE aV aZ a3 a7 aY) else (none)) else (none)) else (spec_CountingForm.l3 k x8 cr cW b5 be (wrap64 (cy + 1)) aT aE aV aZ a3 a7 aY))) else (if b5 ≥ x8 then (if 0 ≤ (wrap64 (x8 + b6)) then (if (wrap64 (x8 + b6)) < (cx.length : Int) then (spec_CountingForm.l3 k x8 cr cW b5 (be.set ((wrap64 (x8 + b6)) : Int).toNat (wrap64 ((rd be (wrap64 (x8 + b6))) + 1))) (wrap64 (cy + 1)) aT aE aV aZ a3 a7 aY) else (none)) else (none)) else (spec_CountingForm.l3 k x8 cr cW b5 be (wrap64 (cy + 1)) aT aE aV aZ a3 a7 aY)))) else (none)) else (none)) else (if b5 < x8 then (if cy < cr then (if 0 ≤ (wrap64 (x8 + b6)) then (if (wrap64 (x8 + b6)) < (cx.length : Int) then (spec_CountingForm.l3 k x8 cr cW b5 (cx.set ((wrap64 (x8 + b6)) : Int).toNat (wrap64 ((rd cx (wrap64 (x8 + b6))) + 1))) (wrap64 (cy + 1)) aT aE aV aZ a3 a7 aY) else (none)) else (none)) else (if b5 ≥ x8 then (if 0 ≤ (wrap64 (x8 + b6)) then (if (wrap64 (x8 + b6)) < (cx.length : Int) then (spec_CountingForm.l3 k x8 cr cW b5 (cx.set ((wrap64 (x8 + b6)) : Int).toNat (wrap64 ((rd cx (wrap64 (x8 + b6))) + 1))) (wrap64 (cy + 1)) aT aE aV aZ a3 a7 aY) else (none)) else (none)) else (spec_CountingForm.l3 k x8 cr cW b5 cx (wrap64 (cy + 1)) aT aE aV aZ a3 a7 aY))) else (if b5 ≥ x8 then (if 0 ≤ (wrap64 (x8 + b6)) then (if (wrap64 (x8 + b6)) < (cx.length : Int) then (spec_CountingForm.l3 k x8 cr cW b5 (cx.set ((wrap64 (x8 + b6)) : Int).toNat (wrap64 ((rd cx (wrap64 (x8 + b6))) + 1))) (wrap64 (cy + 1)) aT aE aV aZ a3 a7 aY) else (none)) else (none)) else (spec_CountingForm.l3 k x8 cr cW b5 cx (wrap64 (cy + 1)) aT aE aV aZ a3 a7 aY)))
end
def spec_CountingForm.f (k : Nat) (bL : Int) (bE : List (List Int)) (bF : List Int) (a1 : Int) : Option (Int × List Int × (List (List (List Int))) × List Int × Bool) := (spec_MinimalForm.f k bL bE bF).bind fun bt311 => (if bt311.2.2.2 = true then ((spec_l1In.f a1 0 3).bind fun ek => (spec_CountingForm.j0 k a1 (!ek) bt311.1 bt311.2.1 bt311.2.2.1)) else (spec_CountingForm.j0 k a1 true bt311.1 bt311.2.1 bt311.2.2.1))
def spec_CountingForm.T5 : Bool × List (List Nat × List Nat) := (true, [([], []), ([0], [0]), ([], []), ([2], [2]), ([3, 3], [3]), ([], []), ([5], [5]), ([6, 6], [6]), ([1, 4, 7], [1, 4, 7]), ([], []), ([9, 8, 0, 1, 2, 3, 4, 5, 6, 7, 8, 9], [8, 9])])
def spec_CountingForm.B5 : List Nat := [0, 1, 0, 4, 12, 0, 32, 96, 255, 0, 1023]
theorem spec_CountingForm.tab5 : rtab .any (opsOf Try.f7 5) = spec_CountingForm.T5 := by kernel_rfl
theorem spec_CountingForm.bits5 : waitsOk spec_CountingForm.T5.2 spec_CountingForm.B5 = true := by kernel_rfl
def spec_CountingForm.T23 : Bool × List (List Nat × List Nat) := (true, [([], []), ([0], [0]), ([], []), ([], []), ([2, 3], [2, 3]), ([1, 4], [1, 4]), ([5], [5]), ([], []), ([6, 7], [6, 7]), ([8], [8]), ([9, 0, 1, 2, 3, 4, 5, 6, 7, 8, 9], [9])])
def spec_CountingForm.B23 : List Nat := [0, 1, 0, 0, 12, 31, 63, 0, 255, 511, 1023]
theorem spec_CountingForm.tab23 : rtab .any (opsOf Try.f7 23) = spec_CountingForm.T23 := by kernel_rfl
theorem spec_CountingForm.bits23 : waitsOk spec_CountingForm.T23.2 spec_CountingForm.B23 = true := by kernel_rfl
theorem spec_CountingForm.calls (k : Nat) (bL : Int) (bS : Option Addr) (bU : Nat) (bE : List (List Int)) (bT : Option Addr) (bV : Nat) (bF : List Int) (a1 : Int) (r1 : Int) (r2 : List Int) (r3 : List (List (List Int))) (r4 : List Int) (r5 : Bool) (w : World) (eE : Kd.C (Kd.slice 3 (Kd.int .i64)) w bS bE.length bE) (eC : bE.length ≤ bU) (eF : Kd.C (Kd.int .i64) w bT bF.length bF) (eD : bF.length ≤ bV) (h : spec_CountingForm.f k bL bE bF a1 = some (r1, r2, r3, r4, r5)) :
  Calls Try.prog 7 #[.agg #[.int .i64 bL, .slice bS bE.length bU, .slice bT bF.length bV], .int .i64 a1] w fun e w' => ∃ v1_ v2_ v3_ : Value, e = .returned (.tuple #[.agg #[.int .i64 r1, v1_, v2_, v3_], .bool r5]) ∧ Kd.R (Kd.int .i64) 3 w' w.heap.size (o1 v3_) v1_ r2 ∧ Kd.R (Kd.slice 23 (Kd.slice 3 (Kd.int .i64))) 22 w' w.heap.size (o2 v1_ v3_) v2_ r3 ∧ Kd.R (Kd.int .i64) 3 w' w.heap.size (o1 v1_) v3_ r4 ∧ Below w.heap.size w w' := by
 have hu32 := Try.underlying32; have hu29 := Try.underlying29; have fJ := A_ eE; have fE := A_ eC; clear eE eC; have fK := A_ eF; have fF := A_ eD; clear eF eD; have HB := A_ (Below.refl w.heap.size w); unfold spec_CountingForm.f at h; have H := h; clear h; replace H := bA_ H; obtain ⟨⟨ay, ac, aX, gR⟩, A3, H⟩ := H; dsimp only at H; have HC4 := A_ H; clear H; go_enter Try.func7, Try.ntmps7
 go_upto_region 2 with (first | ((with_reducible refine gate_dst (N := 2) rfl ?_); refine box_event rfl (N := 2) rfl (cs := #[.int .i64 bL, .slice bS bE.length bU, .slice bT bF.length bV]) (t := 32) (by go_simp; done) ?_; intro bk hg w5 hbox hb; have am := A_ (hbox); have ja := A_ (lg_ (below_size HB.o) hg); have cB := A_ (lg_ (below_size HB.o) hg); replace HB := bs_ HB hb; clear hb hbox hg) | ((with_reducible refine gate_dst (N := 4) rfl ?_); refine box_event rfl (N := 4) rfl (cs := #[.int .i64 0, .slice none 0 0, .slice none 0 0, .slice none 0 0]) (t := 29) (by go_simp; done) ?_; intro bh hg w6 hbox hb; have al := A_ (hbox); have jb := A_ (lg_ (below_size HB.o) hg); have cC := A_ (lg_ (below_size HB.o) hg); replace HB := bs_ HB hb; have b7 := nl_ am hg; have b8 := ng_ am hg; replace am := bb_ am hb; clear hb hbox hg; have kn := b7.o; have ko := b8.o; have e0 := bq3 am.o) | ((with_reducible refine gc_ 21 rfl ?_); refine cM_ E21 19 (spec_MinimalForm.calls k bL _ _ bE _ _ bF ay ac aX gR _ (Kd.C_below fJ.o HB.o) fE.o (Kd.C_below fK.o HB.o) fF.o A3.o) ?_; rintro e w9 ⟨kw, kx, rfl, ho0, ho1, hb⟩; refine ⟨_, rfl, ?_⟩; have cX := A_ (Kd.S_lower ho0 (below_size HB.o)); have cY := A_ (Kd.R_lower ho1 (below_size HB.o)); replace am := bb_ am hb; replace al := bb_ al hb; replace HB := bs_ HB hb; clear hb ho0; (try clear ho1)) | ((with_reducible refine gate_dst (N := 6) rfl ?_); refine box_event rfl (N := 6) rfl (cs := #[.int .i64 0, .slice none 0 0, .slice none 0 0]) (t := 32) (by go_simp; done) ?_; intro aK hg w10 hbox hb; replace cX := A_ (Kd.S_below cX.o hb); replace cY := A_ (Kd.R_below cY.o hb); have ai := A_ (hbox); have jc := A_ (lg_ (below_size HB.o) hg); have cD := A_ (lg_ (below_size HB.o) hg); replace HB := bs_ HB hb; have a8 := nl_ am hg; have bp := ng_ am hg; replace am := bb_ am hb; have a5 := nl_ al hg; have bj := ng_ al hg; replace al := bb_ al hb; clear hb hbox hg; have jt := bp.o; have jQ := a8.o; have ju := bj.o; have jR := a5.o; have ea := bq3 ai.o; obtain ⟨bd, aQ, io⟩ := Kd.S_slice cX.o; subst io; obtain ⟨ba, bb, ip⟩ := Kd.R_slice cY.o; subst ip))
 (try simp only [Act.put, mD, mE, mF])
 go_cut [28] (fun kv wc => ∃ (kq : Nat) (dr : Bool), kv = .bool dr ∧ Aside0 (spec_CountingForm.j0 kq a1 dr ay ac aX = some (r1, r2, r3, r4, r5)) ∧ Aside0 (kq ≤ k) ∧ Aside0 (Kd.S (Kd.slice 3 (Kd.int .i64)) 23 wc w.heap.size (o1 (.slice ba aX.length bb)) (.slice bd ac.length aQ) ac) ∧ Aside0 (Kd.R (Kd.int .i64) 3 wc w.heap.size (fun _ => True) (.slice ba aX.length bb) aX) ∧ Aside0 (wc.heap[bk]? = some (.cells #[.int .i64 bL, (.slice bS bE.length bU), (.slice bT bF.length bV)] 32 (0, 0))) ∧ Aside0 (wc.heap[bh]? = some (.cells #[.int .i64 0, (.slice none 0 0), (.slice none 0 0), (.slice none 0 0)] 29 (0, 0))) ∧ Aside0 (wc.heap[aK]? = some (.cells #[.int .i64 ay, (.slice bd ac.length aQ), (.slice ba aX.length bb)] 32 (0, 0))) ∧ Aside0 (Below w.heap.size w wc))
 case first =>
  have H := HC4.o; clear HC4
  by_cases c16 : gR = true
  ·subst c16; rw [if_pos rfl] at H; replace H := bA_ H; obtain ⟨ek, A17, H⟩ := H
   have H' := A_ H
   clear H
   go_wp2_with (first | (go_at_call 22; (with_reducible refine (spec_l1In.calls a1 0 3 ek _ A17.o).mono ?_); rintro e w' ⟨rfl, ⟨nd, rfl⟩⟩))
   go_meet
   case rel => exact ⟨_, (!ek), (by rfl), H', ⟨by omega⟩, ⟨by (with_reducible repeat (first | apply Kd.S_alloc | apply Kd.S_drewN | apply Kd.S_drew)); exact Kd.S_mono (gS3_ (tS_ cX ai)) (fun _ hk => hk.1)⟩, ⟨by (with_reducible repeat (first | apply Kd.R_alloc | apply Kd.R_drewN | apply Kd.R_drew)); exact Kd.R_mono (gR3_ (tR_ cY ai)) (fun _ hk => trivial)⟩, ⟨by (with_reducible repeat (first | refine blk_drewN ?_ _ | refine blk_drew ?_ | refine blk_alloc ?_ _)); exact fa_ a8 (fa_ a8 (fa_ a8 am.o))⟩, ⟨by (with_reducible repeat (first | refine blk_drewN ?_ _ | refine blk_drew ?_ | refine blk_alloc ?_ _)); exact fa_ a5 (fa_ a5 (fa_ a5 al.o))⟩, ⟨by (with_reducible repeat (first | refine blk_drewN ?_ _ | refine blk_drew ?_ | refine blk_alloc ?_ _)); exact pu_ 2 (pu_ 1 (pu_ 0 ai.o rfl) rfl) rfl⟩, ⟨by repeat (first | (with_reducible first | exact HB.o | apply below_alloc | apply pw_below_drewN | apply below_drew1 | refine below_set ?_ cB.o | refine below_set ?_ cC.o | refine below_set ?_ cD.o) | exact HB.o)⟩⟩
  replace c16 := Bool.eq_false_iff.mpr c16; subst c16; rw [if_neg nf_] at H
  have H' := A_ H
  clear H
  go_wp2
  go_meet
  case rel => exact ⟨_, (true), (by rfl), H', ⟨by omega⟩, ⟨by exact Kd.S_mono (gS3_ (tS_ cX ai)) (fun _ hk => hk.1)⟩, ⟨by exact Kd.R_mono (gR3_ (tR_ cY ai)) (fun _ hk => trivial)⟩, ⟨by exact fa_ a8 (fa_ a8 (fa_ a8 am.o))⟩, ⟨by exact fa_ a5 (fa_ a5 (fa_ a5 al.o))⟩, ⟨by exact pu_ 2 (pu_ 1 (pu_ 0 ai.o rfl) rfl) rfl⟩, ⟨by repeat (first | (with_reducible first | exact HB.o | apply below_alloc | apply pw_below_drewN | apply below_drew1 | refine below_set ?_ cB.o | refine below_set ?_ cC.o | refine below_set ?_ cD.o) | exact HB.o)⟩⟩
 case rest =>
  clear HC4
  clear ea e0
  obtain ⟨kq, dr, rfl, HA, b2, ab, aa, am, al, ai, HB⟩ := hcut
  cases kq with
  | zero => exact nz_ HA.o
  | succ kj3 =>
   have H := HA.o; clear HA; simp only [spec_CountingForm.j0] at H
   by_cases c18 : dr = true
   ·subst c18; rw [if_pos rfl] at H; simp only [Option.some.injEq, Prod.mk.injEq] at H; obtain ⟨rfl, rfl, rfl, rfl, rfl⟩ := H; have jv := b8.o; have jS := b7.o; have jw := a5.o; have jT := bj.o; have gW := bq4 al.o
    go_wp2
    refine bodyPost_ret (results_ct rfl _ _ bh 29 #[.int .i64 0, .slice none 0 0, .slice none 0 0, .slice none 0 0] (0, 0) _ rfl (by exact pu_ 3 (pu_ 2 (pu_ 1 (pu_ 0 al.o rfl) rfl) rfl) rfl) Try.underlying29 rfl (by kernel_rfl)) rfl ?_; exact ⟨_, _, _, by rfl, by exact Kd.R_nil _ _ _ _ _, by exact Kd.R_nil _ _ _ _ _, by exact Kd.R_nil _ _ _ _ _, by repeat (first | (with_reducible first | exact HB.o | apply below_alloc | apply pw_below_drewN | apply below_drew1 | refine below_set ?_ cB.o | refine below_set ?_ cC.o | refine below_set ?_ cD.o) | exact HB.o)⟩
   replace c18 := Bool.eq_false_iff.mpr c18; subst c18; rw [if_neg nf_] at H; obtain ⟨bx, bq⟩ : ∃ j_ : Int, (wrap64 (2 * (ac.length : Int))) = j_ := ⟨_, rfl⟩; replace H : (if 0 ≤ (bx) then (if (bx : Int).toNat ≤ 35184372088832 then ((some (List.replicate (bx : Int).toNat 0 : List Int)).bind fun bo => (if 0 < (bo.length : Int) then (spec_CountingForm.l0 kj3 a1 (ac.length : Int) 0 ay ac aX ay (bo.set (0 : Int).toNat 1) (List.replicate (bx : Int).toNat 0)) else (none))) else (none)) else (none)) = some (r1, r2, r3, r4, r5) := by first | (rw [bq] at H; exact H) | (simp only [bq] at H ⊢; exact H)
   have iv : (IntKind.i64.wrap (2 * (ac.length : Int))) = bx := (i64_w _).trans bq
   by_cases c23 : 0 ≤ (bx)
   ·rw [if_pos c23] at H; have jg := eq_true c23; have jh := decide_eq_true c23; clear c23
    by_cases c24 : (bx : Int).toNat ≤ 35184372088832
    ·rw [if_pos c24] at H; have ji := eq_true c24; have jj := decide_eq_true c24; clear c24; obtain ⟨bo, dQ⟩ := ex_ ((List.replicate (bx : Int).toNat 0) : List Int); replace H : (if 0 < (bo.length : Int) then (spec_CountingForm.l0 kj3 a1 (ac.length : Int) 0 ay ac aX ay (bo.set (0 : Int).toNat 1) (List.replicate (bx : Int).toNat 0)) else (none)) = some (r1, r2, r3, r4, r5) := by (have H2_ := (Option.bind_some _ _).symm.trans H; rw [dQ]; with_reducible exact H2_)
     have di := A_ dQ; clear dQ; obtain ⟨bG, dR⟩ := ex_ ((List.replicate (bx : Int).toNat 0) : List Int); replace H : (if 0 < (bo.length : Int) then (spec_CountingForm.l0 kj3 a1 (ac.length : Int) 0 ay ac aX ay (bo.set (0 : Int).toNat 1) bG) else (none)) = some (r1, r2, r3, r4, r5) := by (rw [dR]; with_reducible exact H)
     have dj := A_ dR; clear dR
     by_cases c25 : 0 < (bo.length : Int)
     ·rw [if_pos c25] at H; have jk := decide_eq_true c25
      have jl : decide (0 < bo.length) = true := decide_eq_true (by omega)
      clear c25; obtain ⟨fs, dS⟩ := ex_ ((bo.set (0 : Int).toNat 1) : List Int); replace H : (spec_CountingForm.l0 kj3 a1 (ac.length : Int) 0 ay ac aX ay fs bG) = some (r1, r2, r3, r4, r5) := by (rw [dS]; with_reducible exact H)
      have fM := A_ dS; clear dS
      have H' := A_ H
      clear H; have jx := bp.o; have jU := a8.o; have jy := bj.o; have jV := a5.o; have gX := bq3 ai.o
      try go_wp2
      replace ab := A_ (Kd.S_drew ab.o); replace aa := A_ (Kd.R_drew aa.o); replace am := A_ (blk_drew am.o); replace al := A_ (blk_drew al.o); replace ai := A_ (blk_drew ai.o); replace HB := A_ (below_drew1 HB.o); refine start_ (n := 11) (S := fun w' => w'.cell? ⟨aK, 0, none⟩ = some (.int .i64 ay) ∧ w'.cell? ⟨aK, 1, none⟩ = some (.slice bd ac.length aQ) ∧ w'.cell? ⟨aK, 2, none⟩ = some (.slice ba aX.length bb)) (ds := []) (mk_ 11 0) (by kernel_rfl) rfl rfl (bc3 ai) (fun aM => ?_); refine with_tabW spec_CountingForm.tab5 spec_CountingForm.bits5 (fun bW fL => ?_)
      generalize wc.drew = w30 at ab aa am al ai HB aM ⊢
      refine pw_ 0 33 (mk_ 11 1) bW ?_; refine pw_ 2 35 (mk_ 11 5) bW ?_; refine pw_ 3 36 (mk_ 11 13) bW ?_; refine pw_ 5 38 (mk_ 11 45) bW ?_; refine pw_ 6 39 (mk_ 11 109) bW ?_; refine tk_ 1 34 (mk_ 11 111) bW fL aM ?_; refine join_ (σ := Value × Value × Nat) 1 (mk_ 11 1023) (fun s_ => [(37, s_.1), (40, s_.2.1), (9, .pointer (some ⟨s_.2.2, 0, none⟩)), (41, .agg #[.int .i64 ay, s_.1, .slice none 0 0, s_.2.1])]) (fun s_ w' => (w'.cell? ⟨aK, 0, none⟩ = some (.int .i64 ay) ∧ w'.cell? ⟨aK, 1, none⟩ = some (.slice bd ac.length aQ) ∧ w'.cell? ⟨aK, 2, none⟩ = some (.slice ba aX.length bb)) ∧ (Kd.R (Kd.int .i64) 3 w' w.heap.size (o2 s_.2.1 (.slice ba aX.length bb)) s_.1 bo) ∧ (Kd.R (Kd.int .i64) 3 w' w.heap.size (o2 s_.1 (.slice ba aX.length bb)) s_.2.1 bG) ∧ (Kd.S (Kd.slice 3 (Kd.int .i64)) 23 w' w.heap.size (o3 s_.1 s_.2.1 (.slice ba aX.length bb)) (.slice bd ac.length aQ) ac) ∧ (Kd.R (Kd.int .i64) 3 w' w.heap.size (o2 s_.1 s_.2.1) (.slice ba aX.length bb) aX) ∧ (w'.heap[bk]? = some (.cells #[.int .i64 bL, .slice bS bE.length bU, .slice bT bF.length bV] 32 (0, 0))) ∧ (w'.heap[bh]? = some (.cells #[.int .i64 0, .slice none 0 0, .slice none 0 0, .slice none 0 0] 29 (0, 0))) ∧ (w'.heap[aK]? = some (.cells #[.int .i64 ay, .slice bd ac.length aQ, .slice ba aX.length bb] 32 (0, 0))) ∧ (w'.heap[s_.2.2]? = some (.cells #[.int .i64 0, .slice none 0 0, .slice none 0 0, .slice none 0 0] 29 (0, 0))) ∧ (w.heap.size ≤ s_.2.2) ∧ (w.heap.size ≤ s_.2.2) ∧ (bk ≠ s_.2.2) ∧ (s_.2.2 ≠ bk) ∧ (bh ≠ s_.2.2) ∧ (s_.2.2 ≠ bh) ∧ (aK ≠ s_.2.2) ∧ (s_.2.2 ≠ aK) ∧ (Below w.heap.size w w')) ?_ ?_; rotate_left
      ·intro hJ4_7_9; refine join_ (σ := Value × Value) 2 (mk_ 11 511) (fun s_ => [(37, s_.1), (40, s_.2), (41, .agg #[.int .i64 ay, s_.1, .slice none 0 0, s_.2])]) (fun s_ w' => (w'.cell? ⟨aK, 0, none⟩ = some (.int .i64 ay) ∧ w'.cell? ⟨aK, 1, none⟩ = some (.slice bd ac.length aQ) ∧ w'.cell? ⟨aK, 2, none⟩ = some (.slice ba aX.length bb)) ∧ (Kd.R (Kd.int .i64) 3 w' w.heap.size (o2 s_.2 (.slice ba aX.length bb)) s_.1 bo) ∧ (Kd.R (Kd.int .i64) 3 w' w.heap.size (o2 s_.1 (.slice ba aX.length bb)) s_.2 bG) ∧ (Kd.S (Kd.slice 3 (Kd.int .i64)) 23 w' w.heap.size (o3 s_.1 s_.2 (.slice ba aX.length bb)) (.slice bd ac.length aQ) ac) ∧ (Kd.R (Kd.int .i64) 3 w' w.heap.size (o2 s_.1 s_.2) (.slice ba aX.length bb) aX) ∧ (w'.heap[bk]? = some (.cells #[.int .i64 bL, .slice bS bE.length bU, .slice bT bF.length bV] 32 (0, 0))) ∧ (w'.heap[bh]? = some (.cells #[.int .i64 0, .slice none 0 0, .slice none 0 0, .slice none 0 0] 29 (0, 0))) ∧ (w'.heap[aK]? = some (.cells #[.int .i64 ay, .slice bd ac.length aQ, .slice ba aX.length bb] 32 (0, 0))) ∧ (Below w.heap.size w w')) ?_ ?_; rotate_left
       ·intro hJ4_7; refine join_ (σ := Value × Nat) 3 (mk_ 11 639) (fun s_ => [(37, s_.1), (9, .pointer (some ⟨s_.2, 0, none⟩))]) (fun s_ w' => (w'.cell? ⟨aK, 0, none⟩ = some (.int .i64 ay) ∧ w'.cell? ⟨aK, 1, none⟩ = some (.slice bd ac.length aQ) ∧ w'.cell? ⟨aK, 2, none⟩ = some (.slice ba aX.length bb)) ∧ (Kd.R (Kd.int .i64) 3 w' w.heap.size (o1 (.slice ba aX.length bb)) s_.1 bo) ∧ (Kd.S (Kd.slice 3 (Kd.int .i64)) 23 w' w.heap.size (o2 s_.1 (.slice ba aX.length bb)) (.slice bd ac.length aQ) ac) ∧ (Kd.R (Kd.int .i64) 3 w' w.heap.size (o1 s_.1) (.slice ba aX.length bb) aX) ∧ (w'.heap[bk]? = some (.cells #[.int .i64 bL, .slice bS bE.length bU, .slice bT bF.length bV] 32 (0, 0))) ∧ (w'.heap[bh]? = some (.cells #[.int .i64 0, .slice none 0 0, .slice none 0 0, .slice none 0 0] 29 (0, 0))) ∧ (w'.heap[aK]? = some (.cells #[.int .i64 ay, .slice bd ac.length aQ, .slice ba aX.length bb] 32 (0, 0))) ∧ (w'.heap[s_.2]? = some (.cells #[.int .i64 0, .slice none 0 0, .slice none 0 0, .slice none 0 0] 29 (0, 0))) ∧ (w.heap.size ≤ s_.2) ∧ (w.heap.size ≤ s_.2) ∧ (bk ≠ s_.2) ∧ (s_.2 ≠ bk) ∧ (bh ≠ s_.2) ∧ (s_.2 ≠ bh) ∧ (aK ≠ s_.2) ∧ (s_.2 ≠ aK) ∧ (Below w.heap.size w w')) ?_ ?_; rotate_left
        ·intro hJ4_9; refine join_ (σ := Value × Nat) 3 (mk_ 11 751) (fun s_ => [(40, s_.1), (9, .pointer (some ⟨s_.2, 0, none⟩))]) (fun s_ w' => (w'.cell? ⟨aK, 0, none⟩ = some (.int .i64 ay) ∧ w'.cell? ⟨aK, 1, none⟩ = some (.slice bd ac.length aQ) ∧ w'.cell? ⟨aK, 2, none⟩ = some (.slice ba aX.length bb)) ∧ (Kd.R (Kd.int .i64) 3 w' w.heap.size (o1 (.slice ba aX.length bb)) s_.1 bG) ∧ (Kd.S (Kd.slice 3 (Kd.int .i64)) 23 w' w.heap.size (o2 s_.1 (.slice ba aX.length bb)) (.slice bd ac.length aQ) ac) ∧ (Kd.R (Kd.int .i64) 3 w' w.heap.size (o1 s_.1) (.slice ba aX.length bb) aX) ∧ (w'.heap[bk]? = some (.cells #[.int .i64 bL, .slice bS bE.length bU, .slice bT bF.length bV] 32 (0, 0))) ∧ (w'.heap[bh]? = some (.cells #[.int .i64 0, .slice none 0 0, .slice none 0 0, .slice none 0 0] 29 (0, 0))) ∧ (w'.heap[aK]? = some (.cells #[.int .i64 ay, .slice bd ac.length aQ, .slice ba aX.length bb] 32 (0, 0))) ∧ (w'.heap[s_.2]? = some (.cells #[.int .i64 0, .slice none 0 0, .slice none 0 0, .slice none 0 0] 29 (0, 0))) ∧ (w.heap.size ≤ s_.2) ∧ (w.heap.size ≤ s_.2) ∧ (bk ≠ s_.2) ∧ (s_.2 ≠ bk) ∧ (bh ≠ s_.2) ∧ (s_.2 ≠ bh) ∧ (aK ≠ s_.2) ∧ (s_.2 ≠ aK) ∧ (Below w.heap.size w w')) ?_ ?_; rotate_left
         ·intro hJ7_9; refine join_ (σ := Value) 4 (mk_ 11 127) (fun s_ => [(37, s_)]) (fun s_ w' => (w'.cell? ⟨aK, 0, none⟩ = some (.int .i64 ay) ∧ w'.cell? ⟨aK, 1, none⟩ = some (.slice bd ac.length aQ) ∧ w'.cell? ⟨aK, 2, none⟩ = some (.slice ba aX.length bb)) ∧ (Kd.R (Kd.int .i64) 3 w' w.heap.size (o1 (.slice ba aX.length bb)) s_ bo) ∧ (Kd.S (Kd.slice 3 (Kd.int .i64)) 23 w' w.heap.size (o2 s_ (.slice ba aX.length bb)) (.slice bd ac.length aQ) ac) ∧ (Kd.R (Kd.int .i64) 3 w' w.heap.size (o1 s_) (.slice ba aX.length bb) aX) ∧ (w'.heap[bk]? = some (.cells #[.int .i64 bL, .slice bS bE.length bU, .slice bT bF.length bV] 32 (0, 0))) ∧ (w'.heap[bh]? = some (.cells #[.int .i64 0, .slice none 0 0, .slice none 0 0, .slice none 0 0] 29 (0, 0))) ∧ (w'.heap[aK]? = some (.cells #[.int .i64 ay, .slice bd ac.length aQ, .slice ba aX.length bb] 32 (0, 0))) ∧ (Below w.heap.size w w')) ?_ ?_; rotate_left
          ·intro hJ4; refine join_ (σ := Value) 4 (mk_ 11 239) (fun s_ => [(40, s_)]) (fun s_ w' => (w'.cell? ⟨aK, 0, none⟩ = some (.int .i64 ay) ∧ w'.cell? ⟨aK, 1, none⟩ = some (.slice bd ac.length aQ) ∧ w'.cell? ⟨aK, 2, none⟩ = some (.slice ba aX.length bb)) ∧ (Kd.R (Kd.int .i64) 3 w' w.heap.size (o1 (.slice ba aX.length bb)) s_ bG) ∧ (Kd.S (Kd.slice 3 (Kd.int .i64)) 23 w' w.heap.size (o2 s_ (.slice ba aX.length bb)) (.slice bd ac.length aQ) ac) ∧ (Kd.R (Kd.int .i64) 3 w' w.heap.size (o1 s_) (.slice ba aX.length bb) aX) ∧ (w'.heap[bk]? = some (.cells #[.int .i64 bL, .slice bS bE.length bU, .slice bT bF.length bV] 32 (0, 0))) ∧ (w'.heap[bh]? = some (.cells #[.int .i64 0, .slice none 0 0, .slice none 0 0, .slice none 0 0] 29 (0, 0))) ∧ (w'.heap[aK]? = some (.cells #[.int .i64 ay, .slice bd ac.length aQ, .slice ba aX.length bb] 32 (0, 0))) ∧ (Below w.heap.size w w')) ?_ ?_; rotate_left
           ·intro hJ7; refine join_ (σ := Nat) 4 (mk_ 11 623) (fun s_ => [(9, .pointer (some ⟨s_, 0, none⟩))]) (fun s_ w' => (w'.cell? ⟨aK, 0, none⟩ = some (.int .i64 ay) ∧ w'.cell? ⟨aK, 1, none⟩ = some (.slice bd ac.length aQ) ∧ w'.cell? ⟨aK, 2, none⟩ = some (.slice ba aX.length bb)) ∧ (Kd.S (Kd.slice 3 (Kd.int .i64)) 23 w' w.heap.size (o1 (.slice ba aX.length bb)) (.slice bd ac.length aQ) ac) ∧ (Kd.R (Kd.int .i64) 3 w' w.heap.size (fun _ => True) (.slice ba aX.length bb) aX) ∧ (w'.heap[bk]? = some (.cells #[.int .i64 bL, .slice bS bE.length bU, .slice bT bF.length bV] 32 (0, 0))) ∧ (w'.heap[bh]? = some (.cells #[.int .i64 0, .slice none 0 0, .slice none 0 0, .slice none 0 0] 29 (0, 0))) ∧ (w'.heap[aK]? = some (.cells #[.int .i64 ay, .slice bd ac.length aQ, .slice ba aX.length bb] 32 (0, 0))) ∧ (w'.heap[s_]? = some (.cells #[.int .i64 0, .slice none 0 0, .slice none 0 0, .slice none 0 0] 29 (0, 0))) ∧ (w.heap.size ≤ s_) ∧ (w.heap.size ≤ s_) ∧ (bk ≠ s_) ∧ (s_ ≠ bk) ∧ (bh ≠ s_) ∧ (s_ ≠ bh) ∧ (aK ≠ s_) ∧ (s_ ≠ aK) ∧ (Below w.heap.size w w')) ?_ ?_; rotate_left
            ·intro hJ9; refine three_ (i := 4) (j := 7) (k := 9) (Ni := some 37) (Nj := some 40) (Nk := some 9) (mk_ 11 127) (mk_ 11 239) (mk_ 11 623) rfl rfl rfl rfl rfl rfl (three_of bW.o (by kernel_rfl)) (by decide) (by decide) (by decide) (fun K hK => ?_) (fun K hK => ?_) (fun K hK => ?_)
             ·skip
              refine Kd.R_make_step (Kd.int .i64) _ 3 (by rfl) (N := 37) rfl 23 _ _ rfl bx rfl rfl Try.underlying23 (.int .i64 0) 8 info3 rfl (by decide) (by omega) 0 (ok := fun _ => True) (okp := fun _ => True) rfl (fun _ hk => hk) trivial oa_ (Nat.le_trans (Nat.mul_le_mul_right _ (oa_ : bx.toNat ≤ 35184372088832)) (by omega)) (Below.refl _ _) (Nat.le_refl _) ?_; intro cv w31 cp hb hg_ hnew_; clear hg_ hnew_
              (rw [← di.o] at cp)
              replace ab := A_ (Kd.S_elder' ab.o (Kd.R_base cp) hb); have aW := A_ (Kd.R_lower (Kd.R_new' cp (Kd.R_lt aa.o)) (below_size HB.o)); replace aa := A_ (Kd.R_elder' aa.o (Kd.R_base cp) hb); replace am := bb_ am hb; replace al := bb_ al hb; replace ai := bb_ ai hb; replace HB := bs_ HB hb; clear hb cp; refine hK.out _ _ (bc3 ai) (fun aM => ?_); clear hK K; refine nm_ 37 ?_; exact norm_ (by simp only [putAll, Act.put, mD, mE, mF]; first | done | rfl) (hJ4 (cv) _ ⟨aM, (by exact Kd.R_mono aW.o (fun _ hk => hk.2)), (by exact Kd.S_mono ab.o (fun _ hk => ⟨hk.2, hk.1⟩)), (by exact Kd.R_mono aa.o (fun _ hk => hk.2)), am.o, al.o, ai.o, HB.o⟩)
             ·skip
              refine Kd.R_make_step (Kd.int .i64) _ 3 (by rfl) (N := 40) rfl 23 _ _ rfl bx rfl rfl Try.underlying23 (.int .i64 0) 8 info3 rfl (by decide) (by omega) 0 (ok := fun _ => True) (okp := fun _ => True) rfl (fun _ hk => hk) trivial oa_ (Nat.le_trans (Nat.mul_le_mul_right _ (oa_ : bx.toNat ≤ 35184372088832)) (by omega)) (Below.refl _ _) (Nat.le_refl _) ?_; intro cw w31 cp hb hg_ hnew_; clear hg_ hnew_
              (rw [← dj.o] at cp)
              replace ab := A_ (Kd.S_elder' ab.o (Kd.R_base cp) hb); have a6 := A_ (Kd.R_lower (Kd.R_new' cp (Kd.R_lt aa.o)) (below_size HB.o)); replace aa := A_ (Kd.R_elder' aa.o (Kd.R_base cp) hb); replace am := bb_ am hb; replace al := bb_ al hb; replace ai := bb_ ai hb; replace HB := bs_ HB hb; clear hb cp; refine hK.out _ _ (bc3 ai) (fun aM => ?_); clear hK K; refine nm_ 40 ?_; exact norm_ (by simp only [putAll, Act.put, mD, mE, mF]; first | done | rfl) (hJ7 (cw) _ ⟨aM, (by exact Kd.R_mono a6.o (fun _ hk => hk.2)), (by exact Kd.S_mono ab.o (fun _ hk => ⟨hk.2, hk.1⟩)), (by exact Kd.R_mono aa.o (fun _ hk => hk.2)), am.o, al.o, ai.o, HB.o⟩)
             skip
             refine box_step rfl (N := 9) rfl (cs := #[.int .i64 0, .slice none 0 0, .slice none 0 0, .slice none 0 0]) (t := 29) (by go_simp; done) ?_; intro aU hg w31 hbox hb; replace ab := A_ (Kd.S_below ab.o hb); replace aa := A_ (Kd.R_below aa.o hb); have ap := A_ (hbox); have bC := A_ (lg_ (below_size HB.o) hg); have bw := A_ (lg_ (below_size HB.o) hg); replace HB := bs_ HB hb; have az := nl_ am hg; have aH := ng_ am hg; replace am := bb_ am hb; have aA := nl_ al hg; have aI := ng_ al hg; replace al := bb_ al hb; have aq := nl_ ai hg; have aD := ng_ ai hg; replace ai := bb_ ai hb; clear hb hbox hg; refine hK.out _ _ (bc3 ai) (fun aM => ?_); clear hK K; refine nm_ 9 ?_; exact norm_ (by simp only [putAll, Act.put, mD, mE, mF]; first | done | rfl) (hJ9 (aU) _ ⟨aM, ab.o, aa.o, am.o, al.o, ai.o, ap.o, bC.o, bw.o, az.o, aH.o, aA.o, aI.o, aq.o, aD.o, HB.o⟩)
            skip
            rintro aU w32 ⟨aM, h0_, h1_, h2_, h3_, h4_, h5_, h6_, h7_, h8_, h9_, bX, bY, bZ, b0, b1⟩
            clear ab aa am al ai HB; try dsimp only at aM h0_ h1_ h2_ h3_ h4_ h5_ h6_ h7_ h8_ h9_ bX bY bZ b0 b1
            have ab := A_ h0_; have aa := A_ h1_; have am := A_ h2_; have al := A_ h3_; have ai := A_ h4_; have ap := A_ h5_; have bC := A_ h6_; have bw := A_ h7_; have az := A_ h8_; have aH := A_ h9_; have aA := A_ bX; have aI := A_ bY; have aq := A_ bZ; have aD := A_ b0; have HB := A_ b1; clear h0_ h1_ h2_ h3_ h4_ h5_ h6_ h7_ h8_ h9_ bX bY bZ b0 b1
            refine norm_ (by simp only [putAll, Act.put, mD, mE, mF]; rfl) ?_
            refine two_ (i := 4) (j := 7) (Ni := some 37) (Nj := some 40) (mk_ 11 639) (mk_ 11 751) rfl rfl rfl rfl (two_of bW.o (by kernel_rfl)) (by decide) (by decide) (fun K hK => ?_) (fun K hK => ?_)
            ·skip
             refine Kd.R_make_step (Kd.int .i64) _ 3 (by rfl) (N := 37) rfl 23 _ _ rfl bx rfl rfl Try.underlying23 (.int .i64 0) 8 info3 rfl (by decide) (by omega) 0 (ok := fun _ => True) (okp := fun _ => True) rfl (fun _ hk => hk) trivial oa_ (Nat.le_trans (Nat.mul_le_mul_right _ (oa_ : bx.toNat ≤ 35184372088832)) (by omega)) (Below.refl _ _) (Nat.le_refl _) ?_; intro cv w33 cq hb hg_ hnew_; clear hg_ hnew_
             (rw [← di.o] at cq)
             replace ab := A_ (Kd.S_elder' ab.o (Kd.R_base cq) hb); have aW := A_ (Kd.R_lower (Kd.R_new' cq (Kd.R_lt aa.o)) (below_size HB.o)); replace aa := A_ (Kd.R_elder' aa.o (Kd.R_base cq) hb); replace am := bb_ am hb; replace al := bb_ al hb; replace ai := bb_ ai hb; replace ap := bb_ ap hb; replace HB := bs_ HB hb; clear hb cq; refine hK.out _ _ (bc3 ai) (fun aM => ?_); clear hK K; refine nm_ 37 ?_; exact norm_ (by simp only [putAll, Act.put, mD, mE, mF]; first | done | rfl) (hJ4_9 (cv, aU) _ ⟨aM, (by exact Kd.R_mono aW.o (fun _ hk => hk.2)), (by exact Kd.S_mono ab.o (fun _ hk => ⟨hk.2, hk.1⟩)), (by exact Kd.R_mono aa.o (fun _ hk => hk.2)), am.o, al.o, ai.o, ap.o, bC.o, bw.o, az.o, aH.o, aA.o, aI.o, aq.o, aD.o, HB.o⟩)
            skip
            refine Kd.R_make_step (Kd.int .i64) _ 3 (by rfl) (N := 40) rfl 23 _ _ rfl bx rfl rfl Try.underlying23 (.int .i64 0) 8 info3 rfl (by decide) (by omega) 0 (ok := fun _ => True) (okp := fun _ => True) rfl (fun _ hk => hk) trivial oa_ (Nat.le_trans (Nat.mul_le_mul_right _ (oa_ : bx.toNat ≤ 35184372088832)) (by omega)) (Below.refl _ _) (Nat.le_refl _) ?_; intro cw w33 cq hb hg_ hnew_; clear hg_ hnew_
            (rw [← dj.o] at cq)
            replace ab := A_ (Kd.S_elder' ab.o (Kd.R_base cq) hb); have a6 := A_ (Kd.R_lower (Kd.R_new' cq (Kd.R_lt aa.o)) (below_size HB.o)); replace aa := A_ (Kd.R_elder' aa.o (Kd.R_base cq) hb); replace am := bb_ am hb; replace al := bb_ al hb; replace ai := bb_ ai hb; replace ap := bb_ ap hb; replace HB := bs_ HB hb; clear hb cq; refine hK.out _ _ (bc3 ai) (fun aM => ?_); clear hK K; refine nm_ 40 ?_; exact norm_ (by simp only [putAll, Act.put, mD, mE, mF]; first | done | rfl) (hJ7_9 (cw, aU) _ ⟨aM, (by exact Kd.R_mono a6.o (fun _ hk => hk.2)), (by exact Kd.S_mono ab.o (fun _ hk => ⟨hk.2, hk.1⟩)), (by exact Kd.R_mono aa.o (fun _ hk => hk.2)), am.o, al.o, ai.o, ap.o, bC.o, bw.o, az.o, aH.o, aA.o, aI.o, aq.o, aD.o, HB.o⟩)
           skip
           rintro cw w33 ⟨aM, h0_, h1_, h2_, h3_, h4_, h5_, h6_⟩
           clear ab aa am al ai HB; try dsimp only at aM h0_ h1_ h2_ h3_ h4_ h5_ h6_
           have a6 := A_ h0_; have ab := A_ h1_; have aa := A_ h2_; have am := A_ h3_; have al := A_ h4_; have ai := A_ h5_; have HB := A_ h6_; clear h0_ h1_ h2_ h3_ h4_ h5_ h6_
           refine norm_ (by simp only [putAll, Act.put, mD, mE, mF]; rfl) ?_
           refine two_ (i := 4) (j := 9) (Ni := some 37) (Nj := some 9) (mk_ 11 255) (mk_ 11 751) rfl rfl rfl rfl (two_of bW.o (by kernel_rfl)) (by decide) (by decide) (fun K hK => ?_) (fun K hK => ?_)
           ·skip
            refine Kd.R_make_step (Kd.int .i64) _ 3 (by rfl) (N := 37) rfl 23 _ _ rfl bx rfl rfl Try.underlying23 (.int .i64 0) 8 info3 rfl (by decide) (by omega) 0 (ok := fun _ => True) (okp := fun _ => True) rfl (fun _ hk => hk) trivial oa_ (Nat.le_trans (Nat.mul_le_mul_right _ (oa_ : bx.toNat ≤ 35184372088832)) (by omega)) (Below.refl _ _) (Nat.le_refl _) ?_; intro cv w34 b9 hb hg_ hnew_; clear hg_ hnew_
            (rw [← di.o] at b9)
            replace ab := A_ (Kd.S_elder' ab.o (Kd.R_base b9) hb); have aW := A_ (Kd.R_lower (Kd.R_new' (Kd.R_new' b9 (Kd.R_lt aa.o)) (Kd.R_lt a6.o)) (below_size HB.o)); replace aa := A_ (Kd.R_elder' aa.o (Kd.R_base b9) hb); replace a6 := A_ (Kd.R_elder' a6.o (Kd.R_base b9) hb); replace am := bb_ am hb; replace al := bb_ al hb; replace ai := bb_ ai hb; replace HB := bs_ HB hb; clear hb b9; obtain ⟨eG, eX, dJ⟩ := Kd.R_slice a6.o
            (first | subst dJ | (injection dJ with f1_ f2_ f3_; have f4_ := f1_.symm; have f5_ := f3_.symm; clear f1_ f2_ f3_; subst f4_; subst f5_))
            obtain ⟨dc, dd, cn⟩ := Kd.R_slice aW.o
            (first | subst cn | (injection cn with f1_ f2_ f3_; have f4_ := f1_.symm; have f5_ := f3_.symm; clear f1_ f2_ f3_; subst f4_; subst f5_))
            refine hK.out _ _ (bc3 ai) (fun aM => ?_); clear hK K; refine nm_ 37 ?_; refine pw_ 8 41 (mk_ 11 511) bW ?_; exact norm_ (by simp only [putAll, Act.put, mD, mE, mF]; first | done | rfl) (hJ4_7 (.slice dc bo.length dd, .slice eG bG.length eX) _ ⟨aM, (by exact Kd.R_mono aW.o (fun _ hk => ⟨hk.2, hk.1.2⟩)), (by exact Kd.R_mono a6.o (fun _ hk => ⟨hk.2, hk.1⟩)), (by exact Kd.S_mono ab.o (fun _ hk => ⟨hk.2, ⟨hk.1.1, hk.1.2⟩⟩)), (by exact Kd.R_mono aa.o (fun _ hk => ⟨hk.2, hk.1⟩)), am.o, al.o, ai.o, HB.o⟩)
           skip
           refine box_step rfl (N := 9) rfl (cs := #[.int .i64 0, .slice none 0 0, .slice none 0 0, .slice none 0 0]) (t := 29) (by go_simp; done) ?_; intro aU hg w34 hbox hb; replace ab := A_ (Kd.S_below ab.o hb); replace aa := A_ (Kd.R_below aa.o hb); replace a6 := A_ (Kd.R_below a6.o hb); have ap := A_ (hbox); have bC := A_ (lg_ (below_size HB.o) hg); have bw := A_ (lg_ (below_size HB.o) hg); replace HB := bs_ HB hb; have az := nl_ am hg; have aH := ng_ am hg; replace am := bb_ am hb; have aA := nl_ al hg; have aI := ng_ al hg; replace al := bb_ al hb; have aq := nl_ ai hg; have aD := ng_ ai hg; replace ai := bb_ ai hb; clear hb hbox hg; refine hK.out _ _ (bc3 ai) (fun aM => ?_); clear hK K; refine nm_ 9 ?_; exact norm_ (by simp only [putAll, Act.put, mD, mE, mF]; first | done | rfl) (hJ7_9 (cw, aU) _ ⟨aM, a6.o, ab.o, aa.o, am.o, al.o, ai.o, ap.o, bC.o, bw.o, az.o, aH.o, aA.o, aI.o, aq.o, aD.o, HB.o⟩)
          skip
          rintro cv w33 ⟨aM, h0_, h1_, h2_, h3_, h4_, h5_, h6_⟩
          clear ab aa am al ai HB; try dsimp only at aM h0_ h1_ h2_ h3_ h4_ h5_ h6_
          have aW := A_ h0_; have ab := A_ h1_; have aa := A_ h2_; have am := A_ h3_; have al := A_ h4_; have ai := A_ h5_; have HB := A_ h6_; clear h0_ h1_ h2_ h3_ h4_ h5_ h6_
          refine norm_ (by simp only [putAll, Act.put, mD, mE, mF]; rfl) ?_
          refine two_ (i := 7) (j := 9) (Ni := some 40) (Nj := some 9) (mk_ 11 255) (mk_ 11 639) rfl rfl rfl rfl (two_of bW.o (by kernel_rfl)) (by decide) (by decide) (fun K hK => ?_) (fun K hK => ?_)
          ·skip
           refine Kd.R_make_step (Kd.int .i64) _ 3 (by rfl) (N := 40) rfl 23 _ _ rfl bx rfl rfl Try.underlying23 (.int .i64 0) 8 info3 rfl (by decide) (by omega) 0 (ok := fun _ => True) (okp := fun _ => True) rfl (fun _ hk => hk) trivial oa_ (Nat.le_trans (Nat.mul_le_mul_right _ (oa_ : bx.toNat ≤ 35184372088832)) (by omega)) (Below.refl _ _) (Nat.le_refl _) ?_; intro cw w34 b9 hb hg_ hnew_; clear hg_ hnew_
           (rw [← dj.o] at b9)
           replace ab := A_ (Kd.S_elder' ab.o (Kd.R_base b9) hb); have a6 := A_ (Kd.R_lower (Kd.R_new' (Kd.R_new' b9 (Kd.R_lt aa.o)) (Kd.R_lt aW.o)) (below_size HB.o)); replace aa := A_ (Kd.R_elder' aa.o (Kd.R_base b9) hb); replace aW := A_ (Kd.R_elder' aW.o (Kd.R_base b9) hb); replace am := bb_ am hb; replace al := bb_ al hb; replace ai := bb_ ai hb; replace HB := bs_ HB hb; clear hb b9; obtain ⟨eG, eX, dJ⟩ := Kd.R_slice a6.o
           (first | subst dJ | (injection dJ with f1_ f2_ f3_; have f4_ := f1_.symm; have f5_ := f3_.symm; clear f1_ f2_ f3_; subst f4_; subst f5_))
           obtain ⟨dc, dd, cn⟩ := Kd.R_slice aW.o
           (first | subst cn | (injection cn with f1_ f2_ f3_; have f4_ := f1_.symm; have f5_ := f3_.symm; clear f1_ f2_ f3_; subst f4_; subst f5_))
           refine hK.out _ _ (bc3 ai) (fun aM => ?_); clear hK K; refine nm_ 40 ?_; refine pw_ 8 41 (mk_ 11 511) bW ?_; exact norm_ (by simp only [putAll, Act.put, mD, mE, mF]; first | done | rfl) (hJ4_7 (.slice dc bo.length dd, .slice eG bG.length eX) _ ⟨aM, (by exact Kd.R_mono aW.o (fun _ hk => ⟨hk.2, hk.1⟩)), (by exact Kd.R_mono a6.o (fun _ hk => ⟨hk.2, hk.1.2⟩)), (by exact Kd.S_mono ab.o (fun _ hk => ⟨hk.1.1, ⟨hk.2, hk.1.2⟩⟩)), aa.o, am.o, al.o, ai.o, HB.o⟩)
          skip
          refine box_step rfl (N := 9) rfl (cs := #[.int .i64 0, .slice none 0 0, .slice none 0 0, .slice none 0 0]) (t := 29) (by go_simp; done) ?_; intro aU hg w34 hbox hb; replace ab := A_ (Kd.S_below ab.o hb); replace aa := A_ (Kd.R_below aa.o hb); replace aW := A_ (Kd.R_below aW.o hb); have ap := A_ (hbox); have bC := A_ (lg_ (below_size HB.o) hg); have bw := A_ (lg_ (below_size HB.o) hg); replace HB := bs_ HB hb; have az := nl_ am hg; have aH := ng_ am hg; replace am := bb_ am hb; have aA := nl_ al hg; have aI := ng_ al hg; replace al := bb_ al hb; have aq := nl_ ai hg; have aD := ng_ ai hg; replace ai := bb_ ai hb; clear hb hbox hg; refine hK.out _ _ (bc3 ai) (fun aM => ?_); clear hK K; refine nm_ 9 ?_; exact norm_ (by simp only [putAll, Act.put, mD, mE, mF]; first | done | rfl) (hJ4_9 (cv, aU) _ ⟨aM, aW.o, ab.o, aa.o, am.o, al.o, ai.o, ap.o, bC.o, bw.o, az.o, aH.o, aA.o, aI.o, aq.o, aD.o, HB.o⟩)
         skip
         rintro ⟨cw, aU⟩ w34 ⟨aM, h0_, h1_, h2_, h3_, h4_, h5_, h6_, h7_, h8_, h9_, bX, bY, bZ, b0, b1, co⟩
         clear ab aa am al ai HB; try dsimp only at aM h0_ h1_ h2_ h3_ h4_ h5_ h6_ h7_ h8_ h9_ bX bY bZ b0 b1 co
         have a6 := A_ h0_; have ab := A_ h1_; have aa := A_ h2_; have am := A_ h3_; have al := A_ h4_; have ai := A_ h5_; have ap := A_ h6_; have bC := A_ h7_; have bw := A_ h8_; have az := A_ h9_; have aH := A_ bX; have aA := A_ bY; have aI := A_ bZ; have aq := A_ b0; have aD := A_ b1; have HB := A_ co; clear h0_ h1_ h2_ h3_ h4_ h5_ h6_ h7_ h8_ h9_ bX bY bZ b0 b1 co
         refine norm_ (by simp only [putAll, Act.put, mD, mE, mF]; rfl) ?_
         refine one_ (i := 4) (N := some 37) (mk_ 11 767) rfl rfl (one_of bW.o (by kernel_rfl)) (by decide) (fun K hK => ?_); refine Kd.R_make_step (Kd.int .i64) _ 3 (by rfl) (N := 37) rfl 23 _ _ rfl bx rfl rfl Try.underlying23 (.int .i64 0) 8 info3 rfl (by decide) (by omega) 0 (ok := fun _ => True) (okp := fun _ => True) rfl (fun _ hk => hk) trivial oa_ (Nat.le_trans (Nat.mul_le_mul_right _ (oa_ : bx.toNat ≤ 35184372088832)) (by omega)) (Below.refl _ _) (Nat.le_refl _) ?_; intro cv w35 ca hb hg_ hnew_; clear hg_ hnew_
         (rw [← di.o] at ca)
         replace ab := A_ (Kd.S_elder' ab.o (Kd.R_base ca) hb); have aW := A_ (Kd.R_lower (Kd.R_new' (Kd.R_new' ca (Kd.R_lt aa.o)) (Kd.R_lt a6.o)) (below_size HB.o)); replace aa := A_ (Kd.R_elder' aa.o (Kd.R_base ca) hb); replace a6 := A_ (Kd.R_elder' a6.o (Kd.R_base ca) hb); replace am := bb_ am hb; replace al := bb_ al hb; replace ai := bb_ ai hb; replace ap := bb_ ap hb; replace HB := bs_ HB hb; clear hb ca; obtain ⟨dc, dd, cn⟩ := Kd.R_slice a6.o
         (first | subst cn | (injection cn with f1_ f2_ f3_; have f4_ := f1_.symm; have f5_ := f3_.symm; clear f1_ f2_ f3_; subst f4_; subst f5_))
         obtain ⟨du, dI, da⟩ := Kd.R_slice aW.o
         (first | subst da | (injection da with f1_ f2_ f3_; have f4_ := f1_.symm; have f5_ := f3_.symm; clear f1_ f2_ f3_; subst f4_; subst f5_))
         refine hK.out _ _ (bc3 ai) (fun aM => ?_); clear hK K; refine nm_ 37 ?_; refine pw_ 8 41 (mk_ 11 1023) bW ?_; exact norm_ (by simp only [putAll, Act.put, mD, mE, mF]; first | done | rfl) (hJ4_7_9 (.slice du bo.length dI, .slice dc bG.length dd, aU) _ ⟨aM, (by exact Kd.R_mono aW.o (fun _ hk => ⟨hk.2, hk.1.2⟩)), (by exact Kd.R_mono a6.o (fun _ hk => ⟨hk.2, hk.1⟩)), (by exact Kd.S_mono ab.o (fun _ hk => ⟨hk.2, ⟨hk.1.1, hk.1.2⟩⟩)), (by exact Kd.R_mono aa.o (fun _ hk => ⟨hk.2, hk.1⟩)), am.o, al.o, ai.o, ap.o, bC.o, bw.o, az.o, aH.o, aA.o, aI.o, aq.o, aD.o, HB.o⟩)
        skip
        rintro ⟨cv, aU⟩ w34 ⟨aM, h0_, h1_, h2_, h3_, h4_, h5_, h6_, h7_, h8_, h9_, bX, bY, bZ, b0, b1, co⟩
        clear ab aa am al ai HB; try dsimp only at aM h0_ h1_ h2_ h3_ h4_ h5_ h6_ h7_ h8_ h9_ bX bY bZ b0 b1 co
        have aW := A_ h0_; have ab := A_ h1_; have aa := A_ h2_; have am := A_ h3_; have al := A_ h4_; have ai := A_ h5_; have ap := A_ h6_; have bC := A_ h7_; have bw := A_ h8_; have az := A_ h9_; have aH := A_ bX; have aA := A_ bY; have aI := A_ bZ; have aq := A_ b0; have aD := A_ b1; have HB := A_ co; clear h0_ h1_ h2_ h3_ h4_ h5_ h6_ h7_ h8_ h9_ bX bY bZ b0 b1 co
        refine norm_ (by simp only [putAll, Act.put, mD, mE, mF]; rfl) ?_
        refine one_ (i := 7) (N := some 40) (mk_ 11 767) rfl rfl (one_of bW.o (by kernel_rfl)) (by decide) (fun K hK => ?_); refine Kd.R_make_step (Kd.int .i64) _ 3 (by rfl) (N := 40) rfl 23 _ _ rfl bx rfl rfl Try.underlying23 (.int .i64 0) 8 info3 rfl (by decide) (by omega) 0 (ok := fun _ => True) (okp := fun _ => True) rfl (fun _ hk => hk) trivial oa_ (Nat.le_trans (Nat.mul_le_mul_right _ (oa_ : bx.toNat ≤ 35184372088832)) (by omega)) (Below.refl _ _) (Nat.le_refl _) ?_; intro cw w35 ca hb hg_ hnew_; clear hg_ hnew_
        (rw [← dj.o] at ca)
        replace ab := A_ (Kd.S_elder' ab.o (Kd.R_base ca) hb); have a6 := A_ (Kd.R_lower (Kd.R_new' (Kd.R_new' ca (Kd.R_lt aa.o)) (Kd.R_lt aW.o)) (below_size HB.o)); replace aa := A_ (Kd.R_elder' aa.o (Kd.R_base ca) hb); replace aW := A_ (Kd.R_elder' aW.o (Kd.R_base ca) hb); replace am := bb_ am hb; replace al := bb_ al hb; replace ai := bb_ ai hb; replace ap := bb_ ap hb; replace HB := bs_ HB hb; clear hb ca; obtain ⟨dc, dd, cn⟩ := Kd.R_slice a6.o
        (first | subst cn | (injection cn with f1_ f2_ f3_; have f4_ := f1_.symm; have f5_ := f3_.symm; clear f1_ f2_ f3_; subst f4_; subst f5_))
        obtain ⟨du, dI, da⟩ := Kd.R_slice aW.o
        (first | subst da | (injection da with f1_ f2_ f3_; have f4_ := f1_.symm; have f5_ := f3_.symm; clear f1_ f2_ f3_; subst f4_; subst f5_))
        refine hK.out _ _ (bc3 ai) (fun aM => ?_); clear hK K; refine nm_ 40 ?_; refine pw_ 8 41 (mk_ 11 1023) bW ?_; exact norm_ (by simp only [putAll, Act.put, mD, mE, mF]; first | done | rfl) (hJ4_7_9 (.slice du bo.length dI, .slice dc bG.length dd, aU) _ ⟨aM, (by exact Kd.R_mono aW.o (fun _ hk => ⟨hk.2, hk.1⟩)), (by exact Kd.R_mono a6.o (fun _ hk => ⟨hk.2, hk.1.2⟩)), (by exact Kd.S_mono ab.o (fun _ hk => ⟨hk.1.1, ⟨hk.2, hk.1.2⟩⟩)), aa.o, am.o, al.o, ai.o, ap.o, bC.o, bw.o, az.o, aH.o, aA.o, aI.o, aq.o, aD.o, HB.o⟩)
       skip
       rintro ⟨cv, cw⟩ w37 ⟨aM, h0_, h1_, h2_, h3_, h4_, h5_, h6_, h7_⟩
       clear ab aa am al ai HB; try dsimp only at aM h0_ h1_ h2_ h3_ h4_ h5_ h6_ h7_
       have aW := A_ h0_; have a6 := A_ h1_; have ab := A_ h2_; have aa := A_ h3_; have am := A_ h4_; have al := A_ h5_; have ai := A_ h6_; have HB := A_ h7_; clear h0_ h1_ h2_ h3_ h4_ h5_ h6_ h7_
       obtain ⟨du, dI, da⟩ := Kd.R_slice a6.o
       (first | subst da | (injection da with f1_ f2_ f3_; have f4_ := f1_.symm; have f5_ := f3_.symm; clear f1_ f2_ f3_; subst f4_; subst f5_))
       obtain ⟨ce, cf, dK⟩ := Kd.R_slice aW.o
       (first | subst dK | (injection dK with f1_ f2_ f3_; have f4_ := f1_.symm; have f5_ := f3_.symm; clear f1_ f2_ f3_; subst f4_; subst f5_))
       refine norm_ (by simp only [putAll, Act.put, mD, mE, mF]; rfl) ?_
       refine one_ (i := 9) (N := some 9) (mk_ 11 1023) rfl rfl (one_of bW.o (by kernel_rfl)) (by decide) (fun K hK => ?_); refine box_step rfl (N := 9) rfl (cs := #[.int .i64 0, .slice none 0 0, .slice none 0 0, .slice none 0 0]) (t := 29) (by go_simp; done) ?_; intro aU hg w40 hbox hb; replace ab := A_ (Kd.S_below ab.o hb); replace aa := A_ (Kd.R_below aa.o hb); replace aW := A_ (Kd.R_below aW.o hb); replace a6 := A_ (Kd.R_below a6.o hb); have ap := A_ (hbox); have bC := A_ (lg_ (below_size HB.o) hg); have bw := A_ (lg_ (below_size HB.o) hg); replace HB := bs_ HB hb; have az := nl_ am hg; have aH := ng_ am hg; replace am := bb_ am hb; have aA := nl_ al hg; have aI := ng_ al hg; replace al := bb_ al hb; have aq := nl_ ai hg; have aD := ng_ ai hg; replace ai := bb_ ai hb; clear hb hbox hg; refine hK.out _ _ (bc3 ai) (fun aM => ?_); clear hK K; refine nm_ 9 ?_; exact norm_ (by simp only [putAll, Act.put, mD, mE, mF]; first | done | rfl) (hJ4_7_9 (.slice ce bo.length cf, .slice du bG.length dI, aU) _ ⟨aM, aW.o, a6.o, ab.o, aa.o, am.o, al.o, ai.o, ap.o, bC.o, bw.o, az.o, aH.o, aA.o, aI.o, aq.o, aD.o, HB.o⟩)
      rintro ⟨cv, cw, aU⟩ w38 ⟨aM, h0_, h1_, h2_, h3_, h4_, h5_, h6_, h7_, h8_, h9_, bX, bY, bZ, b0, b1, co, eZ⟩
      clear ab aa am al ai HB; try dsimp only at aM h0_ h1_ h2_ h3_ h4_ h5_ h6_ h7_ h8_ h9_ bX bY bZ b0 b1 co eZ
      have aW := A_ h0_; have a6 := A_ h1_; have ab := A_ h2_; have aa := A_ h3_; have am := A_ h4_; have al := A_ h5_; have ai := A_ h6_; have ap := A_ h7_; have bC := A_ h8_; have bw := A_ h9_; have az := A_ bX; have aH := A_ bY; have aA := A_ bZ; have aI := A_ b0; have aq := A_ b1; have aD := A_ co; have HB := A_ eZ; clear h0_ h1_ h2_ h3_ h4_ h5_ h6_ h7_ h8_ h9_ bX bY bZ b0 b1 co eZ
      obtain ⟨ce, cf, dK⟩ := Kd.R_slice a6.o
      (first | subst dK | (injection dK with f1_ f2_ f3_; have f4_ := f1_.symm; have f5_ := f3_.symm; clear f1_ f2_ f3_; subst f4_; subst f5_))
      obtain ⟨dt, cZ, gH⟩ := Kd.R_slice aW.o
      (first | subst gH | (injection gH with f1_ f2_ f3_; have f4_ := f1_.symm; have f5_ := f3_.symm; clear f1_ f2_ f3_; subst f4_; subst f5_))
      refine norm_ (by simp only [putAll, Act.put, mD, mE, mF]; rfl) ?_
      refine one_ (i := 10) (N := none) (mk_ 11 2047) rfl rfl (one_of bW.o (by kernel_rfl)) (by decide) (fun K hK => ?_)
      have hs41 : w38.cell? ⟨aU, 0, none⟩ = some (.int .i64 0) := bz0 ap.o
      have hfs41 := blk_frozen ap.o 0; have hns41_0 := az.o; have hns41_1 := aA.o; have hns41_2 := aq.o; have hms41_0 := aH.o; have hms41_1 := aI.o; have hms41_2 := aD.o
      have hs42 : w38.cell? ⟨aU, 1, none⟩ = some (.slice none 0 0) := bz1 ap.o
      have hfs42 := blk_frozen ap.o 1; have hns42_0 := az.o; have hns42_1 := aA.o; have hns42_2 := aq.o; have hms42_0 := aH.o; have hms42_1 := aI.o; have hms42_2 := aD.o
      have hs43 : w38.cell? ⟨aU, 2, none⟩ = some (.slice none 0 0) := bz2 ap.o
      have hfs43 := blk_frozen ap.o 2; have hns43_0 := az.o; have hns43_1 := aA.o; have hns43_2 := aq.o; have hms43_0 := aH.o; have hms43_1 := aI.o; have hms43_2 := aD.o
      have hs44 : w38.cell? ⟨aU, 3, none⟩ = some (.slice none 0 0) := bz3 ap.o
      have hfs44 := blk_frozen ap.o 3; have hns44_0 := az.o; have hns44_1 := aA.o; have hns44_2 := aq.o; have hms44_0 := aH.o; have hms44_1 := aI.o; have hms44_2 := aD.o; refine skip_ (w1 := ?_) (by rfl) rfl ?_ ?_; rotate_left
      ·go_simp
       rfl
      refine hK.out _ _ ⟨((cell_far (p := ⟨aU, _, none⟩) aq.o _).trans (((cell_far (p := ⟨aU, _, none⟩) aq.o _).trans (((cell_far (p := ⟨aU, _, none⟩) aq.o _).trans (((cell_far (p := ⟨aU, _, none⟩) aq.o _).trans (aM.1)))))))), ((cell_far (p := ⟨aU, _, none⟩) aq.o _).trans (((cell_far (p := ⟨aU, _, none⟩) aq.o _).trans (((cell_far (p := ⟨aU, _, none⟩) aq.o _).trans (((cell_far (p := ⟨aU, _, none⟩) aq.o _).trans (aM.2.1)))))))), ((cell_far (p := ⟨aU, _, none⟩) aq.o _).trans (((cell_far (p := ⟨aU, _, none⟩) aq.o _).trans (((cell_far (p := ⟨aU, _, none⟩) aq.o _).trans (((cell_far (p := ⟨aU, _, none⟩) aq.o _).trans (aM.2.2))))))))⟩ (fun aM => ?_); clear hK K; refine done_ (done_of bW.o (by kernel_rfl)) ?_
      generalize h_ : ((((w38.setCell ⟨aU, 0, none⟩ (.int .i64 ay)).setCell ⟨aU, 1, none⟩ (.slice dt bo.length cZ)).setCell ⟨aU, 2, none⟩ (.slice none 0 0)).setCell ⟨aU, 3, none⟩ (.slice ce bG.length cf)) = w45
      replace ab : Aside0 (Kd.S (Kd.slice 3 (Kd.int .i64)) 23 w45 w.heap.size (o3 (.slice ba aX.length bb) (.slice dt bo.length cZ) (.slice ce bG.length cf)) (.slice bd ac.length aQ) ac) := ⟨by rw [← h_]; exact Kd.S_mono (gS4_ (tS_ ab ap)) (fun _ hk => ⟨hk.1.2.2, ⟨hk.1.1, hk.1.2.1⟩⟩)⟩; replace aa : Aside0 (Kd.R (Kd.int .i64) 3 w45 w.heap.size (o2 (.slice dt bo.length cZ) (.slice ce bG.length cf)) (.slice ba aX.length bb) aX) := ⟨by rw [← h_]; exact Kd.R_mono (gR4_ (tR_ aa ap)) (fun _ hk => ⟨hk.1.1, hk.1.2⟩)⟩; replace aW : Aside0 (Kd.R (Kd.int .i64) 3 w45 w.heap.size (o2 (.slice ba aX.length bb) (.slice ce bG.length cf)) (.slice dt bo.length cZ) bo) := ⟨by rw [← h_]; exact Kd.R_mono (gR4_ (tR_ aW ap)) (fun _ hk => ⟨hk.1.2, hk.1.1⟩)⟩; replace a6 : Aside0 (Kd.R (Kd.int .i64) 3 w45 w.heap.size (o2 (.slice ba aX.length bb) (.slice dt bo.length cZ)) (.slice ce bG.length cf) bG) := ⟨by rw [← h_]; exact Kd.R_mono (gR4_ (tR_ a6 ap)) (fun _ hk => ⟨hk.1.2, hk.1.1⟩)⟩; replace am : Aside0 (w45.heap[bk]? = some (.cells #[.int .i64 bL, .slice bS bE.length bU, .slice bT bF.length bV] 32 (0, 0))) := ⟨by rw [← h_]; exact fa_ az (fa_ az (fa_ az (fa_ az am.o)))⟩; replace al : Aside0 (w45.heap[bh]? = some (.cells #[.int .i64 0, .slice none 0 0, .slice none 0 0, .slice none 0 0] 29 (0, 0))) := ⟨by rw [← h_]; exact fa_ aA (fa_ aA (fa_ aA (fa_ aA al.o)))⟩; replace ai : Aside0 (w45.heap[aK]? = some (.cells #[.int .i64 ay, .slice bd ac.length aQ, .slice ba aX.length bb] 32 (0, 0))) := ⟨by rw [← h_]; exact fa_ aq (fa_ aq (fa_ aq (fa_ aq ai.o)))⟩; replace ap : Aside0 (w45.heap[aU]? = some (.cells #[.int .i64 ay, .slice dt bo.length cZ, .slice none 0 0, .slice ce bG.length cf] 29 (0, 0))) := ⟨by rw [← h_]; exact pu_ 3 (pu_ 2 (pu_ 1 (pu_ 0 ap.o rfl) rfl) rfl) rfl⟩; replace HB : Aside0 (Below w.heap.size w w45) := ⟨by rw [← h_]; repeat (first | (with_reducible first | exact HB.o | apply below_alloc | apply pw_below_drewN | apply below_drew1 | refine below_set ?_ cB.o | refine below_set ?_ cC.o | refine below_set ?_ cD.o | refine below_set ?_ bw.o) | exact HB.o)⟩; clear h_; have jz := aH.o; have jW := az.o; have jA := aI.o; have jX := aA.o; have jB := aD.o; have jY := aq.o; have eb := bq4 ap.o
      have hI : 0 ≤ (0 : Int) := (by omega)
      have hJ : (0 : Int) < ((bo.length : Int) : Int) := oa_
      have qi26 : (0 < bo.length) = True := eq_true (by omega)
      obtain ⟨d8, km, gG, gJ, gl26, cl26, HG26⟩ := Kd.R_form aW.o (by omega)
      (first | cases gG | (injection gG with ea_ en_ ec_; (first | subst ea_ | (injection ea_ with ea_; subst ea_)); subst ec_; clear en_))
      have GB26 := A_ gJ; have GG26 := A_ HG26; clear gJ gl26 HG26; obtain ⟨de, dO⟩ := Kd.R_celln 0 aW.o (0 : Int) hI hJ
      (try rw [show ((0 : Int)).toNat = 0 from rfl] at de)
      (try simp only [Nat.reduceMul, Nat.zero_mul, Nat.zero_add, Nat.reduceAdd] at de)
      (try rw [show ((0 : Int)).toNat = 0 from rfl] at dO)
      (try simp only [Nat.reduceMul, Nat.zero_mul, Nat.zero_add, Nat.reduceAdd] at dO)
      replace hI := eq_true hI; replace hJ := eq_true hJ; obtain ⟨hy50_, hz50_⟩ := Kd.R_celln 0 aW.o (0 : Int) (by omega) oa_
      (try simp only [Int.reduceToNat, Int.toNat_zero, Int.toNat_ofNat, Nat.reduceMul, Nat.zero_mul, Nat.zero_add] at hy50_ hz50_)
      (try rw [show ((0 : Int)).toNat = 0 from rfl] at hy50_)
      (try rw [show ((0 : Int)).toNat = 0 from rfl] at hz50_)
      have eH := Kd.R_putg aW.o (0 : Int) 1
      try go_wp2_with (first | ((with_reducible refine gate_store (t := 3) (p := 44) rfl ?_); refine store_event (t := 3) (p := 44) (v := ?vo_w51) (w1 := (w45.setCell ⟨d8, (0 : Int).toNat, none⟩ (.int .i64 1))) ?hg ?ho ?hn ?hr ?_; (case ho => rfl); (case hg => rfl); (case hn => rfl); (case hr => first | (go_simp; done) | (go_simp; rfl) | (obtain ⟨_, _, rfl⟩ := Kd.R_slice aW.o; go_simp; first | done | rfl) | (obtain ⟨_, _, rfl⟩ := Kd.R_slice (Kd.S_R aW.o); go_simp; first | done | rfl)); intro w51 hw; have hg : w45.grownBy w51 (some d8) := (by rw [hw]; exact eH.2); have hp_ : Kd.R (Kd.int .i64) 3 w51 w.heap.size (o2 (.slice ba aX.length bb) (.slice ce bG.length cf)) (.slice (some ⟨d8, 0, none⟩) bo.length cZ) fs := (by rw [hw, fM.o]; exact eH.1); clear eH; replace ab := sB_ (ok := (o2 (.slice ba aX.length bb) (.slice ce bG.length cf))) hp_ ab (fun _ hk => ⟨⟨hk.1, hk.2.2⟩, hk.2.1⟩) hg; replace aa := rB_ (ok := (o1 (.slice ce bG.length cf))) hp_ aa (fun _ hk => ⟨hk.2, hk.1⟩) hg; replace am := gR_ aW am hg; replace al := gR_ aW al hg; replace ai := gR_ aW ai hg; replace a6 := rA_ (ok := (o1 (.slice ba aX.length bb))) hp_ a6 hg; replace ap := gR_ aW ap hg; replace aW := A_ (hp_); replace HB := A_ ((by rw [hw]; exact below_set (HB.o) GB26.o : Below w.heap.size w w51)); clear hg hw hp_))
      go_loopg [10] kj3 (fun kq kp w' => ∃ (bi : Int) (aJ : List Int) (br : List Int) (bf : List Int) (af : Value) (ae : Value) (ag : Value), kp = .int .i64 bi ∧ Aside0 (spec_CountingForm.l0 kq a1 (ac.length : Int) bi ay ac aJ ay br bf = some (r1, r2, r3, r4, r5)) ∧ Aside0 (kq ≤ kj3) ∧ Aside0 (Kd.S (Kd.slice 3 (Kd.int .i64)) 23 w' w.heap.size (o3 af ae ag) (.slice bd ac.length aQ) ac) ∧ Aside0 (Kd.R (Kd.int .i64) 3 w' w.heap.size (o2 ae ag) af aJ) ∧ Aside0 (Kd.R (Kd.int .i64) 3 w' w.heap.size (o2 af ag) ae br) ∧ Aside0 (Kd.R (Kd.int .i64) 3 w' w.heap.size (o2 af ae) ag bf) ∧ Aside0 (w'.heap[bk]? = some (.cells #[.int .i64 bL, (.slice bS bE.length bU), (.slice bT bF.length bV)] 32 (0, 0))) ∧ Aside0 (w'.heap[bh]? = some (.cells #[.int .i64 0, (.slice none 0 0), (.slice none 0 0), (.slice none 0 0)] 29 (0, 0))) ∧ Aside0 (w'.heap[aK]? = some (.cells #[.int .i64 ay, (.slice bd ac.length aQ), af] 32 (0, 0))) ∧ Aside0 (w'.heap[aU]? = some (.cells #[.int .i64 ay, ae, (.slice none 0 0), ag] 29 (0, 0))) ∧ Aside0 (Below w.heap.size w w'))
      case atStart => exact ⟨(0), (aX), (fs), (bG), (.slice ba aX.length bb), (.slice (some ⟨d8, 0, none⟩) bo.length cZ), (.slice ce bG.length cf), (by rfl), H', ⟨Nat.le_refl _⟩, ⟨by exact Kd.S_mono ab.o (fun _ hk => ⟨hk.1.1, ⟨hk.2, hk.1.2⟩⟩)⟩, ⟨by exact Kd.R_mono aa.o (fun _ hk => ⟨hk.2, hk.1⟩)⟩, ⟨aW.o⟩, ⟨a6.o⟩, ⟨am.o⟩, ⟨al.o⟩, ⟨ai.o⟩, ⟨ap.o⟩, ⟨HB.o⟩⟩
      case round =>
       clear H'
       clear hI hJ qi26 eb de
       obtain ⟨bi, aJ, br, bf, af, ae, ag, rfl, HA, b3, ab, aa, aj, ah, am, al, ai, ap, HB⟩ := hrel
       cases gk with
       | zero => exact nz_ HA.o
       | succ k2 =>
        have H := HA.o; clear HA; simp only [spec_CountingForm.l0] at H
        by_cases c52 : bi < (ac.length : Int)
        ·rw [if_pos c52] at H; have en := decide_eq_true c52; clear c52
         by_cases c53 : 0 ≤ bi
         ·rw [if_pos c53] at H; have jm := decide_eq_true c53; clear c53
          by_cases c54 : bi < (aJ.length : Int)
          ·rw [if_pos c54] at H; have jn := decide_eq_true c54; clear c54
           by_cases c55 : (rd aJ bi) = a1
           ·rw [if_pos c55] at H
            have f1 : ((rd aJ bi) == a1) = true := beq_iff_eq.mpr c55
            have f2 : ((rd aJ bi) != a1) = false := bne_eq_false_iff_eq.mpr c55
            clear c55; obtain ⟨cg, dp⟩ : ∃ j_ : Int, (wrap64 ((ac.length : Int) + bi)) = j_ := ⟨_, rfl⟩; replace H : (if 0 ≤ (cg) then (if (cg) < (bf.length : Int) then (spec_CountingForm.l0 k2 a1 (ac.length : Int) (wrap64 (bi + 1)) ay ac aJ ay br (bf.set ((cg) : Int).toNat 1)) else (none)) else (none)) = some (r1, r2, r3, r4, r5) := by first | (rw [dp] at H; exact H) | (simp only [dp] at H ⊢; exact H)
            have iw : (IntKind.i64.wrap ((ac.length : Int) + bi)) = cg := (i64_w _).trans dp
            by_cases c57 : 0 ≤ (cg)
            ·rw [if_pos c57] at H; have jo := decide_eq_true c57; clear c57
             by_cases c58 : (cg) < (bf.length : Int)
             ·rw [if_pos c58] at H; have jp := decide_eq_true c58; clear c58; obtain ⟨ft, dT⟩ := ex_ ((bf.set ((cg) : Int).toNat 1) : List Int); replace H : (spec_CountingForm.l0 k2 a1 (ac.length : Int) (wrap64 (bi + 1)) ay ac aJ ay br ft) = some (r1, r2, r3, r4, r5) := by (rw [dT]; with_reducible exact H)
              have fN := A_ dT; clear dT
              have H' := A_ H
              clear H; have jC := bp.o; have jZ := a8.o; have jD := bj.o; have j1 := a5.o; have jE := aq.o; have j4 := aD.o; have gY := bq3 ai.o; obtain ⟨kk, d7, iq⟩ := Kd.R_slice aa.o; subst iq
              have df : 0 ≤ (bi : Int) := oa_
              have dg : bi < (aJ.length : Int) := oa_
              obtain ⟨cE, eY, ee⟩ := Kd.at_int (Kd.R_reads' aa.o).2.2 bi df dg
              cases eY
              replace df := eq_true df; replace dg := eq_true dg; have jF := aH.o; have j6 := az.o; have jG := aI.o; have j7 := aA.o; have gZ := bq4 ap.o
              have iX : 0 ≤ ((cg) : Int) := oa_
              have iY : ((cg) : Int) < ((bf.length : Int) : Int) := oa_
              obtain ⟨d9, gq, gI, gK, gl59, cl59, HG59⟩ := Kd.R_form ah.o (by omega)
              (first | cases gI | (injection gI with ea_ en_ ec_; (first | subst ea_ | (injection ea_ with ea_; subst ea_)); subst ec_; clear en_))
              have GB59 := A_ gK; have GG59 := A_ HG59; clear gK gl59 HG59; obtain ⟨iW, iu⟩ := Kd.R_celln 0 ah.o ((cg) : Int) iX iY; replace iX := eq_true iX; replace iY := eq_true iY; have eI := Kd.R_putg ah.o ((cg) : Int) 1
              go_wp2_with (first | ((with_reducible refine gate_store (t := 3) (p := 62) rfl ?_); refine store_event (t := 3) (p := 62) (w1 := (wr.setCell ⟨d9, ((cg) : Int).toNat, none⟩ (.int .i64 1))) rfl rfl rfl (by go_simp; done) ?_; intro w69 hw; have hg : wr.grownBy w69 (some d9) := (by rw [hw]; exact eI.2); have hp_ : Kd.R (Kd.int .i64) 3 w69 w.heap.size (o2 (.slice (some cE) aJ.length d7) ae) (.slice (some ⟨d9, 0, none⟩) bf.length gq) ft := (by rw [hw, fN.o]; exact eI.1); clear eI; replace ab := sB_ (ok := (o2 (.slice (some cE) aJ.length d7) ae)) hp_ ab (fun _ hk => ⟨⟨hk.1, hk.2.1⟩, hk.2.2⟩) hg; replace aa := rA_ (ok := (o1 ae)) hp_ aa hg; replace aj := rA_ (ok := (o1 (.slice (some cE) aJ.length d7))) hp_ aj hg; replace am := gR_ ah am hg; replace al := gR_ ah al hg; replace ai := gR_ ah ai hg; replace ap := gR_ ah ap hg; replace ah := A_ (hp_); replace HB := A_ ((by rw [hw]; exact below_set (HB.o) GB59.o : Below w.heap.size w w69)); clear hg hw hp_))
              (try subst bq)
              (try subst dp)
              go_roundg k2
              case measure => have := b2.o; have := b3.o; omega
              case rel => exact ⟨(wrap64 (bi + 1)), (aJ), (br), (ft), (.slice (some cE) aJ.length d7), (ae), (.slice (some ⟨d9, 0, none⟩) bf.length gq), (by rfl), H', ⟨by have := b2.o; have := b3.o; omega⟩, ⟨by exact Kd.S_mono ab.o (fun _ hk => ⟨hk.1.1, ⟨hk.1.2, hk.2⟩⟩)⟩, ⟨aa.o⟩, ⟨aj.o⟩, ⟨ah.o⟩, ⟨am.o⟩, ⟨al.o⟩, ⟨ai.o⟩, ⟨ap.o⟩, ⟨HB.o⟩⟩
             rw [if_neg c58] at H
             cases H
            rw [if_neg c57] at H
            cases H
           rw [if_neg c55] at H
           have f1 : ((rd aJ bi) == a1) = false := beq_eq_false_iff_ne.mpr c55
           have f2 : ((rd aJ bi) != a1) = true := bne_iff_ne.mpr c55
           have H' := A_ H
           clear H; have jH := bp.o; have j8 := a8.o; have jI := bj.o; have j9 := a5.o; have jJ := aq.o; have ka := aD.o; have g4 := bq3 ai.o; obtain ⟨kl, ib, ir⟩ := Kd.R_slice aa.o; subst ir
           have df : 0 ≤ (bi : Int) := oa_
           have dg : bi < (aJ.length : Int) := oa_
           obtain ⟨cE, eY, ee⟩ := Kd.at_int (Kd.R_reads' aa.o).2.2 bi df dg
           cases eY
           replace df := eq_true df; replace dg := eq_true dg
           go_wp2
           (try subst bq)
           go_roundg k2
           case measure => have := b2.o; have := b3.o; omega
           case rel => exact ⟨(wrap64 (bi + 1)), (aJ), (br), (bf), (.slice (some cE) aJ.length ib), (ae), (ag), (by rfl), H', ⟨by have := b2.o; have := b3.o; omega⟩, ⟨ab.o⟩, ⟨aa.o⟩, ⟨aj.o⟩, ⟨ah.o⟩, ⟨am.o⟩, ⟨al.o⟩, ⟨ai.o⟩, ⟨ap.o⟩, ⟨HB.o⟩⟩
          rw [if_neg c54] at H
          cases H
         rw [if_neg c53] at H
         cases H
        rw [if_neg c52] at H; have en := decide_eq_false c52; clear c52
        have H' := A_ H
        clear H
        go_wp2
        go_loopg [11] k2 (fun kq kr w' => ∃ (a4 : Int) (bM : List Int) (bA : List Int) (au : List (List (List Int))) (bB : List Int) (af : Value) (ae : Value) (bv : Value) (ag : Value), kr = .int .i64 a4 ∧ Aside0 (spec_CountingForm.l1 kq (ac.length : Int) a4 ay ac bM ay bA au bB = some (r1, r2, r3, r4, r5)) ∧ Aside0 (kq ≤ k2) ∧ Aside0 (Kd.S (Kd.slice 3 (Kd.int .i64)) 23 w' w.heap.size (o3 af ae ag) (.slice bd ac.length aQ) ac) ∧ Aside0 (Kd.R (Kd.int .i64) 3 w' w.heap.size (o2 ae ag) af bM) ∧ Aside0 (Kd.R (Kd.int .i64) 3 w' w.heap.size (o2 af ag) ae bA) ∧ Aside0 (Kd.R (Kd.slice 23 (Kd.slice 3 (Kd.int .i64))) 22 w' w.heap.size (o4 (.slice bd ac.length aQ) af ae ag) bv au) ∧ Aside0 (Kd.R (Kd.int .i64) 3 w' w.heap.size (o2 af ae) ag bB) ∧ Aside0 (w'.heap[bk]? = some (.cells #[.int .i64 bL, (.slice bS bE.length bU), (.slice bT bF.length bV)] 32 (0, 0))) ∧ Aside0 (w'.heap[bh]? = some (.cells #[.int .i64 0, (.slice none 0 0), (.slice none 0 0), (.slice none 0 0)] 29 (0, 0))) ∧ Aside0 (w'.heap[aK]? = some (.cells #[.int .i64 ay, (.slice bd ac.length aQ), af] 32 (0, 0))) ∧ Aside0 (w'.heap[aU]? = some (.cells #[.int .i64 ay, ae, bv, ag] 29 (0, 0))) ∧ Aside0 (Below w.heap.size w w'))
        case atStart => exact ⟨(0), (aJ), (br), (([] : List (List (List Int)))), (bf), (af), (ae), (.slice none 0 0), (ag), (by rfl), H', ⟨Nat.le_refl _⟩, ⟨ab.o⟩, ⟨aa.o⟩, ⟨aj.o⟩, ⟨by exact Kd.R_nil _ _ _ _ _⟩, ⟨ah.o⟩, ⟨am.o⟩, ⟨al.o⟩, ⟨ai.o⟩, ⟨ap.o⟩, ⟨HB.o⟩⟩
        case round =>
         clear H'
         try clear en
         obtain ⟨a4, bM, bA, au, bB, af, ae, bv, ag, rfl, HA, cb, ab, aa, aj, ak, ah, am, al, ai, ap, HB⟩ := hrel
         cases gk with
         | zero => exact nz_ HA.o
         | succ k3 =>
          have H := HA.o; clear HA; simp only [spec_CountingForm.l1] at H
          by_cases c75 : a4 < ay
          ·rw [if_pos c75] at H; have eo := decide_eq_true c75; clear c75; obtain ⟨gS, dU⟩ := ex_ ((([] : List (List Int))) : List (List Int)); replace H : (spec_CountingForm.l2 k3 (ac.length : Int) a4 gS 0 ay ac bM ay bA au bB) = some (r1, r2, r3, r4, r5) := by (rw [dU]; with_reducible exact H)
           have fO := A_ dU; clear dU
           have H' := A_ H
           clear H; have jK := bp.o; have kb := a8.o; have jL := bj.o; have kc := a5.o; have jM := aq.o; have kd := aD.o; have ec := bq3 ai.o
           go_wp2_with (first | ((with_reducible refine gate_dst (N := 69) rfl ?_); refine Kd.S_lit (Kd.slice 3 (Kd.int .i64)) _ 23 ?hg (N := 69) ?hd (xs := ([] : List (List Int))) (inner := []) (ok := fun _ => True) (okp := fun _ => True) ?hr ?hp (fun _ hk => hk) trivial (Below.refl _ _) (Nat.le_refl _) (by simp) ?_; (case hd | hg => rfl); (case hr => go_simp; done); (case hp => exact (Reps.none _ _)); rintro ky w80 dP hb - -; (rw [← fO.o] at dP); replace ak := A_ (Kd.R_elder' ak.o (Kd.S_base dP) hb); have fG := A_ (Kd.S_lower (Kd.S_new' (Kd.S_new' (Kd.S_new' (Kd.S_new' dP (Kd.S_lt ab.o)) (Kd.R_lt aa.o)) (Kd.R_lt aj.o)) (Kd.R_lt ah.o)) (below_size HB.o)); replace ab := A_ (Kd.S_elder' ab.o (Kd.S_base dP) hb); replace aa := A_ (Kd.R_below aa.o hb); replace aj := A_ (Kd.R_below aj.o hb); replace ah := A_ (Kd.R_below ah.o hb); replace am := bb_ am hb; replace al := bb_ al hb; replace ai := bb_ ai hb; replace ap := bb_ ap hb; replace HB := bs_ HB hb; clear hb dP))
           go_loopg [12, 13] k3 (fun kq i0 kt w' => ∃ (a9 : List (List Int)) (aN : Int) (av : List Int) (aw : List Int) (ax : List Int) (af : Value) (ae : Value) (ag : Value), kt = .int .i64 aN ∧ Aside0 (spec_CountingForm.l2 kq (ac.length : Int) a4 a9 aN ay ac av ay aw au ax = some (r1, r2, r3, r4, r5)) ∧ Aside0 (kq ≤ k3) ∧ Aside0 (Kd.S (Kd.slice 3 (Kd.int .i64)) 23 w' w.heap.size (o4 (.slice bd ac.length aQ) af ae ag) i0 a9) ∧ Aside0 (Kd.S (Kd.slice 3 (Kd.int .i64)) 23 w' w.heap.size (o4 i0 af ae ag) (.slice bd ac.length aQ) ac) ∧ Aside0 (Kd.R (Kd.int .i64) 3 w' w.heap.size (o2 ae ag) af av) ∧ Aside0 (Kd.R (Kd.int .i64) 3 w' w.heap.size (o2 af ag) ae aw) ∧ Aside0 (Kd.R (Kd.slice 23 (Kd.slice 3 (Kd.int .i64))) 22 w' w.heap.size (o5 i0 (.slice bd ac.length aQ) af ae ag) bv au) ∧ Aside0 (Kd.R (Kd.int .i64) 3 w' w.heap.size (o2 af ae) ag ax) ∧ Aside0 (w'.heap[bk]? = some (.cells #[.int .i64 bL, (.slice bS bE.length bU), (.slice bT bF.length bV)] 32 (0, 0))) ∧ Aside0 (w'.heap[bh]? = some (.cells #[.int .i64 0, (.slice none 0 0), (.slice none 0 0), (.slice none 0 0)] 29 (0, 0))) ∧ Aside0 (w'.heap[aK]? = some (.cells #[.int .i64 ay, (.slice bd ac.length aQ), af] 32 (0, 0))) ∧ Aside0 (w'.heap[aU]? = some (.cells #[.int .i64 ay, ae, bv, ag] 29 (0, 0))) ∧ Aside0 (Below w.heap.size w w'))
           case atStart => exact ⟨(gS), (0), (bM), (bA), (bB), (af), (ae), (ag), (by rfl), H', ⟨Nat.le_refl _⟩, ⟨by exact Kd.S_mono fG.o (fun _ hk => ⟨hk.1.1.1.2, ⟨hk.1.1.2, ⟨hk.1.2, hk.2⟩⟩⟩)⟩, ⟨by exact Kd.S_mono ab.o (fun _ hk => ⟨hk.2, ⟨hk.1.1, ⟨hk.1.2.1, hk.1.2.2⟩⟩⟩)⟩, ⟨aa.o⟩, ⟨aj.o⟩, ⟨by exact Kd.R_mono ak.o (fun _ hk => ⟨hk.2, ⟨hk.1.1, ⟨hk.1.2.1, ⟨hk.1.2.2.1, hk.1.2.2.2⟩⟩⟩⟩)⟩, ⟨ah.o⟩, ⟨am.o⟩, ⟨al.o⟩, ⟨ai.o⟩, ⟨ap.o⟩, ⟨HB.o⟩⟩
           case round =>
            clear H'
            clear eo ec
            obtain ⟨a9, aN, av, aw, ax, af, ae, ag, rfl, HA, cc, aG, ab, aa, aj, ak, ah, am, al, ai, ap, HB⟩ := hrel
            cases gk with
            | zero => exact nz_ HA.o
            | succ k4 =>
             have H := HA.o; clear HA; simp only [spec_CountingForm.l2] at H
             (try subst bq)
             by_cases c82 : aN < (wrap64 (2 * (ac.length : Int)))
             ·rw [if_pos c82] at H; have dH := decide_eq_true c82; clear c82
              (try subst bq)
              obtain ⟨cV, bD⟩ : ∃ j_ : Int, (wrap64 (2 * (ac.length : Int))) = j_ := ⟨_, rfl⟩; replace H : (if 0 ≤ (cV) then (if (cV : Int).toNat ≤ 35184372088832 then (spec_CountingForm.l3 k4 (ac.length : Int) a4 a9 aN (List.replicate (cV : Int).toNat 0) 0 ay ac av ay aw au ax) else (none)) else (none)) = some (r1, r2, r3, r4, r5) := by first | (rw [bD] at H; exact H) | (simp only [bD] at H ⊢; exact H)
              (try rw [bD] at dH)
              have ix : (IntKind.i64.wrap (2 * (ac.length : Int))) = cV := (i64_w _).trans bD
              by_cases c84 : 0 ≤ (cV)
              ·rw [if_pos c84] at H; have f3 := eq_true c84; have f4 := decide_eq_true c84; clear c84
               by_cases c85 : (cV : Int).toNat ≤ 35184372088832
               ·rw [if_pos c85] at H; have f5 := eq_true c85; have f6 := decide_eq_true c85; clear c85; obtain ⟨gT, dW⟩ := ex_ ((List.replicate (cV : Int).toNat 0) : List Int); replace H : (spec_CountingForm.l3 k4 (ac.length : Int) a4 a9 aN gT 0 ay ac av ay aw au ax) = some (r1, r2, r3, r4, r5) := by (rw [dW]; with_reducible exact H)
                have fQ := A_ dW; clear dW
                have H' := A_ H
                clear H
                go_wp2_with (first | ((with_reducible refine gate_dst (N := 78) rfl ?_); refine Kd.R_make (Kd.int .i64) _ 3 rfl (N := 78) rfl 23 _ _ rfl cV rfl rfl Try.underlying23 (.int .i64 0) 8 info3 rfl (by decide) (by omega) 0 (ok := fun _ => True) (okp := fun _ => True) rfl (fun _ hk => hk) trivial oa_ (Nat.le_trans (Nat.mul_le_mul_right _ (oa_ : cV.toNat ≤ 35184372088832)) (by omega)) (Below.refl _ _) (Nat.le_refl _) ?_; rintro b4 w86 cO hb - -; (rw [← fQ.o] at cO); replace aG := A_ (Kd.S_elder' aG.o (Kd.R_base cO) hb); replace ab := A_ (Kd.S_elder' ab.o (Kd.R_base cO) hb); replace ak := A_ (Kd.R_elder' ak.o (Kd.R_base cO) hb); have fH := A_ (Kd.R_lower (Kd.R_new' (Kd.R_new' (Kd.R_new' cO (Kd.R_lt aa.o)) (Kd.R_lt aj.o)) (Kd.R_lt ah.o)) (below_size HB.o)); replace aa := A_ (Kd.R_elder' aa.o (Kd.R_base cO) hb); replace aj := A_ (Kd.R_elder' aj.o (Kd.R_base cO) hb); replace ah := A_ (Kd.R_elder' ah.o (Kd.R_base cO) hb); replace am := bb_ am hb; replace al := bb_ al hb; replace ai := bb_ ai hb; replace ap := bb_ ap hb; replace HB := bs_ HB hb; clear hb cO))
                go_loopg [15] k4 (fun kq ku w' => ∃ (ar : List Int) (ao : Int), ku = .int .i64 ao ∧ Aside0 (spec_CountingForm.l3 kq (ac.length : Int) a4 a9 aN ar ao ay ac av ay aw au ax = some (r1, r2, r3, r4, r5)) ∧ Aside0 (kq ≤ k4) ∧ Aside0 (Kd.S (Kd.slice 3 (Kd.int .i64)) 23 w' w.heap.size (o5 b4 (.slice bd ac.length aQ) af ae ag) u12 a9) ∧ Aside0 (Kd.R (Kd.int .i64) 3 w' w.heap.size (o3 af ae ag) b4 ar) ∧ Aside0 (Kd.S (Kd.slice 3 (Kd.int .i64)) 23 w' w.heap.size (o5 u12 b4 af ae ag) (.slice bd ac.length aQ) ac) ∧ Aside0 (Kd.R (Kd.int .i64) 3 w' w.heap.size (o3 b4 ae ag) af av) ∧ Aside0 (Kd.R (Kd.int .i64) 3 w' w.heap.size (o3 b4 af ag) ae aw) ∧ Aside0 (Kd.R (Kd.slice 23 (Kd.slice 3 (Kd.int .i64))) 22 w' w.heap.size (o6 u12 b4 (.slice bd ac.length aQ) af ae ag) bv au) ∧ Aside0 (Kd.R (Kd.int .i64) 3 w' w.heap.size (o3 b4 af ae) ag ax) ∧ Aside0 (w'.heap[bk]? = some (.cells #[.int .i64 bL, (.slice bS bE.length bU), (.slice bT bF.length bV)] 32 (0, 0))) ∧ Aside0 (w'.heap[bh]? = some (.cells #[.int .i64 0, (.slice none 0 0), (.slice none 0 0), (.slice none 0 0)] 29 (0, 0))) ∧ Aside0 (w'.heap[aK]? = some (.cells #[.int .i64 ay, (.slice bd ac.length aQ), af] 32 (0, 0))) ∧ Aside0 (w'.heap[aU]? = some (.cells #[.int .i64 ay, ae, bv, ag] 29 (0, 0))) ∧ Aside0 (Below w.heap.size w w'))
                case atStart => exact ⟨(gT), (0), (by rfl), H', ⟨Nat.le_refl _⟩, ⟨by exact Kd.S_mono aG.o (fun _ hk => ⟨hk.2, ⟨hk.1.1, ⟨hk.1.2.1, ⟨hk.1.2.2.1, hk.1.2.2.2⟩⟩⟩⟩)⟩, ⟨by exact Kd.R_mono fH.o (fun _ hk => ⟨hk.1.1.2, ⟨hk.1.2, hk.2⟩⟩)⟩, ⟨by exact Kd.S_mono ab.o (fun _ hk => ⟨hk.1.1, ⟨hk.2, ⟨hk.1.2.1, ⟨hk.1.2.2.1, hk.1.2.2.2⟩⟩⟩⟩)⟩, ⟨by exact Kd.R_mono aa.o (fun _ hk => ⟨hk.2, ⟨hk.1.1, hk.1.2⟩⟩)⟩, ⟨by exact Kd.R_mono aj.o (fun _ hk => ⟨hk.2, ⟨hk.1.1, hk.1.2⟩⟩)⟩, ⟨by exact Kd.R_mono ak.o (fun _ hk => ⟨hk.1.1, ⟨hk.2, ⟨hk.1.2.1, ⟨hk.1.2.2.1, ⟨hk.1.2.2.2.1, hk.1.2.2.2.2⟩⟩⟩⟩⟩)⟩, ⟨by exact Kd.R_mono ah.o (fun _ hk => ⟨hk.2, ⟨hk.1.1, hk.1.2⟩⟩)⟩, ⟨am.o⟩, ⟨al.o⟩, ⟨ai.o⟩, ⟨ap.o⟩, ⟨HB.o⟩⟩
                case round =>
                 clear H'
                 clear dH f3 f4 f5 f6
                 obtain ⟨ar, ao, rfl, HA, ch, aG, an, ab, aa, aj, ak, ah, am, al, ai, ap, HB⟩ := hrel
                 cases gk with
                 | zero => exact nz_ HA.o
                 | succ k5 =>
                  have H := HA.o; clear HA; simp only [spec_CountingForm.l3] at H
                  by_cases c88 : ao < ay
                  ·rw [if_pos c88] at H; have ep := decide_eq_true c88; clear c88
                   by_cases c89 : (ac.length : Int) = 0
                   ·rw [if_pos c89] at H
                    cases H
                   rw [if_neg c89] at H
                   have f8 : ((ac.length : Int) == 0) = false := beq_eq_false_iff_ne.mpr c89
                   have ga : ((ac.length : Int) != 0) = true := bne_iff_ne.mpr c89
                   have gb : ¬ (ac = []) := fun h_ => c89 (by rw [h_]; rfl)
                   obtain ⟨aC, bR⟩ : ∃ j_ : Int, (Int.tmod aN (ac.length : Int)) = j_ := ⟨_, rfl⟩; replace H : (if 0 ≤ (aC) then (if (aC) < (ac.length : Int) then (if 0 ≤ ao then (if ao < ((rd_L1 ac (aC)).length : Int) then (if aN < (ac.length : Int) then (spec_CountingForm.j5 k5 (ac.length : Int) a4 a9 aN ar ao (rd (rd_L1 ac (aC)) ao) (ao == a4) ay ac av ay aw au ax) else (spec_CountingForm.j5 k5 (ac.length : Int) a4 a9 aN ar ao (rd (rd_L1 ac (aC)) ao) false ay ac av ay aw au ax)) else (none)) else (none)) else (none)) else (none)) = some (r1, r2, r3, r4, r5) := by first | (rw [bR] at H; exact H) | (simp only [bR] at H ⊢; exact H)
                   by_cases c91 : 0 ≤ (aC)
                   ·rw [if_pos c91] at H; have gc := decide_eq_true c91; clear c91
                    by_cases c92 : (aC) < (ac.length : Int)
                    ·rw [if_pos c92] at H; have gd := decide_eq_true c92; clear c92
                     by_cases c93 : 0 ≤ ao
                     ·rw [if_pos c93] at H; have ge := decide_eq_true c93; clear c93
                      by_cases c94 : ao < ((rd_L1 ac (aC)).length : Int)
                      ·rw [if_pos c94] at H; have gf := decide_eq_true c94; clear c94; have HC95 := A_ H; clear H; have jN := bp.o; have ke := a8.o; have jO := bj.o; have kf := a5.o; have jP := aq.o; have kg := aD.o; have ed := bq3 ai.o
                       try go_wp2
                       replace aG := A_ (Kd.S_drew aG.o); replace an := A_ (Kd.R_drew an.o); replace ab := A_ (Kd.S_drew ab.o); replace aa := A_ (Kd.R_drew aa.o); replace aj := A_ (Kd.R_drew aj.o); replace ak := A_ (Kd.R_drew ak.o); replace ah := A_ (Kd.R_drew ah.o); replace am := A_ (blk_drew am.o); replace al := A_ (blk_drew al.o); replace ai := A_ (blk_drew ai.o); replace ap := A_ (blk_drew ap.o); replace HB := A_ (below_drew1 HB.o)
                       have d5 : 0 ≤ ((aC) : Int) := oa_
                       have d6 : (aC) < (ac.length : Int) := oa_
                       obtain ⟨bg, hL, eW, ic, ck, dq, dn⟩ := at_L1 (Kd.S_reads' ab.o).2.2 (aC) d5 d6
                       cases ic
                       obtain ⟨ce343, hce343, hMe343, hcc343⟩ := Kd.S_get ab.o [] (aC) d5 (by exact d6); obtain ⟨ve343_0, rfl, ge343_0⟩ := hMe343; have hv343_0 := hcc343 0 _ rfl; rw [Nat.add_zero, show ((Kd.slice 3 (Kd.int .i64))).sz = 1 from rfl, Nat.mul_one] at hv343_0; replace hv343_0 := Option.some.inj (hv343_0.symm.trans ck); rw [hv343_0] at ge343_0; have HL343_0 := A_ (show Kd.R (Kd.int .i64) 3 _ _ _ _ (rd_L1 ac (aC)) from ge343_0); clear hv343_0 ge343_0 hcc343 hce343; have bH := A_ dn; have gV := A_ dq; clear dn dq; replace d5 := eq_true d5; replace d6 := eq_true d6
                       have ei : 0 ≤ (ao : Int) := oa_
                       have ej : ao < ((rd_L1 ac (aC)).length : Int) := oa_
                       obtain ⟨dG, ie, cP⟩ := Kd.at_int (by repeat (first | (with_reducible exact bH.o) | (with_reducible refine Kd.C_alloc ?_ _) | (with_reducible refine Kd.C_drewN ?_ _) | (with_reducible refine Kd.C_drew ?_) | exact bH.o)) ao ei ej
                       cases ie
                       replace ei := eq_true ei; replace ej := eq_true ej; refine start_ (n := 11) (S := fun w' => w'.cell? ⟨aK, 0, none⟩ = some (.int .i64 ay) ∧ w'.cell? ⟨aK, 1, none⟩ = some (.slice (some bg) ac.length aQ) ∧ w'.cell? ⟨aK, 2, none⟩ = some (af) ∧ w'.cell? (bg.add ((aC)).toNat) = some (.slice (some dG) (rd_L1 ac (aC)).length eW) ∧ w'.cell? (dG.add (ao).toNat) = some (.int .i64 (rd (rd_L1 ac (aC)) ao))) (ds := []) (mk_ 11 0) (by kernel_rfl) rfl rfl ⟨bz0 ai.o, bz1 ai.o, bz2 ai.o, ck, cP⟩ (fun aM => ?_); refine with_tabW spec_CountingForm.tab23 spec_CountingForm.bits23 (fun bW fL => ?_)
                       generalize wr.drew = w100 at aG an ab aa aj ak ah am al ai ap HB HL343_0 bH ck cP aM ⊢
                       refine pw_ 0 85 (mk_ 11 1) bW ?_; refine pw_ 2 87 (mk_ 11 5) bW ?_; refine pw_ 3 88 (mk_ 11 13) bW ?_; refine pw_ 4 89 (mk_ 11 29) bW ?_; refine pw_ 7 92 (mk_ 11 157) bW ?_; refine tk_ 1 86 (mk_ 11 159) bW fL aM ?_; refine pw_ 5 90 (mk_ 11 191) bW ?_; refine tk_ 6 91 (mk_ 11 255) bW fL aM ?_; refine pw_ 8 93 (mk_ 11 511) bW ?_; refine tk_ 9 94 (mk_ 11 1023) bW fL aM ?_; refine pw_ 10 16 (mk_ 11 2047) bW ?_; refine done_ (done_of bW.o (by kernel_rfl)) ?_
                       go_upto_region 24 with (fail)
                       go_cut [102] (fun iZ wc => ∃ (kq : Nat) (cm : Bool), iZ = .bool cm ∧ Aside0 (spec_CountingForm.j5 kq (ac.length : Int) a4 a9 aN ar ao (rd (rd_L1 ac (aC)) ao) cm ay ac av ay aw au ax = some (r1, r2, r3, r4, r5)) ∧ Aside0 (kq ≤ k5) ∧ Aside0 (Kd.S (Kd.slice 3 (Kd.int .i64)) 23 wc w.heap.size (o5 b4 (.slice (some bg) ac.length aQ) af ae ag) u12 a9) ∧ Aside0 (Kd.R (Kd.int .i64) 3 wc w.heap.size (o3 af ae ag) b4 ar) ∧ Aside0 (Kd.S (Kd.slice 3 (Kd.int .i64)) 23 wc w.heap.size (o5 u12 b4 af ae ag) (.slice (some bg) ac.length aQ) ac) ∧ Aside0 (Kd.R (Kd.int .i64) 3 wc w.heap.size (o3 b4 ae ag) af av) ∧ Aside0 (Kd.R (Kd.int .i64) 3 wc w.heap.size (o3 b4 af ag) ae aw) ∧ Aside0 (Kd.R (Kd.slice 23 (Kd.slice 3 (Kd.int .i64))) 22 wc w.heap.size (o6 u12 b4 (.slice (some bg) ac.length aQ) af ae ag) bv au) ∧ Aside0 (Kd.R (Kd.int .i64) 3 wc w.heap.size (o3 b4 af ae) ag ax) ∧ Aside0 (wc.heap[bk]? = some (.cells #[.int .i64 bL, (.slice bS bE.length bU), (.slice bT bF.length bV)] 32 (0, 0))) ∧ Aside0 (wc.heap[bh]? = some (.cells #[.int .i64 0, (.slice none 0 0), (.slice none 0 0), (.slice none 0 0)] 29 (0, 0))) ∧ Aside0 (wc.heap[aK]? = some (.cells #[.int .i64 ay, (.slice (some bg) ac.length aQ), af] 32 (0, 0))) ∧ Aside0 (wc.heap[aU]? = some (.cells #[.int .i64 ay, ae, bv, ag] 29 (0, 0))) ∧ Aside0 (Kd.C (Kd.int .i64) wc (some dG) (rd_L1 ac (aC)).length (rd_L1 ac (aC))) ∧ Aside0 (Below w.heap.size w wc))
                       case first =>
                        have H := HC95.o; clear HC95
                        by_cases c101 : aN < (ac.length : Int)
                        ·rw [if_pos c101] at H; have eL := decide_eq_true c101; clear c101
                         (skip)
                         have H' := A_ H
                         clear H
                         go_wp2
                         go_meet
                         case rel => exact ⟨_, ((ao == a4)), (by rfl), H', ⟨by have := b2.o; have := b3.o; have := cb.o; have := cc.o; have := ch.o; omega⟩, ⟨aG.o⟩, ⟨an.o⟩, ⟨ab.o⟩, ⟨aa.o⟩, ⟨aj.o⟩, ⟨ak.o⟩, ⟨ah.o⟩, ⟨am.o⟩, ⟨al.o⟩, ⟨ai.o⟩, ⟨ap.o⟩, ⟨by repeat (first | (with_reducible exact bH.o) | (with_reducible refine Kd.C_alloc ?_ _) | (with_reducible refine Kd.C_drewN ?_ _) | (with_reducible refine Kd.C_drew ?_) | exact bH.o)⟩, ⟨HB.o⟩⟩
                        rw [if_neg c101] at H; have eL := decide_eq_false c101; clear c101
                        (skip)
                        have H' := A_ H
                        clear H
                        go_wp2
                        go_meet
                        case rel => exact ⟨_, (false), (by rfl), H', ⟨by have := b2.o; have := b3.o; have := cb.o; have := cc.o; have := ch.o; omega⟩, ⟨aG.o⟩, ⟨an.o⟩, ⟨ab.o⟩, ⟨aa.o⟩, ⟨aj.o⟩, ⟨ak.o⟩, ⟨ah.o⟩, ⟨am.o⟩, ⟨al.o⟩, ⟨ai.o⟩, ⟨ap.o⟩, ⟨by repeat (first | (with_reducible exact bH.o) | (with_reducible refine Kd.C_alloc ?_ _) | (with_reducible refine Kd.C_drewN ?_ _) | (with_reducible refine Kd.C_drew ?_) | exact bH.o)⟩, ⟨HB.o⟩⟩
                       case rest =>
                        clear HC95
                        clear ep c89 f8 ga gb gc gd ge gf ed ck cP d5 ei d6 ej
                        obtain ⟨kq, cm, rfl, HA, bK, aG, an, ab, aa, aj, ak, ah, am, al, ai, ap, bH, HB⟩ := hcut
                        cases kq with
                        | zero => exact nz_ HA.o
                        | succ kj94 =>
                         have H := HA.o; clear HA; simp only [spec_CountingForm.j5] at H
                         by_cases c102 : cm = true
                         ·subst c102; rw [if_pos rfl] at H
                          by_cases c103 : 0 ≤ (rd (rd_L1 ac (aC)) ao)
                          ·rw [if_pos c103] at H; have hP := decide_eq_true c103; clear c103
                           by_cases c104 : (rd (rd_L1 ac (aC)) ao) < (ar.length : Int)
                           ·rw [if_pos c104] at H; have hU := decide_eq_true c104; clear c104; obtain ⟨be, dY⟩ := ex_ ((ar.set ((rd (rd_L1 ac (aC)) ao) : Int).toNat (wrap64 ((rd ar (rd (rd_L1 ac (aC)) ao)) + 1))) : List Int); replace H : (if aN < (ac.length : Int) then (if ao < a4 then (if 0 ≤ (wrap64 ((ac.length : Int) + (rd (rd_L1 ac (aC)) ao))) then (if (wrap64 ((ac.length : Int) + (rd (rd_L1 ac (aC)) ao))) < (ar.length : Int) then (spec_CountingForm.l3 kj94 (ac.length : Int) a4 a9 aN (be.set ((wrap64 ((ac.length : Int) + (rd (rd_L1 ac (aC)) ao))) : Int).toNat (wrap64 ((rd be (wrap64 ((ac.length : Int) + (rd (rd_L1 ac (aC)) ao)))) + 1))) (wrap64 (ao + 1)) ay ac av ay aw au ax) else (none)) else (none)) else (if aN ≥ (ac.length : Int) then (if 0 ≤ (wrap64 ((ac.length : Int) + (rd (rd_L1 ac (aC)) ao))) then (if (wrap64 ((ac.length : Int) + (rd (rd_L1 ac (aC)) ao))) < (ar.length : Int) then (spec_CountingForm.l3 kj94 (ac.length : Int) a4 a9 aN (be.set ((wrap64 ((ac.length : Int) + (rd (rd_L1 ac (aC)) ao))) : Int).toNat (wrap64 ((rd be (wrap64 ((ac.length : Int) + (rd (rd_L1 ac (aC)) ao)))) + 1))) (wrap64 (ao + 1)) ay ac av ay aw au ax) else (none)) else (none)) else (spec_CountingForm.l3 kj94 (ac.length : Int) a4 a9 aN be (wrap64 (ao + 1)) ay ac av ay aw au ax))) else (if aN ≥ (ac.length : Int) then (if 0 ≤ (wrap64 ((ac.length : Int) + (rd (rd_L1 ac (aC)) ao))) then (if (wrap64 ((ac.length : Int) + (rd (rd_L1 ac (aC)) ao))) < (ar.length : Int) then (spec_CountingForm.l3 kj94 (ac.length : Int) a4 a9 aN (be.set ((wrap64 ((ac.length : Int) + (rd (rd_L1 ac (aC)) ao))) : Int).toNat (wrap64 ((rd be (wrap64 ((ac.length : Int) + (rd (rd_L1 ac (aC)) ao)))) + 1))) (wrap64 (ao + 1)) ay ac av ay aw au ax) else (none)) else (none)) else (spec_CountingForm.l3 kj94 (ac.length : Int) a4 a9 aN be (wrap64 (ao + 1)) ay ac av ay aw au ax))) = some (r1, r2, r3, r4, r5) := by (have H2_ := (Option.bind_some _ _).symm.trans H; rw [dY]; with_reducible exact H2_)
                            have cd := A_ dY; clear dY
                            by_cases c106 : aN < (ac.length : Int)
                            ·rw [if_pos c106] at H; have eN := decide_eq_true c106; clear c106
                             by_cases c107 : ao < a4
                             ·rw [if_pos c107] at H; have eO := decide_eq_true c107; clear c107; obtain ⟨bl, cH⟩ : ∃ j_ : Int, (wrap64 ((ac.length : Int) + (rd (rd_L1 ac (aC)) ao))) = j_ := ⟨_, rfl⟩; replace H : (if 0 ≤ (bl) then (if (bl) < (ar.length : Int) then (spec_CountingForm.l3 kj94 (ac.length : Int) a4 a9 aN (be.set ((bl) : Int).toNat (wrap64 ((rd be (bl)) + 1))) (wrap64 (ao + 1)) ay ac av ay aw au ax) else (none)) else (none)) = some (r1, r2, r3, r4, r5) := by first | (rw [cH] at H; exact H) | (simp only [cH] at H ⊢; exact H)
                              have hh : (IntKind.i64.wrap ((ac.length : Int) + (rd (rd_L1 ac (aC)) ao))) = bl := (i64_w _).trans cH
                              by_cases c109 : 0 ≤ (bl)
                              ·rw [if_pos c109] at H; have hV := decide_eq_true c109; clear c109
                               by_cases c110 : (bl) < (ar.length : Int)
                               ·rw [if_pos c110] at H; have hW := decide_eq_true c110; clear c110; obtain ⟨fu, dZ⟩ := ex_ ((be.set ((bl) : Int).toNat (wrap64 ((rd be (bl)) + 1))) : List Int); replace H : (spec_CountingForm.l3 kj94 (ac.length : Int) a4 a9 aN fu (wrap64 (ao + 1)) ay ac av ay aw au ax) = some (r1, r2, r3, r4, r5) := by (rw [dZ]; with_reducible exact H)
                                have fS := A_ dZ; clear dZ
                                have H' := A_ H
                                clear H; obtain ⟨i2, eq, gs⟩ := Kd.R_slice an.o; subst gs
                                have bO : 0 ≤ ((rd (rd_L1 ac (aC)) ao) : Int) := oa_
                                have bQ : (rd (rd_L1 ac (aC)) ao) < (ar.length : Int) := oa_
                                obtain ⟨dk, cG, bz⟩ := Kd.at_int (Kd.R_reads' an.o).2.2 (rd (rd_L1 ac (aC)) ao) bO bQ
                                cases cG
                                replace bO := eq_true bO; replace bQ := eq_true bQ
                                have bN : 0 ≤ ((rd (rd_L1 ac (aC)) ao) : Int) := oa_
                                have bP : ((rd (rd_L1 ac (aC)) ao) : Int) < ((ar.length : Int) : Int) := oa_
                                obtain ⟨bc, dl, bI, bJ, gl105, cl105, HG105⟩ := Kd.R_form an.o (by omega)
                                (first | cases bI | (injection bI with ea_ en_ ec_; (first | subst ea_ | (injection ea_ with ea_; subst ea_)); subst ec_; clear en_))
                                have GB105 := A_ bJ; have GG105 := A_ HG105; clear bJ gl105 HG105
                                (first | simp only [add_plain] at bz | skip)
                                obtain ⟨cj, ci⟩ := Kd.R_celln 0 an.o ((rd (rd_L1 ac (aC)) ao) : Int) bN bP; replace bN := eq_true bN; replace bP := eq_true bP; have dv := Kd.R_putg an.o ((rd (rd_L1 ac (aC)) ao) : Int) (wrap64 ((rd ar (rd (rd_L1 ac (aC)) ao)) + 1))
                                go_wp2_with (first | ((with_reducible refine gate_store (t := 3) (p := 110) rfl ?_); refine store_event (t := 3) (p := 110) (w1 := (wc.setCell ⟨bc, ((rd (rd_L1 ac (aC)) ao) : Int).toNat, none⟩ (.int .i64 (wrap64 ((rd ar (rd (rd_L1 ac (aC)) ao)) + 1))))) rfl rfl rfl (by go_simp; done) ?_; intro w114 hw; have hg : wc.grownBy w114 (some bc) := (by rw [hw]; exact dv.2); have hp_ : Kd.R (Kd.int .i64) 3 w114 w.heap.size (o3 af ae ag) (.slice (some ⟨bc, 0, none⟩) ar.length eq) be := (by rw [hw, cd.o]; exact dv.1); clear dv; replace aG := sB_ (ok := (o4 (.slice (some bg) ac.length aQ) af ae ag)) hp_ aG (fun _ hk => ⟨⟨hk.2.1, ⟨hk.2.2.1, ⟨hk.2.2.2.1, hk.2.2.2.2⟩⟩⟩, hk.1⟩) hg; replace ab := sB_ (ok := (o4 u12 af ae ag)) hp_ ab (fun _ hk => ⟨⟨hk.1, ⟨hk.2.2.1, ⟨hk.2.2.2.1, hk.2.2.2.2⟩⟩⟩, hk.2.1⟩) hg; replace aa := rB_ (ok := (o2 ae ag)) hp_ aa (fun _ hk => ⟨⟨hk.2.1, hk.2.2⟩, hk.1⟩) hg; replace aj := rB_ (ok := (o2 af ag)) hp_ aj (fun _ hk => ⟨⟨hk.2.1, hk.2.2⟩, hk.1⟩) hg; replace ak := rB_ (ok := (o5 u12 (.slice (some bg) ac.length aQ) af ae ag)) hp_ ak (fun _ hk => ⟨⟨hk.1, ⟨hk.2.2.1, ⟨hk.2.2.2.1, ⟨hk.2.2.2.2.1, hk.2.2.2.2.2⟩⟩⟩⟩, hk.2.1⟩) hg; replace ah := rB_ (ok := (o2 af ae)) hp_ ah (fun _ hk => ⟨⟨hk.2.1, hk.2.2⟩, hk.1⟩) hg; replace am := gR_ an am hg; replace al := gR_ an al hg; replace ai := gR_ an ai hg; replace ap := gR_ an ap hg; replace an := A_ (hp_); replace HB := A_ ((by rw [hw]; exact below_set (HB.o) GB105.o : Below w.heap.size w w114)); clear hg hw hp_; have e9 : 0 ≤ ((bl) : Int) := oa_; have fl : (bl) < (be.length : Int) := (by have h_ : ((bl) : Int) < ((ar.length : Int) : Int) := oa_; first | (have e_ := (Kd.R_reads' an.o).1; omega) | simpa only [cd.o, List.length_set] using h_); have kh : (((bl) : Int) < ((ar.length : Int) : Int)) = True := eq_true oa_; obtain ⟨fY, ig, cQ⟩ := Kd.at_int (Kd.R_reads' an.o).2.2 (bl) e9 fl; obtain rfl : (⟨bc, 0, none⟩ : Addr) = fY := (by injection ig); (first | simp only [add_plain] at cQ | simp only [add_at] at cQ | simp only [Addr.add, Nat.zero_add] at cQ | skip); replace e9 := eq_true e9; replace fl := eq_true fl; have e3 : 0 ≤ ((bl) : Int) := oa_; have ff : ((bl) : Int) < ((ar.length : Int) : Int) := oa_; obtain ⟨hz, g5⟩ := Kd.R_celln 0 an.o ((bl) : Int) e3 ff; replace e3 := eq_true e3; replace ff := eq_true ff; obtain ⟨hy115_, hz115_⟩ := Kd.R_celln 0 an.o ((bl) : Int) oa_ oa_; have dw := Kd.R_putg an.o ((bl) : Int) (wrap64 ((rd be (bl)) + 1))) | ((with_reducible refine gate_store (t := 3) (p := 135) rfl ?_); refine store_event (t := 3) (p := 135) (w1 := (w114.setCell ⟨bc, ((bl) : Int).toNat, none⟩ (.int .i64 (wrap64 ((rd be (bl)) + 1))))) rfl rfl rfl (by go_simp; done) ?_; intro w116 hw; have hg : w114.grownBy w116 (some bc) := (by rw [hw]; exact dw.2); have hp_ : Kd.R (Kd.int .i64) 3 w116 w.heap.size (o3 af ae ag) (.slice (some ⟨bc, 0, none⟩) ar.length eq) fu := (by rw [hw, fS.o]; exact dw.1); clear dw; replace aG := sA_ (ok := (o4 (.slice (some bg) ac.length aQ) af ae ag)) hp_ aG hg; replace ab := sA_ (ok := (o4 u12 af ae ag)) hp_ ab hg; replace aa := rA_ (ok := (o2 ae ag)) hp_ aa hg; replace aj := rA_ (ok := (o2 af ag)) hp_ aj hg; replace ak := rA_ (ok := (o5 u12 (.slice (some bg) ac.length aQ) af ae ag)) hp_ ak hg; replace ah := rA_ (ok := (o2 af ae)) hp_ ah hg; replace am := gR_ an am hg; replace al := gR_ an al hg; replace ai := gR_ an ai hg; replace ap := gR_ an ap hg; replace an := A_ (hp_); replace HB := A_ ((by rw [hw]; exact below_set (HB.o) GB105.o : Below w.heap.size w w116)); clear hg hw hp_))
                                (try subst bq)
                                (try subst bD)
                                (try subst bR)
                                (try subst cH)
                                go_roundg kj94
                                case measure => have := b2.o; have := b3.o; have := cb.o; have := cc.o; have := ch.o; have := bK.o; omega
                                case rel => exact ⟨(fu), (wrap64 (ao + 1)), (by rfl), H', ⟨by have := b2.o; have := b3.o; have := cb.o; have := cc.o; have := ch.o; have := bK.o; omega⟩, ⟨by exact Kd.S_mono aG.o (fun _ hk => ⟨hk.2, ⟨hk.1.1, ⟨hk.1.2.1, ⟨hk.1.2.2.1, hk.1.2.2.2⟩⟩⟩⟩)⟩, ⟨an.o⟩, ⟨by exact Kd.S_mono ab.o (fun _ hk => ⟨hk.1.1, ⟨hk.2, ⟨hk.1.2.1, ⟨hk.1.2.2.1, hk.1.2.2.2⟩⟩⟩⟩)⟩, ⟨by exact Kd.R_mono aa.o (fun _ hk => ⟨hk.2, ⟨hk.1.1, hk.1.2⟩⟩)⟩, ⟨by exact Kd.R_mono aj.o (fun _ hk => ⟨hk.2, ⟨hk.1.1, hk.1.2⟩⟩)⟩, ⟨by exact Kd.R_mono ak.o (fun _ hk => ⟨hk.1.1, ⟨hk.2, ⟨hk.1.2.1, ⟨hk.1.2.2.1, ⟨hk.1.2.2.2.1, hk.1.2.2.2.2⟩⟩⟩⟩⟩)⟩, ⟨by exact Kd.R_mono ah.o (fun _ hk => ⟨hk.2, ⟨hk.1.1, hk.1.2⟩⟩)⟩, ⟨am.o⟩, ⟨al.o⟩, ⟨ai.o⟩, ⟨ap.o⟩, ⟨HB.o⟩⟩
                               rw [if_neg c110] at H
                               cases H
                              rw [if_neg c109] at H
                              cases H
                             rw [if_neg c107] at H; have eO := decide_eq_false c107; clear c107
                             by_cases c117 : aN ≥ (ac.length : Int)
                             ·rw [if_pos c117] at H
                              have eP : decide ((ac.length : Int) ≤ aN) = true := decide_eq_true c117
                              clear c117; obtain ⟨bm, cI⟩ : ∃ j_ : Int, (wrap64 ((ac.length : Int) + (rd (rd_L1 ac (aC)) ao))) = j_ := ⟨_, rfl⟩; replace H : (if 0 ≤ (bm) then (if (bm) < (ar.length : Int) then (spec_CountingForm.l3 kj94 (ac.length : Int) a4 a9 aN (be.set ((bm) : Int).toNat (wrap64 ((rd be (bm)) + 1))) (wrap64 (ao + 1)) ay ac av ay aw au ax) else (none)) else (none)) = some (r1, r2, r3, r4, r5) := by first | (rw [cI] at H; exact H) | (simp only [cI] at H ⊢; exact H)
                              have ht : (IntKind.i64.wrap ((ac.length : Int) + (rd (rd_L1 ac (aC)) ao))) = bm := (i64_w _).trans cI
                              by_cases c119 : 0 ≤ (bm)
                              ·rw [if_pos c119] at H; have hX := decide_eq_true c119; clear c119
                               by_cases c120 : (bm) < (ar.length : Int)
                               ·rw [if_pos c120] at H; have hY := decide_eq_true c120; clear c120; obtain ⟨fv, d0⟩ := ex_ ((be.set ((bm) : Int).toNat (wrap64 ((rd be (bm)) + 1))) : List Int); replace H : (spec_CountingForm.l3 kj94 (ac.length : Int) a4 a9 aN fv (wrap64 (ao + 1)) ay ac av ay aw au ax) = some (r1, r2, r3, r4, r5) := by (rw [d0]; with_reducible exact H)
                                have fT := A_ d0; clear d0
                                have H' := A_ H
                                clear H; obtain ⟨i3, er, gt⟩ := Kd.R_slice an.o; subst gt
                                have bO : 0 ≤ ((rd (rd_L1 ac (aC)) ao) : Int) := oa_
                                have bQ : (rd (rd_L1 ac (aC)) ao) < (ar.length : Int) := oa_
                                obtain ⟨dk, cG, bz⟩ := Kd.at_int (Kd.R_reads' an.o).2.2 (rd (rd_L1 ac (aC)) ao) bO bQ
                                cases cG
                                replace bO := eq_true bO; replace bQ := eq_true bQ
                                have bN : 0 ≤ ((rd (rd_L1 ac (aC)) ao) : Int) := oa_
                                have bP : ((rd (rd_L1 ac (aC)) ao) : Int) < ((ar.length : Int) : Int) := oa_
                                obtain ⟨bc, dl, bI, bJ, gl105, cl105, HG105⟩ := Kd.R_form an.o (by omega)
                                (first | cases bI | (injection bI with ea_ en_ ec_; (first | subst ea_ | (injection ea_ with ea_; subst ea_)); subst ec_; clear en_))
                                have GB105 := A_ bJ; have GG105 := A_ HG105; clear bJ gl105 HG105
                                (first | simp only [add_plain] at bz | skip)
                                obtain ⟨cj, ci⟩ := Kd.R_celln 0 an.o ((rd (rd_L1 ac (aC)) ao) : Int) bN bP; replace bN := eq_true bN; replace bP := eq_true bP; have dx := Kd.R_putg an.o ((rd (rd_L1 ac (aC)) ao) : Int) (wrap64 ((rd ar (rd (rd_L1 ac (aC)) ao)) + 1))
                                go_wp2_with (first | ((with_reducible refine gate_store (t := 3) (p := 110) rfl ?_); refine store_event (t := 3) (p := 110) (w1 := (wc.setCell ⟨bc, ((rd (rd_L1 ac (aC)) ao) : Int).toNat, none⟩ (.int .i64 (wrap64 ((rd ar (rd (rd_L1 ac (aC)) ao)) + 1))))) rfl rfl rfl (by go_simp; done) ?_; intro w124 hw; have hg : wc.grownBy w124 (some bc) := (by rw [hw]; exact dx.2); have hp_ : Kd.R (Kd.int .i64) 3 w124 w.heap.size (o3 af ae ag) (.slice (some ⟨bc, 0, none⟩) ar.length er) be := (by rw [hw, cd.o]; exact dx.1); clear dx; replace aG := sB_ (ok := (o4 (.slice (some bg) ac.length aQ) af ae ag)) hp_ aG (fun _ hk => ⟨⟨hk.2.1, ⟨hk.2.2.1, ⟨hk.2.2.2.1, hk.2.2.2.2⟩⟩⟩, hk.1⟩) hg; replace ab := sB_ (ok := (o4 u12 af ae ag)) hp_ ab (fun _ hk => ⟨⟨hk.1, ⟨hk.2.2.1, ⟨hk.2.2.2.1, hk.2.2.2.2⟩⟩⟩, hk.2.1⟩) hg; replace aa := rB_ (ok := (o2 ae ag)) hp_ aa (fun _ hk => ⟨⟨hk.2.1, hk.2.2⟩, hk.1⟩) hg; replace aj := rB_ (ok := (o2 af ag)) hp_ aj (fun _ hk => ⟨⟨hk.2.1, hk.2.2⟩, hk.1⟩) hg; replace ak := rB_ (ok := (o5 u12 (.slice (some bg) ac.length aQ) af ae ag)) hp_ ak (fun _ hk => ⟨⟨hk.1, ⟨hk.2.2.1, ⟨hk.2.2.2.1, ⟨hk.2.2.2.2.1, hk.2.2.2.2.2⟩⟩⟩⟩, hk.2.1⟩) hg; replace ah := rB_ (ok := (o2 af ae)) hp_ ah (fun _ hk => ⟨⟨hk.2.1, hk.2.2⟩, hk.1⟩) hg; replace am := gR_ an am hg; replace al := gR_ an al hg; replace ai := gR_ an ai hg; replace ap := gR_ an ap hg; replace an := A_ (hp_); replace HB := A_ ((by rw [hw]; exact below_set (HB.o) GB105.o : Below w.heap.size w w124)); clear hg hw hp_; have fa : 0 ≤ ((bm) : Int) := oa_; have fm : (bm) < (be.length : Int) := (by have h_ : ((bm) : Int) < ((ar.length : Int) : Int) := oa_; first | (have e_ := (Kd.R_reads' an.o).1; omega) | simpa only [cd.o, List.length_set] using h_); have ki : (((bm) : Int) < ((ar.length : Int) : Int)) = True := eq_true oa_; obtain ⟨fZ, ii, cS⟩ := Kd.at_int (Kd.R_reads' an.o).2.2 (bm) fa fm; obtain rfl : (⟨bc, 0, none⟩ : Addr) = fZ := (by injection ii); (first | simp only [add_plain] at cS | simp only [add_at] at cS | simp only [Addr.add, Nat.zero_add] at cS | skip); replace fa := eq_true fa; replace fm := eq_true fm; have e4 : 0 ≤ ((bm) : Int) := oa_; have fg : ((bm) : Int) < ((ar.length : Int) : Int) := oa_; obtain ⟨hC, g6⟩ := Kd.R_celln 0 an.o ((bm) : Int) e4 fg; replace e4 := eq_true e4; replace fg := eq_true fg; obtain ⟨hy125_, hz125_⟩ := Kd.R_celln 0 an.o ((bm) : Int) oa_ oa_; have dy := Kd.R_putg an.o ((bm) : Int) (wrap64 ((rd be (bm)) + 1))) | ((with_reducible refine gate_store (t := 3) (p := 135) rfl ?_); refine store_event (t := 3) (p := 135) (w1 := (w124.setCell ⟨bc, ((bm) : Int).toNat, none⟩ (.int .i64 (wrap64 ((rd be (bm)) + 1))))) rfl rfl rfl (by go_simp; done) ?_; intro w126 hw; have hg : w124.grownBy w126 (some bc) := (by rw [hw]; exact dy.2); have hp_ : Kd.R (Kd.int .i64) 3 w126 w.heap.size (o3 af ae ag) (.slice (some ⟨bc, 0, none⟩) ar.length er) fv := (by rw [hw, fT.o]; exact dy.1); clear dy; replace aG := sA_ (ok := (o4 (.slice (some bg) ac.length aQ) af ae ag)) hp_ aG hg; replace ab := sA_ (ok := (o4 u12 af ae ag)) hp_ ab hg; replace aa := rA_ (ok := (o2 ae ag)) hp_ aa hg; replace aj := rA_ (ok := (o2 af ag)) hp_ aj hg; replace ak := rA_ (ok := (o5 u12 (.slice (some bg) ac.length aQ) af ae ag)) hp_ ak hg; replace ah := rA_ (ok := (o2 af ae)) hp_ ah hg; replace am := gR_ an am hg; replace al := gR_ an al hg; replace ai := gR_ an ai hg; replace ap := gR_ an ap hg; replace an := A_ (hp_); replace HB := A_ ((by rw [hw]; exact below_set (HB.o) GB105.o : Below w.heap.size w w126)); clear hg hw hp_))
                                (try subst bq)
                                (try subst bD)
                                (try subst bR)
                                (try subst cI)
                                go_roundg kj94
                                case measure => have := b2.o; have := b3.o; have := cb.o; have := cc.o; have := ch.o; have := bK.o; omega
                                case rel => exact ⟨(fv), (wrap64 (ao + 1)), (by rfl), H', ⟨by have := b2.o; have := b3.o; have := cb.o; have := cc.o; have := ch.o; have := bK.o; omega⟩, ⟨by exact Kd.S_mono aG.o (fun _ hk => ⟨hk.2, ⟨hk.1.1, ⟨hk.1.2.1, ⟨hk.1.2.2.1, hk.1.2.2.2⟩⟩⟩⟩)⟩, ⟨an.o⟩, ⟨by exact Kd.S_mono ab.o (fun _ hk => ⟨hk.1.1, ⟨hk.2, ⟨hk.1.2.1, ⟨hk.1.2.2.1, hk.1.2.2.2⟩⟩⟩⟩)⟩, ⟨by exact Kd.R_mono aa.o (fun _ hk => ⟨hk.2, ⟨hk.1.1, hk.1.2⟩⟩)⟩, ⟨by exact Kd.R_mono aj.o (fun _ hk => ⟨hk.2, ⟨hk.1.1, hk.1.2⟩⟩)⟩, ⟨by exact Kd.R_mono ak.o (fun _ hk => ⟨hk.1.1, ⟨hk.2, ⟨hk.1.2.1, ⟨hk.1.2.2.1, ⟨hk.1.2.2.2.1, hk.1.2.2.2.2⟩⟩⟩⟩⟩)⟩, ⟨by exact Kd.R_mono ah.o (fun _ hk => ⟨hk.2, ⟨hk.1.1, hk.1.2⟩⟩)⟩, ⟨am.o⟩, ⟨al.o⟩, ⟨ai.o⟩, ⟨ap.o⟩, ⟨HB.o⟩⟩
                               rw [if_neg c120] at H
                               cases H
                              rw [if_neg c119] at H
                              cases H
                             rw [if_neg c117] at H
                             have eP : decide ((ac.length : Int) ≤ aN) = false := decide_eq_false c117
                             clear c117
                             have H' := A_ H
                             clear H; obtain ⟨i4, gg, gu⟩ := Kd.R_slice an.o; subst gu
                             have bO : 0 ≤ ((rd (rd_L1 ac (aC)) ao) : Int) := oa_
                             have bQ : (rd (rd_L1 ac (aC)) ao) < (ar.length : Int) := oa_
                             obtain ⟨dk, cG, bz⟩ := Kd.at_int (Kd.R_reads' an.o).2.2 (rd (rd_L1 ac (aC)) ao) bO bQ
                             cases cG
                             replace bO := eq_true bO; replace bQ := eq_true bQ
                             have bN : 0 ≤ ((rd (rd_L1 ac (aC)) ao) : Int) := oa_
                             have bP : ((rd (rd_L1 ac (aC)) ao) : Int) < ((ar.length : Int) : Int) := oa_
                             obtain ⟨bc, dl, bI, bJ, gl105, cl105, HG105⟩ := Kd.R_form an.o (by omega)
                             (first | cases bI | (injection bI with ea_ en_ ec_; (first | subst ea_ | (injection ea_ with ea_; subst ea_)); subst ec_; clear en_))
                             have GB105 := A_ bJ; have GG105 := A_ HG105; clear bJ gl105 HG105
                             (first | simp only [add_plain] at bz | skip)
                             obtain ⟨cj, ci⟩ := Kd.R_celln 0 an.o ((rd (rd_L1 ac (aC)) ao) : Int) bN bP; replace bN := eq_true bN; replace bP := eq_true bP; have dz := Kd.R_putg an.o ((rd (rd_L1 ac (aC)) ao) : Int) (wrap64 ((rd ar (rd (rd_L1 ac (aC)) ao)) + 1))
                             go_wp2_with (first | ((with_reducible refine gate_store (t := 3) (p := 110) rfl ?_); refine store_event (t := 3) (p := 110) (w1 := (wc.setCell ⟨bc, ((rd (rd_L1 ac (aC)) ao) : Int).toNat, none⟩ (.int .i64 (wrap64 ((rd ar (rd (rd_L1 ac (aC)) ao)) + 1))))) rfl rfl rfl (by go_simp; done) ?_; intro w129 hw; have hg : wc.grownBy w129 (some bc) := (by rw [hw]; exact dz.2); have hp_ : Kd.R (Kd.int .i64) 3 w129 w.heap.size (o3 af ae ag) (.slice (some ⟨bc, 0, none⟩) ar.length gg) be := (by rw [hw, cd.o]; exact dz.1); clear dz; replace aG := sB_ (ok := (o4 (.slice (some bg) ac.length aQ) af ae ag)) hp_ aG (fun _ hk => ⟨⟨hk.2.1, ⟨hk.2.2.1, ⟨hk.2.2.2.1, hk.2.2.2.2⟩⟩⟩, hk.1⟩) hg; replace ab := sB_ (ok := (o4 u12 af ae ag)) hp_ ab (fun _ hk => ⟨⟨hk.1, ⟨hk.2.2.1, ⟨hk.2.2.2.1, hk.2.2.2.2⟩⟩⟩, hk.2.1⟩) hg; replace aa := rB_ (ok := (o2 ae ag)) hp_ aa (fun _ hk => ⟨⟨hk.2.1, hk.2.2⟩, hk.1⟩) hg; replace aj := rB_ (ok := (o2 af ag)) hp_ aj (fun _ hk => ⟨⟨hk.2.1, hk.2.2⟩, hk.1⟩) hg; replace ak := rB_ (ok := (o5 u12 (.slice (some bg) ac.length aQ) af ae ag)) hp_ ak (fun _ hk => ⟨⟨hk.1, ⟨hk.2.2.1, ⟨hk.2.2.2.1, ⟨hk.2.2.2.2.1, hk.2.2.2.2.2⟩⟩⟩⟩, hk.2.1⟩) hg; replace ah := rB_ (ok := (o2 af ae)) hp_ ah (fun _ hk => ⟨⟨hk.2.1, hk.2.2⟩, hk.1⟩) hg; replace am := gR_ an am hg; replace al := gR_ an al hg; replace ai := gR_ an ai hg; replace ap := gR_ an ap hg; replace an := A_ (hp_); replace HB := A_ ((by rw [hw]; exact below_set (HB.o) GB105.o : Below w.heap.size w w129)); clear hg hw hp_))
                             (try subst bq)
                             (try subst bD)
                             (try subst bR)
                             go_roundg kj94
                             case measure => have := b2.o; have := b3.o; have := cb.o; have := cc.o; have := ch.o; have := bK.o; omega
                             case rel => exact ⟨(be), (wrap64 (ao + 1)), (by rfl), H', ⟨by have := b2.o; have := b3.o; have := cb.o; have := cc.o; have := ch.o; have := bK.o; omega⟩, ⟨by exact Kd.S_mono aG.o (fun _ hk => ⟨hk.2, ⟨hk.1.1, ⟨hk.1.2.1, ⟨hk.1.2.2.1, hk.1.2.2.2⟩⟩⟩⟩)⟩, ⟨an.o⟩, ⟨by exact Kd.S_mono ab.o (fun _ hk => ⟨hk.1.1, ⟨hk.2, ⟨hk.1.2.1, ⟨hk.1.2.2.1, hk.1.2.2.2⟩⟩⟩⟩)⟩, ⟨by exact Kd.R_mono aa.o (fun _ hk => ⟨hk.2, ⟨hk.1.1, hk.1.2⟩⟩)⟩, ⟨by exact Kd.R_mono aj.o (fun _ hk => ⟨hk.2, ⟨hk.1.1, hk.1.2⟩⟩)⟩, ⟨by exact Kd.R_mono ak.o (fun _ hk => ⟨hk.1.1, ⟨hk.2, ⟨hk.1.2.1, ⟨hk.1.2.2.1, ⟨hk.1.2.2.2.1, hk.1.2.2.2.2⟩⟩⟩⟩⟩)⟩, ⟨by exact Kd.R_mono ah.o (fun _ hk => ⟨hk.2, ⟨hk.1.1, hk.1.2⟩⟩)⟩, ⟨am.o⟩, ⟨al.o⟩, ⟨ai.o⟩, ⟨ap.o⟩, ⟨HB.o⟩⟩
                            rw [if_neg c106] at H; have eN := decide_eq_false c106; clear c106
                            by_cases c130 : aN ≥ (ac.length : Int)
                            ·rw [if_pos c130] at H
                             have eQ : decide ((ac.length : Int) ≤ aN) = true := decide_eq_true c130
                             clear c130; obtain ⟨bn, cJ⟩ : ∃ j_ : Int, (wrap64 ((ac.length : Int) + (rd (rd_L1 ac (aC)) ao))) = j_ := ⟨_, rfl⟩; replace H : (if 0 ≤ (bn) then (if (bn) < (ar.length : Int) then (spec_CountingForm.l3 kj94 (ac.length : Int) a4 a9 aN (be.set ((bn) : Int).toNat (wrap64 ((rd be (bn)) + 1))) (wrap64 (ao + 1)) ay ac av ay aw au ax) else (none)) else (none)) = some (r1, r2, r3, r4, r5) := by first | (rw [cJ] at H; exact H) | (simp only [cJ] at H ⊢; exact H)
                             have hu : (IntKind.i64.wrap ((ac.length : Int) + (rd (rd_L1 ac (aC)) ao))) = bn := (i64_w _).trans cJ
                             by_cases c132 : 0 ≤ (bn)
                             ·rw [if_pos c132] at H; have hZ := decide_eq_true c132; clear c132
                              by_cases c133 : (bn) < (ar.length : Int)
                              ·rw [if_pos c133] at H; have h4 := decide_eq_true c133; clear c133; obtain ⟨fw, d1⟩ := ex_ ((be.set ((bn) : Int).toNat (wrap64 ((rd be (bn)) + 1))) : List Int); replace H : (spec_CountingForm.l3 kj94 (ac.length : Int) a4 a9 aN fw (wrap64 (ao + 1)) ay ac av ay aw au ax) = some (r1, r2, r3, r4, r5) := by (rw [d1]; with_reducible exact H)
                               have fU := A_ d1; clear d1
                               have H' := A_ H
                               clear H; obtain ⟨i5, eu, gv⟩ := Kd.R_slice an.o; subst gv
                               have bO : 0 ≤ ((rd (rd_L1 ac (aC)) ao) : Int) := oa_
                               have bQ : (rd (rd_L1 ac (aC)) ao) < (ar.length : Int) := oa_
                               obtain ⟨dk, cG, bz⟩ := Kd.at_int (Kd.R_reads' an.o).2.2 (rd (rd_L1 ac (aC)) ao) bO bQ
                               cases cG
                               replace bO := eq_true bO; replace bQ := eq_true bQ
                               have bN : 0 ≤ ((rd (rd_L1 ac (aC)) ao) : Int) := oa_
                               have bP : ((rd (rd_L1 ac (aC)) ao) : Int) < ((ar.length : Int) : Int) := oa_
                               obtain ⟨bc, dl, bI, bJ, gl105, cl105, HG105⟩ := Kd.R_form an.o (by omega)
                               (first | cases bI | (injection bI with ea_ en_ ec_; (first | subst ea_ | (injection ea_ with ea_; subst ea_)); subst ec_; clear en_))
                               have GB105 := A_ bJ; have GG105 := A_ HG105; clear bJ gl105 HG105
                               (first | simp only [add_plain] at bz | skip)
                               obtain ⟨cj, ci⟩ := Kd.R_celln 0 an.o ((rd (rd_L1 ac (aC)) ao) : Int) bN bP; replace bN := eq_true bN; replace bP := eq_true bP; have dA := Kd.R_putg an.o ((rd (rd_L1 ac (aC)) ao) : Int) (wrap64 ((rd ar (rd (rd_L1 ac (aC)) ao)) + 1))
                               go_wp2_with (first | ((with_reducible refine gate_store (t := 3) (p := 110) rfl ?_); refine store_event (t := 3) (p := 110) (w1 := (wc.setCell ⟨bc, ((rd (rd_L1 ac (aC)) ao) : Int).toNat, none⟩ (.int .i64 (wrap64 ((rd ar (rd (rd_L1 ac (aC)) ao)) + 1))))) rfl rfl rfl (by go_simp; done) ?_; intro w137 hw; have hg : wc.grownBy w137 (some bc) := (by rw [hw]; exact dA.2); have hp_ : Kd.R (Kd.int .i64) 3 w137 w.heap.size (o3 af ae ag) (.slice (some ⟨bc, 0, none⟩) ar.length eu) be := (by rw [hw, cd.o]; exact dA.1); clear dA; replace aG := sB_ (ok := (o4 (.slice (some bg) ac.length aQ) af ae ag)) hp_ aG (fun _ hk => ⟨⟨hk.2.1, ⟨hk.2.2.1, ⟨hk.2.2.2.1, hk.2.2.2.2⟩⟩⟩, hk.1⟩) hg; replace ab := sB_ (ok := (o4 u12 af ae ag)) hp_ ab (fun _ hk => ⟨⟨hk.1, ⟨hk.2.2.1, ⟨hk.2.2.2.1, hk.2.2.2.2⟩⟩⟩, hk.2.1⟩) hg; replace aa := rB_ (ok := (o2 ae ag)) hp_ aa (fun _ hk => ⟨⟨hk.2.1, hk.2.2⟩, hk.1⟩) hg; replace aj := rB_ (ok := (o2 af ag)) hp_ aj (fun _ hk => ⟨⟨hk.2.1, hk.2.2⟩, hk.1⟩) hg; replace ak := rB_ (ok := (o5 u12 (.slice (some bg) ac.length aQ) af ae ag)) hp_ ak (fun _ hk => ⟨⟨hk.1, ⟨hk.2.2.1, ⟨hk.2.2.2.1, ⟨hk.2.2.2.2.1, hk.2.2.2.2.2⟩⟩⟩⟩, hk.2.1⟩) hg; replace ah := rB_ (ok := (o2 af ae)) hp_ ah (fun _ hk => ⟨⟨hk.2.1, hk.2.2⟩, hk.1⟩) hg; replace am := gR_ an am hg; replace al := gR_ an al hg; replace ai := gR_ an ai hg; replace ap := gR_ an ap hg; replace an := A_ (hp_); replace HB := A_ ((by rw [hw]; exact below_set (HB.o) GB105.o : Below w.heap.size w w137)); clear hg hw hp_; have fb : 0 ≤ ((bn) : Int) := oa_; have fo : (bn) < (be.length : Int) := (by have h_ : ((bn) : Int) < ((ar.length : Int) : Int) := oa_; first | (have e_ := (Kd.R_reads' an.o).1; omega) | simpa only [cd.o, List.length_set] using h_); have kj : (((bn) : Int) < ((ar.length : Int) : Int)) = True := eq_true oa_; obtain ⟨f0, ij, cU⟩ := Kd.at_int (Kd.R_reads' an.o).2.2 (bn) fb fo; obtain rfl : (⟨bc, 0, none⟩ : Addr) = f0 := (by injection ij); (first | simp only [add_plain] at cU | simp only [add_at] at cU | simp only [Addr.add, Nat.zero_add] at cU | skip); replace fb := eq_true fb; replace fo := eq_true fo; have e5 : 0 ≤ ((bn) : Int) := oa_; have fh : ((bn) : Int) < ((ar.length : Int) : Int) := oa_; obtain ⟨hE, g7⟩ := Kd.R_celln 0 an.o ((bn) : Int) e5 fh; replace e5 := eq_true e5; replace fh := eq_true fh; obtain ⟨hy138_, hz138_⟩ := Kd.R_celln 0 an.o ((bn) : Int) oa_ oa_; have dB := Kd.R_putg an.o ((bn) : Int) (wrap64 ((rd be (bn)) + 1))) | ((with_reducible refine gate_store (t := 3) (p := 135) rfl ?_); refine store_event (t := 3) (p := 135) (w1 := (w137.setCell ⟨bc, ((bn) : Int).toNat, none⟩ (.int .i64 (wrap64 ((rd be (bn)) + 1))))) rfl rfl rfl (by go_simp; done) ?_; intro w139 hw; have hg : w137.grownBy w139 (some bc) := (by rw [hw]; exact dB.2); have hp_ : Kd.R (Kd.int .i64) 3 w139 w.heap.size (o3 af ae ag) (.slice (some ⟨bc, 0, none⟩) ar.length eu) fw := (by rw [hw, fU.o]; exact dB.1); clear dB; replace aG := sA_ (ok := (o4 (.slice (some bg) ac.length aQ) af ae ag)) hp_ aG hg; replace ab := sA_ (ok := (o4 u12 af ae ag)) hp_ ab hg; replace aa := rA_ (ok := (o2 ae ag)) hp_ aa hg; replace aj := rA_ (ok := (o2 af ag)) hp_ aj hg; replace ak := rA_ (ok := (o5 u12 (.slice (some bg) ac.length aQ) af ae ag)) hp_ ak hg; replace ah := rA_ (ok := (o2 af ae)) hp_ ah hg; replace am := gR_ an am hg; replace al := gR_ an al hg; replace ai := gR_ an ai hg; replace ap := gR_ an ap hg; replace an := A_ (hp_); replace HB := A_ ((by rw [hw]; exact below_set (HB.o) GB105.o : Below w.heap.size w w139)); clear hg hw hp_))
                               (try subst bq)
                               (try subst bD)
                               (try subst bR)
                               (try subst cJ)
                               go_roundg kj94
                               case measure => have := b2.o; have := b3.o; have := cb.o; have := cc.o; have := ch.o; have := bK.o; omega
                               case rel => exact ⟨(fw), (wrap64 (ao + 1)), (by rfl), H', ⟨by have := b2.o; have := b3.o; have := cb.o; have := cc.o; have := ch.o; have := bK.o; omega⟩, ⟨by exact Kd.S_mono aG.o (fun _ hk => ⟨hk.2, ⟨hk.1.1, ⟨hk.1.2.1, ⟨hk.1.2.2.1, hk.1.2.2.2⟩⟩⟩⟩)⟩, ⟨an.o⟩, ⟨by exact Kd.S_mono ab.o (fun _ hk => ⟨hk.1.1, ⟨hk.2, ⟨hk.1.2.1, ⟨hk.1.2.2.1, hk.1.2.2.2⟩⟩⟩⟩)⟩, ⟨by exact Kd.R_mono aa.o (fun _ hk => ⟨hk.2, ⟨hk.1.1, hk.1.2⟩⟩)⟩, ⟨by exact Kd.R_mono aj.o (fun _ hk => ⟨hk.2, ⟨hk.1.1, hk.1.2⟩⟩)⟩, ⟨by exact Kd.R_mono ak.o (fun _ hk => ⟨hk.1.1, ⟨hk.2, ⟨hk.1.2.1, ⟨hk.1.2.2.1, ⟨hk.1.2.2.2.1, hk.1.2.2.2.2⟩⟩⟩⟩⟩)⟩, ⟨by exact Kd.R_mono ah.o (fun _ hk => ⟨hk.2, ⟨hk.1.1, hk.1.2⟩⟩)⟩, ⟨am.o⟩, ⟨al.o⟩, ⟨ai.o⟩, ⟨ap.o⟩, ⟨HB.o⟩⟩
                              rw [if_neg c133] at H
                              cases H
                             rw [if_neg c132] at H
                             cases H
                            rw [if_neg c130] at H
                            have eQ : decide ((ac.length : Int) ≤ aN) = false := decide_eq_false c130
                            clear c130
                            have H' := A_ H
                            clear H; obtain ⟨i6, gh, gw⟩ := Kd.R_slice an.o; subst gw
                            have bO : 0 ≤ ((rd (rd_L1 ac (aC)) ao) : Int) := oa_
                            have bQ : (rd (rd_L1 ac (aC)) ao) < (ar.length : Int) := oa_
                            obtain ⟨dk, cG, bz⟩ := Kd.at_int (Kd.R_reads' an.o).2.2 (rd (rd_L1 ac (aC)) ao) bO bQ
                            cases cG
                            replace bO := eq_true bO; replace bQ := eq_true bQ
                            have bN : 0 ≤ ((rd (rd_L1 ac (aC)) ao) : Int) := oa_
                            have bP : ((rd (rd_L1 ac (aC)) ao) : Int) < ((ar.length : Int) : Int) := oa_
                            obtain ⟨bc, dl, bI, bJ, gl105, cl105, HG105⟩ := Kd.R_form an.o (by omega)
                            (first | cases bI | (injection bI with ea_ en_ ec_; (first | subst ea_ | (injection ea_ with ea_; subst ea_)); subst ec_; clear en_))
                            have GB105 := A_ bJ; have GG105 := A_ HG105; clear bJ gl105 HG105
                            (first | simp only [add_plain] at bz | skip)
                            obtain ⟨cj, ci⟩ := Kd.R_celln 0 an.o ((rd (rd_L1 ac (aC)) ao) : Int) bN bP; replace bN := eq_true bN; replace bP := eq_true bP; have dC := Kd.R_putg an.o ((rd (rd_L1 ac (aC)) ao) : Int) (wrap64 ((rd ar (rd (rd_L1 ac (aC)) ao)) + 1))
                            go_wp2_with (first | ((with_reducible refine gate_store (t := 3) (p := 110) rfl ?_); refine store_event (t := 3) (p := 110) (w1 := (wc.setCell ⟨bc, ((rd (rd_L1 ac (aC)) ao) : Int).toNat, none⟩ (.int .i64 (wrap64 ((rd ar (rd (rd_L1 ac (aC)) ao)) + 1))))) rfl rfl rfl (by go_simp; done) ?_; intro w142 hw; have hg : wc.grownBy w142 (some bc) := (by rw [hw]; exact dC.2); have hp_ : Kd.R (Kd.int .i64) 3 w142 w.heap.size (o3 af ae ag) (.slice (some ⟨bc, 0, none⟩) ar.length gh) be := (by rw [hw, cd.o]; exact dC.1); clear dC; replace aG := sB_ (ok := (o4 (.slice (some bg) ac.length aQ) af ae ag)) hp_ aG (fun _ hk => ⟨⟨hk.2.1, ⟨hk.2.2.1, ⟨hk.2.2.2.1, hk.2.2.2.2⟩⟩⟩, hk.1⟩) hg; replace ab := sB_ (ok := (o4 u12 af ae ag)) hp_ ab (fun _ hk => ⟨⟨hk.1, ⟨hk.2.2.1, ⟨hk.2.2.2.1, hk.2.2.2.2⟩⟩⟩, hk.2.1⟩) hg; replace aa := rB_ (ok := (o2 ae ag)) hp_ aa (fun _ hk => ⟨⟨hk.2.1, hk.2.2⟩, hk.1⟩) hg; replace aj := rB_ (ok := (o2 af ag)) hp_ aj (fun _ hk => ⟨⟨hk.2.1, hk.2.2⟩, hk.1⟩) hg; replace ak := rB_ (ok := (o5 u12 (.slice (some bg) ac.length aQ) af ae ag)) hp_ ak (fun _ hk => ⟨⟨hk.1, ⟨hk.2.2.1, ⟨hk.2.2.2.1, ⟨hk.2.2.2.2.1, hk.2.2.2.2.2⟩⟩⟩⟩, hk.2.1⟩) hg; replace ah := rB_ (ok := (o2 af ae)) hp_ ah (fun _ hk => ⟨⟨hk.2.1, hk.2.2⟩, hk.1⟩) hg; replace am := gR_ an am hg; replace al := gR_ an al hg; replace ai := gR_ an ai hg; replace ap := gR_ an ap hg; replace an := A_ (hp_); replace HB := A_ ((by rw [hw]; exact below_set (HB.o) GB105.o : Below w.heap.size w w142)); clear hg hw hp_))
                            (try subst bq)
                            (try subst bD)
                            (try subst bR)
                            go_roundg kj94
                            case measure => have := b2.o; have := b3.o; have := cb.o; have := cc.o; have := ch.o; have := bK.o; omega
                            case rel => exact ⟨(be), (wrap64 (ao + 1)), (by rfl), H', ⟨by have := b2.o; have := b3.o; have := cb.o; have := cc.o; have := ch.o; have := bK.o; omega⟩, ⟨by exact Kd.S_mono aG.o (fun _ hk => ⟨hk.2, ⟨hk.1.1, ⟨hk.1.2.1, ⟨hk.1.2.2.1, hk.1.2.2.2⟩⟩⟩⟩)⟩, ⟨an.o⟩, ⟨by exact Kd.S_mono ab.o (fun _ hk => ⟨hk.1.1, ⟨hk.2, ⟨hk.1.2.1, ⟨hk.1.2.2.1, hk.1.2.2.2⟩⟩⟩⟩)⟩, ⟨by exact Kd.R_mono aa.o (fun _ hk => ⟨hk.2, ⟨hk.1.1, hk.1.2⟩⟩)⟩, ⟨by exact Kd.R_mono aj.o (fun _ hk => ⟨hk.2, ⟨hk.1.1, hk.1.2⟩⟩)⟩, ⟨by exact Kd.R_mono ak.o (fun _ hk => ⟨hk.1.1, ⟨hk.2, ⟨hk.1.2.1, ⟨hk.1.2.2.1, ⟨hk.1.2.2.2.1, hk.1.2.2.2.2⟩⟩⟩⟩⟩)⟩, ⟨by exact Kd.R_mono ah.o (fun _ hk => ⟨hk.2, ⟨hk.1.1, hk.1.2⟩⟩)⟩, ⟨am.o⟩, ⟨al.o⟩, ⟨ai.o⟩, ⟨ap.o⟩, ⟨HB.o⟩⟩
                           rw [if_neg c104] at H
                           cases H
                          rw [if_neg c103] at H
                          cases H
                         replace c102 := Bool.eq_false_iff.mpr c102; subst c102; rw [if_neg nf_] at H
                         by_cases c143 : aN < (ac.length : Int)
                         ·rw [if_pos c143] at H; have eR := decide_eq_true c143; clear c143
                          by_cases c144 : ao < a4
                          ·rw [if_pos c144] at H; have eS := decide_eq_true c144; clear c144; obtain ⟨bs, cK⟩ : ∃ j_ : Int, (wrap64 ((ac.length : Int) + (rd (rd_L1 ac (aC)) ao))) = j_ := ⟨_, rfl⟩; replace H : (if 0 ≤ (bs) then (if (bs) < (ar.length : Int) then (spec_CountingForm.l3 kj94 (ac.length : Int) a4 a9 aN (ar.set ((bs) : Int).toNat (wrap64 ((rd ar (bs)) + 1))) (wrap64 (ao + 1)) ay ac av ay aw au ax) else (none)) else (none)) = some (r1, r2, r3, r4, r5) := by first | (rw [cK] at H; exact H) | (simp only [cK] at H ⊢; exact H)
                           have hv : (IntKind.i64.wrap ((ac.length : Int) + (rd (rd_L1 ac (aC)) ao))) = bs := (i64_w _).trans cK
                           by_cases c146 : 0 ≤ (bs)
                           ·rw [if_pos c146] at H; have h5 := decide_eq_true c146; clear c146
                            by_cases c147 : (bs) < (ar.length : Int)
                            ·rw [if_pos c147] at H; have h6 := decide_eq_true c147; clear c147; obtain ⟨fx, d2⟩ := ex_ ((ar.set ((bs) : Int).toNat (wrap64 ((rd ar (bs)) + 1))) : List Int); replace H : (spec_CountingForm.l3 kj94 (ac.length : Int) a4 a9 aN fx (wrap64 (ao + 1)) ay ac av ay aw au ax) = some (r1, r2, r3, r4, r5) := by (rw [d2]; with_reducible exact H)
                             have fV := A_ d2; clear d2
                             have H' := A_ H
                             clear H; obtain ⟨i7, gi, gx⟩ := Kd.R_slice an.o; subst gx
                             have fc : 0 ≤ ((bs) : Int) := oa_
                             have fp : (bs) < (ar.length : Int) := oa_
                             obtain ⟨jd, ik, ef⟩ := Kd.at_int (Kd.R_reads' an.o).2.2 (bs) fc fp
                             cases ik
                             replace fc := eq_true fc; replace fp := eq_true fp
                             have e6 : 0 ≤ ((bs) : Int) := oa_
                             have fi : ((bs) : Int) < ((ar.length : Int) : Int) := oa_
                             obtain ⟨dL, jq, ev, ey, gl148, cl148, HG148⟩ := Kd.R_form an.o (by omega)
                             (first | cases ev | (injection ev with ea_ en_ ec_; (first | subst ea_ | (injection ea_ with ea_; subst ea_)); subst ec_; clear en_))
                             have GB148 := A_ ey; have GG148 := A_ HG148; clear ey gl148 HG148
                             (first | simp only [add_plain] at ef | skip)
                             obtain ⟨hF, g8⟩ := Kd.R_celln 0 an.o ((bs) : Int) e6 fi; replace e6 := eq_true e6; replace fi := eq_true fi; have dD := Kd.R_putg an.o ((bs) : Int) (wrap64 ((rd ar (bs)) + 1))
                             go_wp2_with (first | ((with_reducible refine gate_store (t := 3) (p := 135) rfl ?_); refine store_event (t := 3) (p := 135) (w1 := (wc.setCell ⟨dL, ((bs) : Int).toNat, none⟩ (.int .i64 (wrap64 ((rd ar (bs)) + 1))))) rfl rfl rfl (by go_simp; done) ?_; intro w151 hw; have hg : wc.grownBy w151 (some dL) := (by rw [hw]; exact dD.2); have hp_ : Kd.R (Kd.int .i64) 3 w151 w.heap.size (o3 af ae ag) (.slice (some ⟨dL, 0, none⟩) ar.length gi) fx := (by rw [hw, fV.o]; exact dD.1); clear dD; replace aG := sB_ (ok := (o4 (.slice (some bg) ac.length aQ) af ae ag)) hp_ aG (fun _ hk => ⟨⟨hk.2.1, ⟨hk.2.2.1, ⟨hk.2.2.2.1, hk.2.2.2.2⟩⟩⟩, hk.1⟩) hg; replace ab := sB_ (ok := (o4 u12 af ae ag)) hp_ ab (fun _ hk => ⟨⟨hk.1, ⟨hk.2.2.1, ⟨hk.2.2.2.1, hk.2.2.2.2⟩⟩⟩, hk.2.1⟩) hg; replace aa := rB_ (ok := (o2 ae ag)) hp_ aa (fun _ hk => ⟨⟨hk.2.1, hk.2.2⟩, hk.1⟩) hg; replace aj := rB_ (ok := (o2 af ag)) hp_ aj (fun _ hk => ⟨⟨hk.2.1, hk.2.2⟩, hk.1⟩) hg; replace ak := rB_ (ok := (o5 u12 (.slice (some bg) ac.length aQ) af ae ag)) hp_ ak (fun _ hk => ⟨⟨hk.1, ⟨hk.2.2.1, ⟨hk.2.2.2.1, ⟨hk.2.2.2.2.1, hk.2.2.2.2.2⟩⟩⟩⟩, hk.2.1⟩) hg; replace ah := rB_ (ok := (o2 af ae)) hp_ ah (fun _ hk => ⟨⟨hk.2.1, hk.2.2⟩, hk.1⟩) hg; replace am := gR_ an am hg; replace al := gR_ an al hg; replace ai := gR_ an ai hg; replace ap := gR_ an ap hg; replace an := A_ (hp_); replace HB := A_ ((by rw [hw]; exact below_set (HB.o) GB148.o : Below w.heap.size w w151)); clear hg hw hp_))
                             (try subst bq)
                             (try subst bD)
                             (try subst bR)
                             (try subst cK)
                             go_roundg kj94
                             case measure => have := b2.o; have := b3.o; have := cb.o; have := cc.o; have := ch.o; have := bK.o; omega
                             case rel => exact ⟨(fx), (wrap64 (ao + 1)), (by rfl), H', ⟨by have := b2.o; have := b3.o; have := cb.o; have := cc.o; have := ch.o; have := bK.o; omega⟩, ⟨by exact Kd.S_mono aG.o (fun _ hk => ⟨hk.2, ⟨hk.1.1, ⟨hk.1.2.1, ⟨hk.1.2.2.1, hk.1.2.2.2⟩⟩⟩⟩)⟩, ⟨an.o⟩, ⟨by exact Kd.S_mono ab.o (fun _ hk => ⟨hk.1.1, ⟨hk.2, ⟨hk.1.2.1, ⟨hk.1.2.2.1, hk.1.2.2.2⟩⟩⟩⟩)⟩, ⟨by exact Kd.R_mono aa.o (fun _ hk => ⟨hk.2, ⟨hk.1.1, hk.1.2⟩⟩)⟩, ⟨by exact Kd.R_mono aj.o (fun _ hk => ⟨hk.2, ⟨hk.1.1, hk.1.2⟩⟩)⟩, ⟨by exact Kd.R_mono ak.o (fun _ hk => ⟨hk.1.1, ⟨hk.2, ⟨hk.1.2.1, ⟨hk.1.2.2.1, ⟨hk.1.2.2.2.1, hk.1.2.2.2.2⟩⟩⟩⟩⟩)⟩, ⟨by exact Kd.R_mono ah.o (fun _ hk => ⟨hk.2, ⟨hk.1.1, hk.1.2⟩⟩)⟩, ⟨am.o⟩, ⟨al.o⟩, ⟨ai.o⟩, ⟨ap.o⟩, ⟨HB.o⟩⟩
                            rw [if_neg c147] at H
                            cases H
                           rw [if_neg c146] at H
                           cases H
                          rw [if_neg c144] at H; have eS := decide_eq_false c144; clear c144
                          by_cases c152 : aN ≥ (ac.length : Int)
                          ·rw [if_pos c152] at H
                           have eU : decide ((ac.length : Int) ≤ aN) = true := decide_eq_true c152
                           clear c152; obtain ⟨bt, cL⟩ : ∃ j_ : Int, (wrap64 ((ac.length : Int) + (rd (rd_L1 ac (aC)) ao))) = j_ := ⟨_, rfl⟩; replace H : (if 0 ≤ (bt) then (if (bt) < (ar.length : Int) then (spec_CountingForm.l3 kj94 (ac.length : Int) a4 a9 aN (ar.set ((bt) : Int).toNat (wrap64 ((rd ar (bt)) + 1))) (wrap64 (ao + 1)) ay ac av ay aw au ax) else (none)) else (none)) = some (r1, r2, r3, r4, r5) := by first | (rw [cL] at H; exact H) | (simp only [cL] at H ⊢; exact H)
                           have hx : (IntKind.i64.wrap ((ac.length : Int) + (rd (rd_L1 ac (aC)) ao))) = bt := (i64_w _).trans cL
                           by_cases c154 : 0 ≤ (bt)
                           ·rw [if_pos c154] at H; have h7 := decide_eq_true c154; clear c154
                            by_cases c155 : (bt) < (ar.length : Int)
                            ·rw [if_pos c155] at H; have h8 := decide_eq_true c155; clear c155; obtain ⟨fy, d3⟩ := ex_ ((ar.set ((bt) : Int).toNat (wrap64 ((rd ar (bt)) + 1))) : List Int); replace H : (spec_CountingForm.l3 kj94 (ac.length : Int) a4 a9 aN fy (wrap64 (ao + 1)) ay ac av ay aw au ax) = some (r1, r2, r3, r4, r5) := by (rw [d3]; with_reducible exact H)
                             have fW := A_ d3; clear d3
                             have H' := A_ H
                             clear H; obtain ⟨i8, gj, gy⟩ := Kd.R_slice an.o; subst gy
                             have fd : 0 ≤ ((bt) : Int) := oa_
                             have fq : (bt) < (ar.length : Int) := oa_
                             obtain ⟨je, il, eg⟩ := Kd.at_int (Kd.R_reads' an.o).2.2 (bt) fd fq
                             cases il
                             replace fd := eq_true fd; replace fq := eq_true fq
                             have e7 : 0 ≤ ((bt) : Int) := oa_
                             have fj : ((bt) : Int) < ((ar.length : Int) : Int) := oa_
                             obtain ⟨dM, jr, ew, ez, gl156, cl156, HG156⟩ := Kd.R_form an.o (by omega)
                             (first | cases ew | (injection ew with ea_ en_ ec_; (first | subst ea_ | (injection ea_ with ea_; subst ea_)); subst ec_; clear en_))
                             have GB156 := A_ ez; have GG156 := A_ HG156; clear ez gl156 HG156
                             (first | simp only [add_plain] at eg | skip)
                             obtain ⟨hG, g9⟩ := Kd.R_celln 0 an.o ((bt) : Int) e7 fj; replace e7 := eq_true e7; replace fj := eq_true fj; have dE := Kd.R_putg an.o ((bt) : Int) (wrap64 ((rd ar (bt)) + 1))
                             go_wp2_with (first | ((with_reducible refine gate_store (t := 3) (p := 135) rfl ?_); refine store_event (t := 3) (p := 135) (w1 := (wc.setCell ⟨dM, ((bt) : Int).toNat, none⟩ (.int .i64 (wrap64 ((rd ar (bt)) + 1))))) rfl rfl rfl (by go_simp; done) ?_; intro w159 hw; have hg : wc.grownBy w159 (some dM) := (by rw [hw]; exact dE.2); have hp_ : Kd.R (Kd.int .i64) 3 w159 w.heap.size (o3 af ae ag) (.slice (some ⟨dM, 0, none⟩) ar.length gj) fy := (by rw [hw, fW.o]; exact dE.1); clear dE; replace aG := sB_ (ok := (o4 (.slice (some bg) ac.length aQ) af ae ag)) hp_ aG (fun _ hk => ⟨⟨hk.2.1, ⟨hk.2.2.1, ⟨hk.2.2.2.1, hk.2.2.2.2⟩⟩⟩, hk.1⟩) hg; replace ab := sB_ (ok := (o4 u12 af ae ag)) hp_ ab (fun _ hk => ⟨⟨hk.1, ⟨hk.2.2.1, ⟨hk.2.2.2.1, hk.2.2.2.2⟩⟩⟩, hk.2.1⟩) hg; replace aa := rB_ (ok := (o2 ae ag)) hp_ aa (fun _ hk => ⟨⟨hk.2.1, hk.2.2⟩, hk.1⟩) hg; replace aj := rB_ (ok := (o2 af ag)) hp_ aj (fun _ hk => ⟨⟨hk.2.1, hk.2.2⟩, hk.1⟩) hg; replace ak := rB_ (ok := (o5 u12 (.slice (some bg) ac.length aQ) af ae ag)) hp_ ak (fun _ hk => ⟨⟨hk.1, ⟨hk.2.2.1, ⟨hk.2.2.2.1, ⟨hk.2.2.2.2.1, hk.2.2.2.2.2⟩⟩⟩⟩, hk.2.1⟩) hg; replace ah := rB_ (ok := (o2 af ae)) hp_ ah (fun _ hk => ⟨⟨hk.2.1, hk.2.2⟩, hk.1⟩) hg; replace am := gR_ an am hg; replace al := gR_ an al hg; replace ai := gR_ an ai hg; replace ap := gR_ an ap hg; replace an := A_ (hp_); replace HB := A_ ((by rw [hw]; exact below_set (HB.o) GB156.o : Below w.heap.size w w159)); clear hg hw hp_))
                             (try subst bq)
                             (try subst bD)
                             (try subst bR)
                             (try subst cL)
                             go_roundg kj94
                             case measure => have := b2.o; have := b3.o; have := cb.o; have := cc.o; have := ch.o; have := bK.o; omega
                             case rel => exact ⟨(fy), (wrap64 (ao + 1)), (by rfl), H', ⟨by have := b2.o; have := b3.o; have := cb.o; have := cc.o; have := ch.o; have := bK.o; omega⟩, ⟨by exact Kd.S_mono aG.o (fun _ hk => ⟨hk.2, ⟨hk.1.1, ⟨hk.1.2.1, ⟨hk.1.2.2.1, hk.1.2.2.2⟩⟩⟩⟩)⟩, ⟨an.o⟩, ⟨by exact Kd.S_mono ab.o (fun _ hk => ⟨hk.1.1, ⟨hk.2, ⟨hk.1.2.1, ⟨hk.1.2.2.1, hk.1.2.2.2⟩⟩⟩⟩)⟩, ⟨by exact Kd.R_mono aa.o (fun _ hk => ⟨hk.2, ⟨hk.1.1, hk.1.2⟩⟩)⟩, ⟨by exact Kd.R_mono aj.o (fun _ hk => ⟨hk.2, ⟨hk.1.1, hk.1.2⟩⟩)⟩, ⟨by exact Kd.R_mono ak.o (fun _ hk => ⟨hk.1.1, ⟨hk.2, ⟨hk.1.2.1, ⟨hk.1.2.2.1, ⟨hk.1.2.2.2.1, hk.1.2.2.2.2⟩⟩⟩⟩⟩)⟩, ⟨by exact Kd.R_mono ah.o (fun _ hk => ⟨hk.2, ⟨hk.1.1, hk.1.2⟩⟩)⟩, ⟨am.o⟩, ⟨al.o⟩, ⟨ai.o⟩, ⟨ap.o⟩, ⟨HB.o⟩⟩
                            rw [if_neg c155] at H
                            cases H
                           rw [if_neg c154] at H
                           cases H
                          rw [if_neg c152] at H
                          have eU : decide ((ac.length : Int) ≤ aN) = false := decide_eq_false c152
                          clear c152
                          have H' := A_ H
                          clear H
                          go_wp2
                          (try subst bq)
                          (try subst bD)
                          (try subst bR)
                          go_roundg kj94
                          case measure => have := b2.o; have := b3.o; have := cb.o; have := cc.o; have := ch.o; have := bK.o; omega
                          case rel => exact ⟨(ar), (wrap64 (ao + 1)), (by rfl), H', ⟨by have := b2.o; have := b3.o; have := cb.o; have := cc.o; have := ch.o; have := bK.o; omega⟩, ⟨aG.o⟩, ⟨an.o⟩, ⟨ab.o⟩, ⟨aa.o⟩, ⟨aj.o⟩, ⟨ak.o⟩, ⟨ah.o⟩, ⟨am.o⟩, ⟨al.o⟩, ⟨ai.o⟩, ⟨ap.o⟩, ⟨HB.o⟩⟩
                         rw [if_neg c143] at H; have eR := decide_eq_false c143; clear c143
                         by_cases c160 : aN ≥ (ac.length : Int)
                         ·rw [if_pos c160] at H
                          have eV : decide ((ac.length : Int) ≤ aN) = true := decide_eq_true c160
                          clear c160; obtain ⟨bu, cN⟩ : ∃ j_ : Int, (wrap64 ((ac.length : Int) + (rd (rd_L1 ac (aC)) ao))) = j_ := ⟨_, rfl⟩; replace H : (if 0 ≤ (bu) then (if (bu) < (ar.length : Int) then (spec_CountingForm.l3 kj94 (ac.length : Int) a4 a9 aN (ar.set ((bu) : Int).toNat (wrap64 ((rd ar (bu)) + 1))) (wrap64 (ao + 1)) ay ac av ay aw au ax) else (none)) else (none)) = some (r1, r2, r3, r4, r5) := by first | (rw [cN] at H; exact H) | (simp only [cN] at H ⊢; exact H)
                          have hy : (IntKind.i64.wrap ((ac.length : Int) + (rd (rd_L1 ac (aC)) ao))) = bu := (i64_w _).trans cN
                          by_cases c162 : 0 ≤ (bu)
                          ·rw [if_pos c162] at H; have h9 := decide_eq_true c162; clear c162
                           by_cases c163 : (bu) < (ar.length : Int)
                           ·rw [if_pos c163] at H; have ia := decide_eq_true c163; clear c163; obtain ⟨fz, d4⟩ := ex_ ((ar.set ((bu) : Int).toNat (wrap64 ((rd ar (bu)) + 1))) : List Int); replace H : (spec_CountingForm.l3 kj94 (ac.length : Int) a4 a9 aN fz (wrap64 (ao + 1)) ay ac av ay aw au ax) = some (r1, r2, r3, r4, r5) := by (rw [d4]; with_reducible exact H)
                            have fX := A_ d4; clear d4
                            have H' := A_ H
                            clear H; obtain ⟨i9, gl, gz⟩ := Kd.R_slice an.o; subst gz
                            have fe : 0 ≤ ((bu) : Int) := oa_
                            have fr : (bu) < (ar.length : Int) := oa_
                            obtain ⟨jf, im, eh⟩ := Kd.at_int (Kd.R_reads' an.o).2.2 (bu) fe fr
                            cases im
                            replace fe := eq_true fe; replace fr := eq_true fr
                            have e8 : 0 ≤ ((bu) : Int) := oa_
                            have fk : ((bu) : Int) < ((ar.length : Int) : Int) := oa_
                            obtain ⟨dN, js, ex, eB, gl164, cl164, HG164⟩ := Kd.R_form an.o (by omega)
                            (first | cases ex | (injection ex with ea_ en_ ec_; (first | subst ea_ | (injection ea_ with ea_; subst ea_)); subst ec_; clear en_))
                            have GB164 := A_ eB; have GG164 := A_ HG164; clear eB gl164 HG164
                            (first | simp only [add_plain] at eh | skip)
                            obtain ⟨hH, hf⟩ := Kd.R_celln 0 an.o ((bu) : Int) e8 fk; replace e8 := eq_true e8; replace fk := eq_true fk; have dF := Kd.R_putg an.o ((bu) : Int) (wrap64 ((rd ar (bu)) + 1))
                            go_wp2_with (first | ((with_reducible refine gate_store (t := 3) (p := 135) rfl ?_); refine store_event (t := 3) (p := 135) (w1 := (wc.setCell ⟨dN, ((bu) : Int).toNat, none⟩ (.int .i64 (wrap64 ((rd ar (bu)) + 1))))) rfl rfl rfl (by go_simp; done) ?_; intro w167 hw; have hg : wc.grownBy w167 (some dN) := (by rw [hw]; exact dF.2); have hp_ : Kd.R (Kd.int .i64) 3 w167 w.heap.size (o3 af ae ag) (.slice (some ⟨dN, 0, none⟩) ar.length gl) fz := (by rw [hw, fX.o]; exact dF.1); clear dF; replace aG := sB_ (ok := (o4 (.slice (some bg) ac.length aQ) af ae ag)) hp_ aG (fun _ hk => ⟨⟨hk.2.1, ⟨hk.2.2.1, ⟨hk.2.2.2.1, hk.2.2.2.2⟩⟩⟩, hk.1⟩) hg; replace ab := sB_ (ok := (o4 u12 af ae ag)) hp_ ab (fun _ hk => ⟨⟨hk.1, ⟨hk.2.2.1, ⟨hk.2.2.2.1, hk.2.2.2.2⟩⟩⟩, hk.2.1⟩) hg; replace aa := rB_ (ok := (o2 ae ag)) hp_ aa (fun _ hk => ⟨⟨hk.2.1, hk.2.2⟩, hk.1⟩) hg; replace aj := rB_ (ok := (o2 af ag)) hp_ aj (fun _ hk => ⟨⟨hk.2.1, hk.2.2⟩, hk.1⟩) hg; replace ak := rB_ (ok := (o5 u12 (.slice (some bg) ac.length aQ) af ae ag)) hp_ ak (fun _ hk => ⟨⟨hk.1, ⟨hk.2.2.1, ⟨hk.2.2.2.1, ⟨hk.2.2.2.2.1, hk.2.2.2.2.2⟩⟩⟩⟩, hk.2.1⟩) hg; replace ah := rB_ (ok := (o2 af ae)) hp_ ah (fun _ hk => ⟨⟨hk.2.1, hk.2.2⟩, hk.1⟩) hg; replace am := gR_ an am hg; replace al := gR_ an al hg; replace ai := gR_ an ai hg; replace ap := gR_ an ap hg; replace an := A_ (hp_); replace HB := A_ ((by rw [hw]; exact below_set (HB.o) GB164.o : Below w.heap.size w w167)); clear hg hw hp_))
                            (try subst bq)
                            (try subst bD)
                            (try subst bR)
                            (try subst cN)
                            go_roundg kj94
                            case measure => have := b2.o; have := b3.o; have := cb.o; have := cc.o; have := ch.o; have := bK.o; omega
                            case rel => exact ⟨(fz), (wrap64 (ao + 1)), (by rfl), H', ⟨by have := b2.o; have := b3.o; have := cb.o; have := cc.o; have := ch.o; have := bK.o; omega⟩, ⟨by exact Kd.S_mono aG.o (fun _ hk => ⟨hk.2, ⟨hk.1.1, ⟨hk.1.2.1, ⟨hk.1.2.2.1, hk.1.2.2.2⟩⟩⟩⟩)⟩, ⟨an.o⟩, ⟨by exact Kd.S_mono ab.o (fun _ hk => ⟨hk.1.1, ⟨hk.2, ⟨hk.1.2.1, ⟨hk.1.2.2.1, hk.1.2.2.2⟩⟩⟩⟩)⟩, ⟨by exact Kd.R_mono aa.o (fun _ hk => ⟨hk.2, ⟨hk.1.1, hk.1.2⟩⟩)⟩, ⟨by exact Kd.R_mono aj.o (fun _ hk => ⟨hk.2, ⟨hk.1.1, hk.1.2⟩⟩)⟩, ⟨by exact Kd.R_mono ak.o (fun _ hk => ⟨hk.1.1, ⟨hk.2, ⟨hk.1.2.1, ⟨hk.1.2.2.1, ⟨hk.1.2.2.2.1, hk.1.2.2.2.2⟩⟩⟩⟩⟩)⟩, ⟨by exact Kd.R_mono ah.o (fun _ hk => ⟨hk.2, ⟨hk.1.1, hk.1.2⟩⟩)⟩, ⟨am.o⟩, ⟨al.o⟩, ⟨ai.o⟩, ⟨ap.o⟩, ⟨HB.o⟩⟩
                           rw [if_neg c163] at H
                           cases H
                          rw [if_neg c162] at H
                          cases H
                         rw [if_neg c160] at H
                         have eV : decide ((ac.length : Int) ≤ aN) = false := decide_eq_false c160
                         clear c160
                         have H' := A_ H
                         clear H
                         go_wp2
                         (try subst bq)
                         (try subst bD)
                         (try subst bR)
                         go_roundg kj94
                         case measure => have := b2.o; have := b3.o; have := cb.o; have := cc.o; have := ch.o; have := bK.o; omega
                         case rel => exact ⟨(ar), (wrap64 (ao + 1)), (by rfl), H', ⟨by have := b2.o; have := b3.o; have := cb.o; have := cc.o; have := ch.o; have := bK.o; omega⟩, ⟨aG.o⟩, ⟨an.o⟩, ⟨ab.o⟩, ⟨aa.o⟩, ⟨aj.o⟩, ⟨ak.o⟩, ⟨ah.o⟩, ⟨am.o⟩, ⟨al.o⟩, ⟨ai.o⟩, ⟨ap.o⟩, ⟨HB.o⟩⟩
                      rw [if_neg c94] at H
                      cases H
                     rw [if_neg c93] at H
                     cases H
                    rw [if_neg c92] at H
                    cases H
                   rw [if_neg c91] at H
                   cases H
                  rw [if_neg c88] at H; have ep := decide_eq_false c88; clear c88
                  by_cases c168 : a9.length < 5864062014805
                  ·rw [if_pos c168] at H; have eJ := A_ c168; clear c168; obtain ⟨gU, dX⟩ := ex_ ((a9 ++ [ar]) : List (List Int)); replace H : (spec_CountingForm.l2 k5 (ac.length : Int) a4 gU (wrap64 (aN + 1)) ay ac av ay aw au ax) = some (r1, r2, r3, r4, r5) := by (rw [dX]; with_reducible exact H)
                   have fR := A_ dX; clear dX
                   have H' := A_ H
                   clear H; have iy := bp.o; have iK := a8.o; have iz := bj.o; have iL := a5.o; have iA := aq.o; have iM := aD.o; have gL := bq3 ai.o; obtain ⟨dh, dm, gA⟩ := Kd.R_slice an.o; subst gA
                   go_wp2_with (first | ((with_reducible refine gate_builtin (b := .append) (xs := #[.tmp 136, .tmp 138]) rfl ?_); at_builtin; refine Kd.S_append (Kd.slice 3 (Kd.int .i64)) (w0 := w) w.heap.size rfl (.tmp 136) (.tmp 138) 22 23 (.slice none 0 0) 24 rfl Try.underlying22 info23 rfl (by decide) (by omega) u12 a9 ar [.slice dh ar.length dm] (o4 (.slice bd ac.length aQ) af ae ag) (fun k_ => some k_ = (.slice dh ar.length dm : Value).ownBlock) rfl rfl ?aP (fun k_ hk_ => ((Kd.R_mono (ok' := fun k_ => ((o4 (.slice bd ac.length aQ) af ae ag)) k_ ∧ some k_ ≠ (u12 : Value).ownBlock) (Kd.R_apart' (Kd.R_apart' (an.o) (Kd.S_typed ab.o) (by decide)) (Kd.S_typed aG.o) (by decide)) (fun k_ hk => ⟨⟨hk.1.2, ⟨hk.1.1.1, ⟨hk.1.1.2.1, hk.1.1.2.2⟩⟩⟩, hk.2⟩))).1 k_ hk_.symm) ?aF ?aO ?aB ?aS ?aL ?_; (case aP => exact Kd.M_row (Kd.R_mono (Kd.R_tight rfl (Kd.R_mono (ok' := fun k_ => ((o4 (.slice bd ac.length aQ) af ae ag)) k_ ∧ some k_ ≠ (u12 : Value).ownBlock) (Kd.R_apart' (Kd.R_apart' (an.o) (Kd.S_typed ab.o) (by decide)) (Kd.S_typed aG.o) (by decide)) (fun k_ hk => ⟨⟨hk.1.2, ⟨hk.1.1.1, ⟨hk.1.1.2.1, hk.1.1.2.2⟩⟩⟩, hk.2⟩))) (fun _ h_ => h_))); (case aB => exact HB.o); (case aF => exact (fun k_ hk => ⟨Kd.fresh' (Kd.S_lt ab.o) k_ hk, Kd.fresh' (Kd.R_lt aa.o) k_ hk, Kd.fresh' (Kd.R_lt aj.o) k_ hk, Kd.fresh' (Kd.R_lt ah.o) k_ hk⟩)); (case aO => exact (by exact Kd.S_mono aG.o (fun k_ hk => ⟨⟨hk.2.1, ⟨hk.2.2.1, ⟨hk.2.2.2.1, hk.2.2.2.2⟩⟩⟩, fun e_ => hk.1 e_⟩))); (case aS => exact (below_size HB.o)); (case aL => have := eJ.o; omega); intro kA w173 ho hb hg hat; rw [← fR.o] at ho; replace ab := A_ (Kd.S_after (ok := (o4 (.slice dh ar.length dm) af ae ag)) (by exact Kd.S_mono ab.o (fun _ hk => ⟨⟨hk.2.1, ⟨hk.2.2.1, ⟨hk.2.2.2.1, hk.2.2.2.2⟩⟩⟩, hk.1⟩)) hg hat); replace aa := A_ (Kd.R_over' aa.o (Kd.S_typed aG.o) (by decide) hg); replace aj := A_ (Kd.R_over' aj.o (Kd.S_typed aG.o) (by decide) hg); replace ak := A_ (Kd.R_after (ok := (o5 (.slice dh ar.length dm) (.slice bd ac.length aQ) af ae ag)) (by exact Kd.R_mono ak.o (fun _ hk => ⟨⟨hk.2.1, ⟨hk.2.2.1, ⟨hk.2.2.2.1, ⟨hk.2.2.2.2.1, hk.2.2.2.2.2⟩⟩⟩⟩, hk.1⟩)) hg hat); replace ah := A_ (Kd.R_over' ah.o (Kd.S_typed aG.o) (by decide) hg); replace am := gS_ aG am hg; replace al := gS_ aG al hg; replace ai := gS_ aG ai hg; replace ap := gS_ aG ap hg; replace HB := A_ (hb); have fI := A_ (ho); clear aG an; clear ho hb hg hat))
                   (try subst bq)
                   (try subst bD)
                   go_roundg k5
                   case measure => have := b2.o; have := b3.o; have := cb.o; have := cc.o; have := ch.o; omega
                   case rel => exact ⟨(gU), (wrap64 (aN + 1)), (av), (aw), (ax), (af), (ae), (ag), (by rfl), H', ⟨by have := b2.o; have := b3.o; have := cb.o; have := cc.o; have := ch.o; omega⟩, ⟨fI.o⟩, ⟨by exact Kd.S_mono ab.o (fun _ hk => ⟨hk.2, ⟨hk.1.2.1, ⟨hk.1.2.2.1, hk.1.2.2.2⟩⟩⟩)⟩, ⟨by exact Kd.R_mono aa.o (fun _ hk => ⟨hk.2.1, hk.2.2⟩)⟩, ⟨by exact Kd.R_mono aj.o (fun _ hk => ⟨hk.2.1, hk.2.2⟩)⟩, ⟨by exact Kd.R_mono ak.o (fun _ hk => ⟨hk.2, ⟨hk.1.2.1, ⟨hk.1.2.2.1, ⟨hk.1.2.2.2.1, hk.1.2.2.2.2⟩⟩⟩⟩)⟩, ⟨by exact Kd.R_mono ah.o (fun _ hk => ⟨hk.2.1, hk.2.2⟩)⟩, ⟨am.o⟩, ⟨al.o⟩, ⟨ai.o⟩, ⟨ap.o⟩, ⟨HB.o⟩⟩
                  rw [if_neg c168] at H
                  cases H
               rw [if_neg c85] at H
               cases H
              rw [if_neg c84] at H
              cases H
             rw [if_neg c82] at H; have dH := decide_eq_false c82; clear c82
             by_cases c175 : au.length < 5864062014805
             ·rw [if_pos c175] at H; have eK := A_ c175; clear c175; obtain ⟨db, dV⟩ := ex_ ((au ++ [a9]) : List (List (List Int))); replace H : (spec_CountingForm.l1 k4 (ac.length : Int) (wrap64 (a4 + 1)) ay ac av ay aw db ax) = some (r1, r2, r3, r4, r5) := by (rw [dV]; with_reducible exact H)
              have fP := A_ dV; clear dV
              have H' := A_ H
              clear H; have iB := aH.o; have iN := az.o; have iC := aI.o; have iO := aA.o; have iD := aD.o; have iP := aq.o; have gM := bq4 ap.o; obtain ⟨fA, gm, gB⟩ := Kd.S_slice aG.o; subst gB
              go_wp2_with (first | ((with_reducible refine gate_builtin (b := .append) (xs := #[.tmp 141, .tmp 143]) rfl ?_); at_builtin; refine Kd.R_append (Kd.slice 23 (Kd.slice 3 (Kd.int .i64))) (w0 := w) w.heap.size rfl (.tmp 141) (.tmp 143) 27 22 (.slice none 0 0) 24 rfl Try.underlying27 info22 rfl (by decide) (by omega) bv au a9 [.slice fA a9.length gm] (o4 (.slice bd ac.length aQ) af ae ag) (fun k_ => ((o4 (.slice bd ac.length aQ) af ae ag)) k_ ∧ some k_ ≠ (bv : Value).ownBlock) rfl rfl ?aP (fun _ hk => hk) ?aF ?aO ?aB ?aS ?aL ?_; (case aP => exact Kd.M_row (Kd.R_mono (Kd.R_apart' ((Kd.S_R aG.o)) (Kd.R_typed ak.o) (by decide)) (fun k_ hk => ⟨⟨hk.1.1, ⟨hk.1.2.1, ⟨hk.1.2.2.1, hk.1.2.2.2⟩⟩⟩, hk.2⟩))); (case aB => exact HB.o); (case aF => exact (fun k_ hk => ⟨Kd.fresh' (Kd.S_lt ab.o) k_ hk, Kd.fresh' (Kd.R_lt aa.o) k_ hk, Kd.fresh' (Kd.R_lt aj.o) k_ hk, Kd.fresh' (Kd.R_lt ah.o) k_ hk⟩)); (case aO => exact (by exact Kd.R_mono ak.o (fun _ hk => ⟨hk.2.1, ⟨hk.2.2.1, ⟨hk.2.2.2.1, hk.2.2.2.2⟩⟩⟩))); (case aS => exact (below_size HB.o)); (case aL => have := eK.o; omega); intro kz w180 ho hb hg hat; rw [← fP.o] at ho; replace ab := A_ (Kd.S_over' ab.o (Kd.R_typed ak.o) (by decide) hg); replace aa := A_ (Kd.R_over' aa.o (Kd.R_typed ak.o) (by decide) hg); replace aj := A_ (Kd.R_over' aj.o (Kd.R_typed ak.o) (by decide) hg); replace ah := A_ (Kd.R_over' ah.o (Kd.R_typed ak.o) (by decide) hg); replace am := gR_ ak am hg; replace al := gR_ ak al hg; replace ai := gR_ ak ai hg; replace ap := gR_ ak ap hg; replace HB := A_ (hb); have em := A_ (ho); clear ak aG; clear ho hb hg hat; obtain ⟨cA, cF, gC⟩ := Kd.R_slice em.o; subst gC; have gN := bq4 ap.o))
              (try subst bq)
              go_roundg k4
              case measure => have := b2.o; have := b3.o; have := cb.o; have := cc.o; omega
              case rel => exact ⟨(wrap64 (a4 + 1)), (av), (aw), (db), (ax), (af), (ae), (.slice cA db.length cF), (ag), (by rfl), H', ⟨by have := b2.o; have := b3.o; have := cb.o; have := cc.o; omega⟩, ⟨by exact Kd.S_mono (Kd.S_far (p := ⟨aU, 2, none⟩) (Kd.S_types ab.o ap.o (by decide)) (fun _ hk => hk.2) (.slice cA db.length cF)) (fun _ hk => ⟨hk.1.2.1, ⟨hk.1.2.2.1, hk.1.2.2.2⟩⟩)⟩, ⟨by exact Kd.R_mono (Kd.R_far (p := ⟨aU, 2, none⟩) (Kd.R_types aa.o ap.o (by decide)) (fun _ hk => hk.2) (.slice cA db.length cF)) (fun _ hk => ⟨hk.1.1, hk.1.2⟩)⟩, ⟨by exact Kd.R_mono (Kd.R_far (p := ⟨aU, 2, none⟩) (Kd.R_types aj.o ap.o (by decide)) (fun _ hk => hk.2) (.slice cA db.length cF)) (fun _ hk => ⟨hk.1.1, hk.1.2⟩)⟩, ⟨by exact Kd.R_mono (Kd.R_far (p := ⟨aU, 2, none⟩) (Kd.R_types em.o ap.o (by decide)) (fun _ hk => hk.2) (.slice cA db.length cF)) (fun _ hk => ⟨hk.1.1, ⟨hk.1.2.1, ⟨hk.1.2.2.1, hk.1.2.2.2⟩⟩⟩)⟩, ⟨by exact Kd.R_mono (Kd.R_far (p := ⟨aU, 2, none⟩) (Kd.R_types ah.o ap.o (by decide)) (fun _ hk => hk.2) (.slice cA db.length cF)) (fun _ hk => ⟨hk.1.1, hk.1.2⟩)⟩, ⟨by exact fa_ az am.o⟩, ⟨by exact fa_ aA al.o⟩, ⟨by exact fa_ aq ai.o⟩, ⟨by exact pu_ 2 ap.o rfl⟩, ⟨by repeat (first | (with_reducible first | exact HB.o | apply below_alloc | apply pw_below_drewN | apply below_drew1 | refine below_set ?_ cB.o | refine below_set ?_ cC.o | refine below_set ?_ cD.o | refine below_set ?_ bw.o) | exact HB.o)⟩⟩
             rw [if_neg c175] at H
             cases H
          rw [if_neg c75] at H; have eo := decide_eq_false c75; clear c75; simp only [Option.some.injEq, Prod.mk.injEq] at H; obtain ⟨rfl, rfl, rfl, rfl, rfl⟩ := H; have iE := bp.o; have iQ := a8.o; have iF := bj.o; have iR := a5.o; have iG := aq.o; have iS := aD.o; have gO := bq3 ai.o; have iH := aH.o; have iT := az.o; have iI := aI.o; have iU := aA.o; have gP := bq4 ap.o; have iJ := b8.o; have iV := b7.o; have gQ := bq4 al.o; obtain ⟨fB, gn, gD⟩ := Kd.R_slice aj.o; subst gD; obtain ⟨fC, go, gE⟩ := Kd.R_slice ak.o; subst gE; obtain ⟨fD, gp, gF⟩ := Kd.R_slice ah.o; subst gF
          go_wp2
          refine bodyPost_ret (results_ct rfl _ _ bh 29 #[.int .i64 ay, .slice fB bA.length gn, .slice fC au.length go, .slice fD bB.length gp] (0, 0) _ rfl (by exact pu_ 3 (pu_ 2 (pu_ 1 (pu_ 0 al.o rfl) rfl) rfl) rfl) Try.underlying29 rfl (by kernel_rfl)) rfl ?_; exact ⟨_, _, _, by first | rfl | (simp [errW_none, errW_some] <;> rfl) | (simp only [← bq]; first | rfl | (simp [errW_none, errW_some] <;> rfl)) | (simp [*, errW_none, errW_some] <;> rfl), by exact Kd.R_mono (gR4_ (tR_ aj al)) (fun _ hk => hk.1.2), by exact Kd.R_mono (gR4_ (tR_ ak al)) (fun _ hk => ⟨hk.1.2.2.1, hk.1.2.2.2⟩), by exact Kd.R_mono (gR4_ (tR_ ah al)) (fun _ hk => hk.1.2), by repeat (first | (with_reducible first | exact HB.o | apply below_alloc | apply pw_below_drewN | apply below_drew1 | refine below_set ?_ cB.o | refine below_set ?_ cC.o | refine below_set ?_ cD.o | refine below_set ?_ bw.o) | exact HB.o)⟩
     rw [if_neg c25] at H
     cases H
    rw [if_neg c24] at H
    cases H
   rw [if_neg c23] at H
   cases H

end Go.Proofs.Ytgmfjcckmapkbaa.PFnExactPrefixSum

