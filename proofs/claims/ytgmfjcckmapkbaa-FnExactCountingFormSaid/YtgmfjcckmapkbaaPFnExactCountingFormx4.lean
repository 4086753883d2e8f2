/- Walks of the functions that the law reaches. -/
import Derived.Test.YtgmfjcckmapkbaaPFnExactCountingFormx2
import Derived.Test.YtgmfjcckmapkbaaPFnExactCountingFormx3
namespace Go.Proofs.Ytgmfjcckmapkbaa.PFnExactCountingForm
open Go.RowKit Go.Proofs.YtgmfjcckmapkbaaW.PrintWords Go.Proofs.YtgmfjcckmapkbaaW.PrintLast Go.Proofs.YtgmfjcckmapkbaaW.PrintMore
attribute [local go_sem] max2_int min2_int max_two min_two max_three min_three max_four min_four
set_option linter.unusedVariables false
set_option maxHeartbeats 8000000
set_option maxRecDepth 100000
set_option linter.unusedSimpArgs false

mutual
def spec_SteadyForm.j0 : Nat → Bool → Int → List (List Int) → List Int → Option (Int × (List (List Int)) × List Int × Bool)
 | 0, _, _, _, _ => none
 | k + 1, fk, ax, an, av => if fk = true then (some (0, ([] : List (List Int)), ([] : List Int), false)) else ((spec_IsSteady.f k ax an av).bind fun cw => (if cw = true then ((spec_l3Copy.f k ax an av).bind fun bt145 => (some (bt145.1, bt145.2.1, bt145.2.2, true))) else (if 0 < (av.length : Int) then ((some (([rd av 0] : List Int) : List Int)).bind fun bh => (if bh.length + av.length < 17592186044416 then (spec_SteadyForm.l0 k (([0] : List Int)) 1 ax an av ax (bh ++ av)) else (none))) else (none))))
def spec_SteadyForm.l0 : Nat → List Int → Int → Int → List (List Int) → List Int → Int → List Int → Option (Int × (List (List Int)) × List Int × Bool)
 | 0, _, _, _, _, _, _, _ => none
 | k + 1, x5, x6, ax, an, av, aJ, aK => if x6 < ax then (if 0 < (an.length : Int) then (if 0 ≤ x6 then (if x6 < ((rd_L1 an 0).length : Int) then (if x5.length < 17592186044416 then (spec_SteadyForm.l0 k (x5 ++ [wrap64 ((rd (rd_L1 an 0) x6) + 1)]) (wrap64 (x6 + 1)) ax an av aJ aK) else (none)) else (none)) else (none)) else (none)) else (if ([] : List (List Int)).length < 5864062014805 then (spec_SteadyForm.l1 k 0 ax an av aJ (([] : List (List Int)) ++ [x5]) aK) else (none))
def spec_SteadyForm.l1 : Nat → Int → Int → List (List Int) → List Int → Int → List (List Int) → List Int → Option (Int × (List (List Int)) × List Int × Bool)
 | 0, _, _, _, _, _, _, _ => none
 | k + 1, x7, ax, an, av, aJ, aU, aK => if x7 < (an.length : Int) then (spec_SteadyForm.l2 k x7 (([] : List Int)) 0 ax an av aJ aU aK) else (some (aJ, aU, aK, true))
def spec_SteadyForm.l2 : Nat → Int → List Int → Int → Int → List (List Int) → List Int → Int → List (List Int) → List Int → Option (Int × (List (List Int)) × List Int × Bool)
 | 0, _, _, _, _, _, _, _, _, _ => none
 | k + 1, x7, x8, x9, ax, an, av, aJ, aU, aK => if x9 < ax then (if 0 ≤ x7 then (if x7 < (an.length : Int) then (if 0 ≤ x9 then (if x9 < ((rd_L1 an x7).length : Int) then (if x8.length < 17592186044416 then (spec_SteadyForm.l2 k x7 (x8 ++ [wrap64 ((rd (rd_L1 an x7) x9) + 1)]) (wrap64 (x9 + 1)) ax an av aJ aU aK) else (none)) else (none)) else (none)) else (none)) else (none)) else (if aU.length < 5864062014805 then (spec_SteadyForm.l1 k (wrap64 (x7 + 1)) ax an av aJ (aU ++ [x8]) aK) else (none))
end
def spec_SteadyForm.f (k : Nat) (al : Int) (ah : List (List Int)) (ak : List Int) : Option (Int × (List (List Int)) × List Int × Bool) := (spec_IsSequence.f k al ah ak).bind fun cv => (if cv = true then (if (ah.length : Int) ≥ 16 then ((spec_IsSteady.f k al ah ak).bind fun bU => (spec_SteadyForm.j0 k (!bU) al ah ak)) else (spec_SteadyForm.j0 k false al ah ak)) else (spec_SteadyForm.j0 k true al ah ak))
def spec_SteadyForm.T5 : Bool × List (List Nat × List Nat) := (true, [([], []), ([0], [0]), ([], []), ([2], [2]), ([3], [3]), ([4], [4]), ([5], [5]), ([], []), ([7], [7]), ([6, 8], [6, 8]), ([1, 9], [1, 9]), ([], []), ([11, 10, 9, 0, 1, 2, 3, 4, 5, 6, 7, 8, 9, 10, 11], [10, 11])])
def spec_SteadyForm.B5 : List Nat := [0, 1, 0, 4, 12, 28, 60, 0, 128, 508, 1023, 0, 4095]
theorem spec_SteadyForm.tab5 : rtab .any (opsOf Try.f41 5) = spec_SteadyForm.T5 := by kernel_rfl
theorem spec_SteadyForm.bits5 : waitsOk spec_SteadyForm.T5.2 spec_SteadyForm.B5 = true := by kernel_rfl
theorem spec_SteadyForm.calls (k : Nat) (al : Int) (a8 : Option Addr) (a9 : Nat) (ah : List (List Int)) (bJ : Option Addr) (ba : Nat) (ak : List Int) (r1 : Int) (r2 : List (List Int)) (r3 : List Int) (r4 : Bool) (w : World) (b4 : Kd.C (Kd.slice 3 (Kd.int .i64)) w a8 ah.length ah) (b2 : ah.length ≤ a9) (b5 : Kd.C (Kd.int .i64) w bJ ak.length ak) (b3 : ak.length ≤ ba) (h : spec_SteadyForm.f k al ah ak = some (r1, r2, r3, r4)) :
  Calls Try.prog 41 #[.agg #[.int .i64 al, .slice a8 ah.length a9, .slice bJ ak.length ba]] w fun e w' => ∃ v1_ v2_ : Value, e = .returned (.tuple #[.agg #[.int .i64 r1, v1_, v2_], .bool r4]) ∧ Kd.S (Kd.slice 3 (Kd.int .i64)) 23 w' w.heap.size (o1 v2_) v1_ r2 ∧ Kd.R (Kd.int .i64) 3 w' w.heap.size (fun _ => True) v2_ r3 ∧ Below w.heap.size w w' := by
 have hu32 := Try.underlying32; have aW := A_ b4; have bd := A_ b2; clear b4 b2; have aT := A_ b5; have be := A_ b3; clear b5 b3; have HB := A_ (Below.refl w.heap.size w); unfold spec_SteadyForm.f at h; have H := h; clear h; have HC2 := A_ H; clear H; go_enter Try.func41, Try.ntmps41
 go_upto_region 1 with (first | ((with_reducible refine gate_dst (N := 1) rfl ?_); (try (refine gate_guard (by rfl) ?_; dsimp only)); refine box_event rfl (N := 1) rfl (cs := #[.int .i64 al, .slice a8 ah.length a9, .slice bJ ak.length ba]) (t := 32) (by go_simp; done) ?_; intro aD hg w3 hbox hb; have aa := A_ (hbox); have eb := A_ (lg_ (below_size HB.o) hg); have bb := A_ (lg_ (below_size HB.o) hg); replace HB := bs_ HB hb; clear hb hbox hg) | ((with_reducible refine gate_dst (N := 2) rfl ?_); (try (refine gate_guard (by rfl) ?_; dsimp only)); refine box_event rfl (N := 2) rfl (cs := #[.int .i64 0, .slice none 0 0, .slice none 0 0]) (t := 32) (by go_simp; done) ?_; intro aN hg w4 hbox hb; have ab := A_ (hbox); have ec := A_ (lg_ (below_size HB.o) hg); have bc := A_ (lg_ (below_size HB.o) hg); replace HB := bs_ HB hb; have ap := nl_ aa hg; have aq := ng_ aa hg; replace aa := bb_ aa hb; clear hb hbox hg))
 (try simp only [Act.put, mD, mE, mF])
 go_cut [23] (fun fj wc => ∃ (kq : Nat) (bt : Bool), fj = .bool bt ∧ Aside0 (spec_SteadyForm.j0 kq bt al ah ak = some (r1, r2, r3, r4)) ∧ Aside0 (kq ≤ k) ∧ Aside0 (wc.heap[aD]? = some (.cells #[.int .i64 al, (.slice a8 ah.length a9), (.slice bJ ak.length ba)] 32 (0, 0))) ∧ Aside0 (wc.heap[aN]? = some (.cells #[.int .i64 0, (.slice none 0 0), (.slice none 0 0)] 32 (0, 0))) ∧ Aside0 (Below w.heap.size w wc))
 case first =>
  have H := HC2.o; clear HC2; replace H := bA_ H; obtain ⟨cv, A5, H⟩ := H
  by_cases c6 : cv = true
  ·subst c6; rw [if_pos rfl] at H
   by_cases c7 : (ah.length : Int) ≥ 16
   ·rw [if_pos c7] at H
    have dQ : decide (16 ≤ (ah.length : Int)) = true := decide_eq_true c7
    have dR : decide (16 ≤ ah.length) = true := decide_eq_true (by omega)
    clear c7
    (skip)
    replace H := bA_ H; obtain ⟨bU, A8, H⟩ := H
    have H' := A_ H
    clear H; have e9 := ap.o; have fa := aq.o; have dv := bq3 aa.o
    go_wp2_with (first | ((with_reducible refine gc_ 51 rfl ?_); refine cM_ E51 11 (spec_IsSequence.calls k al _ _ ah _ _ ak true _ (Kd.C_below aW.o HB.o) bd.o (Kd.C_below aT.o HB.o) be.o A5.o) ?_; rintro e w11 ⟨rfl, hb⟩; refine ⟨_, rfl, ?_⟩; replace aa := bb_ aa hb; replace ab := bb_ ab hb; replace HB := bs_ HB hb; clear hb; have dw := bq3 aa.o) | (go_at_call 52; (with_reducible refine (spec_IsSteady.calls k al _ _ ah _ _ ak bU _ ?side1 ?side2 ?side3 ?side4 A8.o).mono ?_); (case side1 => exact (Kd.C_below aW.o HB.o)); (case side2 => exact bd.o); (case side3 => exact (Kd.C_below aT.o HB.o)); (case side4 => exact be.o); rintro e w13 ⟨rfl, hb⟩; replace aa := bb_ aa hb; replace ab := bb_ ab hb; replace HB := bs_ HB hb; clear hb; (try clear hi)))
    go_meet
    case rel => exact ⟨_, (!bU), (by rfl), H', ⟨by omega⟩, ⟨aa.o⟩, ⟨ab.o⟩, ⟨HB.o⟩⟩
   rw [if_neg c7] at H
   have dQ : decide (16 ≤ (ah.length : Int)) = false := decide_eq_false c7
   have dR : decide (16 ≤ ah.length) = false := decide_eq_false (by omega)
   clear c7
   (skip)
   have H' := A_ H
   clear H; have ep := ap.o; have eN := aq.o; have dx := bq3 aa.o
   go_wp2_with (first | ((with_reducible refine gc_ 51 rfl ?_); refine cM_ E51 11 (spec_IsSequence.calls k al _ _ ah _ _ ak true _ (Kd.C_below aW.o HB.o) bd.o (Kd.C_below aT.o HB.o) be.o A5.o) ?_; rintro e w16 ⟨rfl, hb⟩; refine ⟨_, rfl, ?_⟩; replace aa := bb_ aa hb; replace ab := bb_ ab hb; replace HB := bs_ HB hb; clear hb; have dy := bq3 aa.o))
   go_meet
   case rel => exact ⟨_, (false), (by rfl), H', ⟨by omega⟩, ⟨aa.o⟩, ⟨ab.o⟩, ⟨HB.o⟩⟩
  replace c6 := Bool.eq_false_iff.mpr c6; subst c6; rw [if_neg nf_] at H
  have H' := A_ H
  clear H; have eq := ap.o; have eO := aq.o; have dz := bq3 aa.o
  go_wp2_with (first | ((with_reducible refine gc_ 51 rfl ?_); refine cM_ E51 11 (spec_IsSequence.calls k al _ _ ah _ _ ak false _ (Kd.C_below aW.o HB.o) bd.o (Kd.C_below aT.o HB.o) be.o A5.o) ?_; rintro e w20 ⟨rfl, hb⟩; refine ⟨_, rfl, ?_⟩; replace aa := bb_ aa hb; replace ab := bb_ ab hb; replace HB := bs_ HB hb; clear hb; (try clear hi)))
  go_meet
  case rel => exact ⟨_, (true), (by rfl), H', ⟨by omega⟩, ⟨aa.o⟩, ⟨ab.o⟩, ⟨HB.o⟩⟩
 case rest =>
  clear HC2; obtain ⟨kq, bt, rfl, HA, cy, aa, ab, HB⟩ := hcut
  cases kq with
  | zero => exact nz_ HA.o
  | succ kj1 =>
   have H := HA.o; clear HA; simp only [spec_SteadyForm.j0] at H
   by_cases c21 : bt = true
   ·subst c21; rw [if_pos rfl] at H; simp only [Option.some.injEq, Prod.mk.injEq] at H; obtain ⟨rfl, rfl, rfl, rfl⟩ := H; have er := aq.o; have eP := ap.o; have dA := bq3 ab.o
    go_wp2
    refine bodyPost_ret (results_ct rfl _ _ aN 32 #[.int .i64 0, .slice none 0 0, .slice none 0 0] (0, 0) _ rfl (by exact pu_ 2 (pu_ 1 (pu_ 0 ab.o rfl) rfl) rfl) Try.underlying32 rfl (by kernel_rfl)) rfl ?_; exact ⟨_, _, by rfl, by exact Kd.S_nil _ _ _ _ _, by exact Kd.R_nil _ _ _ _ _, by repeat (first | (with_reducible first | exact HB.o | apply below_alloc | apply pw_below_drewN | apply below_drew1 | refine below_set ?_ bb.o | refine below_set ?_ bc.o) | exact HB.o)⟩
   replace c21 := Bool.eq_false_iff.mpr c21; subst c21; rw [if_neg nf_] at H; replace H := bA_ H; obtain ⟨cw, A24, H⟩ := H
   by_cases c25 : cw = true
   ·subst c25; rw [if_pos rfl] at H; replace H := bA_ H; obtain ⟨⟨dh, di, dj⟩, A26, H⟩ := H; dsimp only at H; simp only [Option.some.injEq, Prod.mk.injEq] at H; obtain ⟨rfl, rfl, rfl, rfl⟩ := H; have ev := ap.o; have eQ := aq.o; have dB := bq3 aa.o
    go_wp2_with (first | ((with_reducible refine gc_ 52 rfl ?_); refine cM_ E52 26 (spec_IsSteady.calls kj1 al _ _ ah _ _ ak true _ (Kd.C_below aW.o HB.o) bd.o (Kd.C_below aT.o HB.o) be.o A24.o) ?_; rintro e w29 ⟨rfl, hb⟩; refine ⟨_, rfl, ?_⟩; replace aa := bb_ aa hb; replace ab := bb_ ab hb; replace HB := bs_ HB hb; clear hb; have dC := bq3 aa.o) | ((with_reducible refine gc_ 53 rfl ?_); refine cM_ E53 28 (spec_l3Copy.calls kj1 al _ _ ah _ _ ak dh di dj _ (Kd.C_below aW.o HB.o) bd.o (Kd.C_below aT.o HB.o) be.o A26.o) ?_; rintro e w31 ⟨fb, fc, rfl, ho0, ho1, hb⟩; refine ⟨_, rfl, ?_⟩; have bV := A_ (Kd.S_lower ho0 (below_size HB.o)); have bW := A_ (Kd.R_lower ho1 (below_size HB.o)); replace aa := bb_ aa hb; replace ab := bb_ ab hb; replace HB := bs_ HB hb; clear hb ho0 ho1; have dD := bq3 ab.o; obtain ⟨dL, dS, d0⟩ := Kd.S_slice bV.o; subst d0; obtain ⟨dM, dT, d4⟩ := Kd.R_slice bW.o; subst d4))
    refine bodyPost_ret (results_ct rfl _ _ aN 32 #[.int .i64 dh, .slice dL di.length dS, .slice dM dj.length dT] (0, 0) _ rfl (by exact pu_ 2 (pu_ 1 (pu_ 0 ab.o rfl) rfl) rfl) Try.underlying32 rfl (by kernel_rfl)) rfl ?_; exact ⟨_, _, by rfl, by exact Kd.S_mono (gS3_ (tS_ bV ab)) (fun _ hk => hk.1), by exact Kd.R_mono (gR3_ (tR_ bW ab)) (fun _ hk => trivial), by repeat (first | (with_reducible first | exact HB.o | apply below_alloc | apply pw_below_drewN | apply below_drew1 | refine below_set ?_ bb.o | refine below_set ?_ bc.o) | exact HB.o)⟩
   replace c25 := Bool.eq_false_iff.mpr c25; subst c25; rw [if_neg nf_] at H
   by_cases c35 : 0 < (ak.length : Int)
   ·rw [if_pos c35] at H; have cV := decide_eq_true c35
    have cW : decide (0 < ak.length) = true := decide_eq_true (by omega)
    clear c35; obtain ⟨bh, bz⟩ := ex_ ((([rd ak 0] : List Int)) : List Int); replace H : (if bh.length + ak.length < 17592186044416 then (spec_SteadyForm.l0 kj1 (([0] : List Int)) 1 al ah ak al (bh ++ ak)) else (none)) = some (r1, r2, r3, r4) := by (have H2_ := (Option.bind_some _ _).symm.trans H; rw [bz]; with_reducible exact H2_)
    have bZ := A_ bz; clear bz
    by_cases c36 : bh.length + ak.length < 17592186044416
    ·rw [if_pos c36] at H; have bu := A_ c36; clear c36; obtain ⟨aw, bA⟩ := ex_ ((bh ++ ak) : List Int); replace H : (spec_SteadyForm.l0 kj1 (([0] : List Int)) 1 al ah ak al aw) = some (r1, r2, r3, r4) := by (rw [bA]; with_reducible exact H)
     have bv := A_ bA; clear bA; obtain ⟨dk, bB⟩ := ex_ ((([0] : List Int)) : List Int); replace H : (spec_SteadyForm.l0 kj1 dk 1 al ah ak al aw) = some (r1, r2, r3, r4) := by (rw [bB]; with_reducible exact H)
     have cN := A_ bB; clear bB
     have H' := A_ H
     clear H; have ew := ap.o; have eR := aq.o; have bM := bq3 aa.o
     try go_wp2_with (first | ((with_reducible refine gc_ 52 rfl ?_); refine cM_ E52 26 (spec_IsSteady.calls kj1 al _ _ ah _ _ ak false _ (Kd.C_below aW.o HB.o) bd.o (Kd.C_below aT.o HB.o) be.o A24.o) ?_; rintro e w39 ⟨rfl, hb⟩; refine ⟨_, rfl, ?_⟩; replace aa := bb_ aa hb; replace ab := bb_ ab hb; replace HB := bs_ HB hb; clear hb; (try clear hi)))
     replace aa := A_ (blk_drew aa.o); replace ab := A_ (blk_drew ab.o); replace HB := A_ (below_drew1 HB.o)
     have bS : 0 ≤ (0 : Int) := (by omega)
     have bT : 0 < (ak.length : Int) := oa_
     obtain ⟨aV, dV, aH⟩ := Kd.at_int aT.o 0 bS bT; have ae := aH
     (try rw [show ((0 : Int)).toNat = 0 from rfl] at ae)
     (try rw [show 0 * 1 = 0 from rfl] at ae)
     (try rw [Addr.add_zero'] at ae)
     cases dV
     have qi152 : (0 < ak.length) = True := eq_true (by omega)
     (try rw [show ((0 : Int)).toNat = 0 from rfl] at aH)
     (try rw [Addr.add_zero'] at aH)
     replace aH := (HB.o.cell (World.block_lt_of_cell? w _ aH)).trans aH; replace bS := eq_true bS; replace bT := eq_true bT; refine start_ (n := 13) (S := fun w' => w'.cell? ⟨aD, 0, none⟩ = some (.int .i64 al) ∧ w'.cell? ⟨aD, 1, none⟩ = some (.slice a8 ah.length a9) ∧ w'.cell? ⟨aD, 2, none⟩ = some (.slice (some aV) ak.length ba) ∧ w'.cell? aV = some (.int .i64 (rd ak 0))) (ds := []) (mk_ 13 0) (by kernel_rfl) rfl rfl ⟨bz0 aa.o, bz1 aa.o, bz2 aa.o, ((HB.o.cell (World.block_lt_of_cell? w _ ae)).trans ae)⟩ (fun ay => ?_); refine with_tabW spec_SteadyForm.tab5 spec_SteadyForm.bits5 (fun bk du => ?_)
     generalize w39.drew = w40 at aa ab HB aH ay ⊢
     refine pw_ 0 29 (mk_ 13 1) bk ?_; refine pw_ 2 31 (mk_ 13 5) bk ?_; refine pw_ 7 36 (mk_ 13 133) bk ?_; refine tk_ 1 30 (mk_ 13 135) bk du ay ?_; refine tk_ 3 32 (mk_ 13 143) bk du ay ?_; refine pw_ 4 33 (mk_ 13 159) bk ?_; refine tk_ 5 34 (mk_ 13 191) bk du ay ?_; refine tk_ 8 37 (mk_ 13 447) bk du ay ?_; refine join_ (σ := Value × Value × Nat) 1 (mk_ 13 4095) (fun s_ => [(35, s_.1), (38, s_.2.1), (4, .pointer (some ⟨s_.2.2, 0, none⟩)), (39, .agg #[.int .i64 al, .slice none 0 0, s_.2.1])]) (fun s_ w' => (w'.cell? ⟨aD, 0, none⟩ = some (.int .i64 al) ∧ w'.cell? ⟨aD, 1, none⟩ = some (.slice a8 ah.length a9) ∧ w'.cell? ⟨aD, 2, none⟩ = some (.slice (some aV) ak.length ba) ∧ w'.cell? aV = some (.int .i64 (rd ak 0))) ∧ (Kd.R (Kd.int .i64) 3 w' w.heap.size (fun _ => True) s_.2.1 aw) ∧ (w'.heap[aD]? = some (.cells #[.int .i64 al, .slice a8 ah.length a9, .slice (some aV) ak.length ba] 32 (0, 0))) ∧ (w'.heap[aN]? = some (.cells #[.int .i64 0, .slice none 0 0, .slice none 0 0] 32 (0, 0))) ∧ (w'.heap[s_.2.2]? = some (.cells #[.int .i64 0, .slice none 0 0, .slice none 0 0] 32 (0, 0))) ∧ (w.heap.size ≤ s_.2.2) ∧ (w.heap.size ≤ s_.2.2) ∧ (aD ≠ s_.2.2) ∧ (s_.2.2 ≠ aD) ∧ (aN ≠ s_.2.2) ∧ (s_.2.2 ≠ aN) ∧ (Below w.heap.size w w')) ?_ ?_; rotate_left
     ·intro hCont; refine two_ (i := 6) (j := 11) (Ni := some 35) (Nj := some 4) (mk_ 13 511) (mk_ 13 2495) rfl rfl rfl rfl (two_of bk.o (by kernel_rfl)) (by decide) (by decide) (fun K hK => ?_) (fun K hK => ?_)
      ·skip
       refine Kd.R_lit_step (Kd.int .i64) _ 3 ?hg (N := 35) ?hd (xs := ([rd ak 0] : List Int)) (inner := [.int .i64 (rd ak 0)]) (ok := fun _ => True) (okp := fun _ => True) ?hr ?hp (fun _ hk => hk) trivial (Below.refl _ _) (Nat.le_refl _) (by simp) ?_; (case hd | hg => rfl); (case hr => go_simp; done); (case hp => exact (Reps.one (show Kd.M (Kd.int .i64) _ _ _ (rd ak 0) [.int .i64 (rd ak 0)] from rfl) (Reps.none _ _))); intro bo w41 cf hb hg_ hnew_; clear hg_ hnew_
       (rw [← bZ.o] at cf)
       have aA := A_ (Kd.R_lower cf (below_size HB.o)); replace aa := bb_ aa hb; replace ab := bb_ ab hb; replace HB := bs_ HB hb; clear hb cf; refine hK.out _ _ ⟨bz0 aa.o, bz1 aa.o, bz2 aa.o, ((HB.o.cell (World.block_lt_of_cell? w _ ae)).trans ae)⟩ (fun ay => ?_); clear hK K; refine nm_ 35 ?_; refine two_ (i := 9) (j := 11) (Ni := some 38) (Nj := some 4) (mk_ 13 1023) (mk_ 13 2559) rfl rfl rfl rfl (two_of bk.o (by kernel_rfl)) (by decide) (by decide) (fun K hK => ?_) (fun K hK => ?_)
       ·skip
        refine Kd.R_append_rows_step (Kd.int .i64) (w0 := w) w.heap.size (by rfl) (.tmp 35) (.tmp 37) 23 3 (.int .i64 0) 8 rfl Try.underlying23 info3 rfl (by decide) (by omega) bo bh ak _ _ _ (fun _ => True) (fun _ => False) rfl rfl ?aO ?aR (fun _ _ h => h) (fun _ h => h.elim) ?aF ?aB ?aS ?aL ?_
        (case aR => exact (Kd.C_below aT.o HB.o))
        (case aB => exact HB.o)
        (case aF => exact (fun _ _ => trivial))
        (case aO => exact aA.o)
        (case aS => exact (below_size HB.o))
        (case aL => have := bu.o; omega)
        intro cx w43 ho hb hg hat; rw [← bv.o] at ho; replace aa := gR_ aA aa hg; replace ab := gR_ aA ab hg; replace HB := A_ (hb); have aC := A_ (ho); clear aA ho hb hg hat; obtain ⟨dN, dU, dc⟩ := Kd.R_slice aC.o
        (first | subst dc | (injection dc with f1_ f2_ f3_; have f4_ := f1_.symm; have f5_ := f3_.symm; clear f1_ f2_ f3_; subst f4_; subst f5_))
        refine hK.out _ _ ⟨bz0 aa.o, bz1 aa.o, bz2 aa.o, ((HB.o.cell (World.block_lt_of_cell? w _ ae)).trans ae)⟩ (fun ay => ?_); clear hK K; refine nm_ 38 ?_; refine pw_ 10 39 (mk_ 13 2047) bk ?_; refine one_ (i := 11) (N := some 4) (mk_ 13 4095) rfl rfl (one_of bk.o (by kernel_rfl)) (by decide) (fun K hK => ?_); refine box_step rfl (N := 4) rfl (cs := #[.int .i64 0, .slice none 0 0, .slice none 0 0]) (t := 32) (by go_simp; done) ?_; intro ao hg w45 hbox hb; replace aC := A_ (Kd.R_below aC.o hb); have ag := A_ (hbox); have az := A_ (lg_ (below_size HB.o) hg); have aQ := A_ (lg_ (below_size HB.o) hg); replace HB := bs_ HB hb; have ac := nl_ aa hg; have am := ng_ aa hg; replace aa := bb_ aa hb; have aj := nl_ ab hg; have ar := ng_ ab hg; replace ab := bb_ ab hb; clear hb hbox hg; refine hK.out _ _ ⟨bz0 aa.o, bz1 aa.o, bz2 aa.o, ((HB.o.cell (World.block_lt_of_cell? w _ ae)).trans ae)⟩ (fun ay => ?_); clear hK K; refine nm_ 4 ?_; exact norm_ (by simp only [putAll, Act.put, mD, mE, mF]) (hCont (bo, .slice dN aw.length dU, ao) _ ⟨ay, aC.o, aa.o, ab.o, ag.o, az.o, aQ.o, ac.o, am.o, aj.o, ar.o, HB.o⟩)
       skip
       refine box_step rfl (N := 4) rfl (cs := #[.int .i64 0, .slice none 0 0, .slice none 0 0]) (t := 32) (by go_simp; done) ?_; intro ao hg w43 hbox hb; replace aA := A_ (Kd.R_below aA.o hb); have ag := A_ (hbox); have az := A_ (lg_ (below_size HB.o) hg); have aQ := A_ (lg_ (below_size HB.o) hg); replace HB := bs_ HB hb; have ac := nl_ aa hg; have am := ng_ aa hg; replace aa := bb_ aa hb; have aj := nl_ ab hg; have ar := ng_ ab hg; replace ab := bb_ ab hb; clear hb hbox hg; refine hK.out _ _ ⟨bz0 aa.o, bz1 aa.o, bz2 aa.o, ((HB.o.cell (World.block_lt_of_cell? w _ ae)).trans ae)⟩ (fun ay => ?_); clear hK K; refine nm_ 4 ?_; refine one_ (i := 9) (N := some 38) (mk_ 13 3071) rfl rfl (one_of bk.o (by kernel_rfl)) (by decide) (fun K hK => ?_); refine Kd.R_append_rows_step (Kd.int .i64) (w0 := w) w.heap.size (by rfl) (.tmp 35) (.tmp 37) 23 3 (.int .i64 0) 8 rfl Try.underlying23 info3 rfl (by decide) (by omega) bo bh ak _ _ _ (fun _ => True) (fun _ => False) rfl rfl ?aO ?aR (fun _ _ h => h) (fun _ h => h.elim) ?aF ?aB ?aS ?aL ?_
       (case aR => exact (Kd.C_below aT.o HB.o))
       (case aB => exact HB.o)
       (case aF => exact (fun _ _ => trivial))
       (case aO => exact aA.o)
       (case aS => exact (below_size HB.o))
       (case aL => have := bu.o; omega)
       intro cx w44 ho hb hg hat; rw [← bv.o] at ho; replace aa := gR_ aA aa hg; replace ab := gR_ aA ab hg; replace ag := gR_ aA ag hg; replace HB := A_ (hb); have aC := A_ (ho); clear aA ho hb hg hat; obtain ⟨b6, b9, bw⟩ := Kd.R_slice aC.o
       (first | subst bw | (injection bw with f1_ f2_ f3_; have f4_ := f1_.symm; have f5_ := f3_.symm; clear f1_ f2_ f3_; subst f4_; subst f5_))
       refine hK.out _ _ ⟨bz0 aa.o, bz1 aa.o, bz2 aa.o, ((HB.o.cell (World.block_lt_of_cell? w _ ae)).trans ae)⟩ (fun ay => ?_); clear hK K; refine nm_ 38 ?_; refine pw_ 10 39 (mk_ 13 4095) bk ?_; exact norm_ (by simp only [putAll, Act.put, mD, mE, mF]) (hCont (bo, .slice b6 aw.length b9, ao) _ ⟨ay, aC.o, aa.o, ab.o, ag.o, az.o, aQ.o, ac.o, am.o, aj.o, ar.o, HB.o⟩)
      skip
      refine box_step rfl (N := 4) rfl (cs := #[.int .i64 0, .slice none 0 0, .slice none 0 0]) (t := 32) (by go_simp; done) ?_; intro ao hg w41 hbox hb; have ag := A_ (hbox); have az := A_ (lg_ (below_size HB.o) hg); have aQ := A_ (lg_ (below_size HB.o) hg); replace HB := bs_ HB hb; have ac := nl_ aa hg; have am := ng_ aa hg; replace aa := bb_ aa hb; have aj := nl_ ab hg; have ar := ng_ ab hg; replace ab := bb_ ab hb; clear hb hbox hg; refine hK.out _ _ ⟨bz0 aa.o, bz1 aa.o, bz2 aa.o, ((HB.o.cell (World.block_lt_of_cell? w _ ae)).trans ae)⟩ (fun ay => ?_); clear hK K; refine nm_ 4 ?_; refine one_ (i := 6) (N := some 35) (mk_ 13 2559) rfl rfl (one_of bk.o (by kernel_rfl)) (by decide) (fun K hK => ?_); refine Kd.R_lit_step (Kd.int .i64) _ 3 ?hg (N := 35) ?hd (xs := ([rd ak 0] : List Int)) (inner := [.int .i64 (rd ak 0)]) (ok := fun _ => True) (okp := fun _ => True) ?hr ?hp (fun _ hk => hk) trivial (Below.refl _ _) (Nat.le_refl _) (by simp) ?_; (case hd | hg => rfl); (case hr => go_simp; done); (case hp => exact (Reps.one (show Kd.M (Kd.int .i64) _ _ _ (rd ak 0) [.int .i64 (rd ak 0)] from rfl) (Reps.none _ _))); intro bo w42 cg hb hg_ hnew_; clear hg_ hnew_
      (rw [← bZ.o] at cg)
      have aA := A_ (Kd.R_lower cg (below_size HB.o)); replace aa := bb_ aa hb; replace ab := bb_ ab hb; replace ag := bb_ ag hb; replace HB := bs_ HB hb; clear hb cg; refine hK.out _ _ ⟨bz0 aa.o, bz1 aa.o, bz2 aa.o, ((HB.o.cell (World.block_lt_of_cell? w _ ae)).trans ae)⟩ (fun ay => ?_); clear hK K; refine nm_ 35 ?_; refine one_ (i := 9) (N := some 38) (mk_ 13 3071) rfl rfl (one_of bk.o (by kernel_rfl)) (by decide) (fun K hK => ?_); refine Kd.R_append_rows_step (Kd.int .i64) (w0 := w) w.heap.size (by rfl) (.tmp 35) (.tmp 37) 23 3 (.int .i64 0) 8 rfl Try.underlying23 info3 rfl (by decide) (by omega) bo bh ak _ _ _ (fun _ => True) (fun _ => False) rfl rfl ?aO ?aR (fun _ _ h => h) (fun _ h => h.elim) ?aF ?aB ?aS ?aL ?_
      (case aR => exact (Kd.C_below aT.o HB.o))
      (case aB => exact HB.o)
      (case aF => exact (fun _ _ => trivial))
      (case aO => exact aA.o)
      (case aS => exact (below_size HB.o))
      (case aL => have := bu.o; omega)
      intro cx w44 ho hb hg hat; rw [← bv.o] at ho; replace aa := gR_ aA aa hg; replace ab := gR_ aA ab hg; replace ag := gR_ aA ag hg; replace HB := A_ (hb); have aC := A_ (ho); clear aA ho hb hg hat; obtain ⟨b6, b9, bw⟩ := Kd.R_slice aC.o
      (first | subst bw | (injection bw with f1_ f2_ f3_; have f4_ := f1_.symm; have f5_ := f3_.symm; clear f1_ f2_ f3_; subst f4_; subst f5_))
      refine hK.out _ _ ⟨bz0 aa.o, bz1 aa.o, bz2 aa.o, ((HB.o.cell (World.block_lt_of_cell? w _ ae)).trans ae)⟩ (fun ay => ?_); clear hK K; refine nm_ 38 ?_; refine pw_ 10 39 (mk_ 13 4095) bk ?_; exact norm_ (by simp only [putAll, Act.put, mD, mE, mF]) (hCont (bo, .slice b6 aw.length b9, ao) _ ⟨ay, aC.o, aa.o, ab.o, ag.o, az.o, aQ.o, ac.o, am.o, aj.o, ar.o, HB.o⟩)
     rintro ⟨bo, cx, ao⟩ w46 ⟨ay, h0_, h1_, h2_, h3_, h4_, h5_, h6_, h7_, h8_, h9_, ce⟩
     clear aa ab HB; try dsimp only at ay h0_ h1_ h2_ h3_ h4_ h5_ h6_ h7_ h8_ h9_ ce
     have aC := A_ h0_; have aa := A_ h1_; have ab := A_ h2_; have ag := A_ h3_; have az := A_ h4_; have aQ := A_ h5_; have ac := A_ h6_; have am := A_ h7_; have aj := A_ h8_; have ar := A_ h9_; have HB := A_ ce; clear h0_ h1_ h2_ h3_ h4_ h5_ h6_ h7_ h8_ h9_ ce
     obtain ⟨aE, aG, dd⟩ := Kd.R_slice aC.o
     (first | subst dd | (injection dd with f1_ f2_ f3_; have f4_ := f1_.symm; have f5_ := f3_.symm; clear f1_ f2_ f3_; subst f4_; subst f5_))
     refine norm_ (by simp only [putAll, Act.put, mD, mE, mF]; rfl) ?_
     refine one_ (i := 12) (N := none) (mk_ 13 8191) rfl rfl (one_of bk.o (by kernel_rfl)) (by decide) (fun K hK => ?_)
     have hs48 : w46.cell? ⟨ao, 0, none⟩ = some (.int .i64 0) := bz0 ag.o
     have hfs48 := blk_frozen ag.o 0; have hns48_0 := ac.o; have hns48_1 := aj.o; have hms48_0 := am.o; have hms48_1 := ar.o
     have hs49 : w46.cell? ⟨ao, 1, none⟩ = some (.slice none 0 0) := bz1 ag.o
     have hfs49 := blk_frozen ag.o 1; have hns49_0 := ac.o; have hns49_1 := aj.o; have hms49_0 := am.o; have hms49_1 := ar.o
     have hs50 : w46.cell? ⟨ao, 2, none⟩ = some (.slice none 0 0) := bz2 ag.o
     have hfs50 := blk_frozen ag.o 2; have hns50_0 := ac.o; have hns50_1 := aj.o; have hms50_0 := am.o; have hms50_1 := ar.o; refine skip_ (w1 := ?_) (by rfl) rfl ?_ ?_; rotate_left
     ·go_simp
      rfl
     refine hK.out _ _ ⟨((cell_far (p := ⟨ao, _, none⟩) ac.o _).trans (((cell_far (p := ⟨ao, _, none⟩) ac.o _).trans (((cell_far (p := ⟨ao, _, none⟩) ac.o _).trans (ay.1)))))), ((cell_far (p := ⟨ao, _, none⟩) ac.o _).trans (((cell_far (p := ⟨ao, _, none⟩) ac.o _).trans (((cell_far (p := ⟨ao, _, none⟩) ac.o _).trans (ay.2.1)))))), ((cell_far (p := ⟨ao, _, none⟩) ac.o _).trans (((cell_far (p := ⟨ao, _, none⟩) ac.o _).trans (((cell_far (p := ⟨ao, _, none⟩) ac.o _).trans (ay.2.2.1)))))), ((cell_far (p := ⟨ao, _, none⟩) (by first | exact Nat.ne_of_lt (Nat.lt_of_lt_of_le (by have := World.block_lt_of_cell? _ _ ae; first | rwa [add_block] at this | exact this) az.o) | (rw [add_block]; exact Nat.ne_of_lt (Nat.lt_of_lt_of_le (by have := World.block_lt_of_cell? _ _ ae; first | rwa [add_block] at this | exact this) az.o)) | (show (Addr.add _ _).block ≠ _; rw [add_block]; exact Nat.ne_of_lt (Nat.lt_of_lt_of_le (by have := World.block_lt_of_cell? _ _ ae; first | rwa [add_block] at this | exact this) az.o)) | (dsimp only; exact Nat.ne_of_lt (Nat.lt_of_lt_of_le (by have := World.block_lt_of_cell? _ _ ae; first | rwa [add_block] at this | exact this) az.o))) _).trans (((cell_far (p := ⟨ao, _, none⟩) (by first | exact Nat.ne_of_lt (Nat.lt_of_lt_of_le (by have := World.block_lt_of_cell? _ _ ae; first | rwa [add_block] at this | exact this) az.o) | (rw [add_block]; exact Nat.ne_of_lt (Nat.lt_of_lt_of_le (by have := World.block_lt_of_cell? _ _ ae; first | rwa [add_block] at this | exact this) az.o)) | (show (Addr.add _ _).block ≠ _; rw [add_block]; exact Nat.ne_of_lt (Nat.lt_of_lt_of_le (by have := World.block_lt_of_cell? _ _ ae; first | rwa [add_block] at this | exact this) az.o)) | (dsimp only; exact Nat.ne_of_lt (Nat.lt_of_lt_of_le (by have := World.block_lt_of_cell? _ _ ae; first | rwa [add_block] at this | exact this) az.o))) _).trans (((cell_far (p := ⟨ao, _, none⟩) (by first | exact Nat.ne_of_lt (Nat.lt_of_lt_of_le (by have := World.block_lt_of_cell? _ _ ae; first | rwa [add_block] at this | exact this) az.o) | (rw [add_block]; exact Nat.ne_of_lt (Nat.lt_of_lt_of_le (by have := World.block_lt_of_cell? _ _ ae; first | rwa [add_block] at this | exact this) az.o)) | (show (Addr.add _ _).block ≠ _; rw [add_block]; exact Nat.ne_of_lt (Nat.lt_of_lt_of_le (by have := World.block_lt_of_cell? _ _ ae; first | rwa [add_block] at this | exact this) az.o)) | (dsimp only; exact Nat.ne_of_lt (Nat.lt_of_lt_of_le (by have := World.block_lt_of_cell? _ _ ae; first | rwa [add_block] at this | exact this) az.o))) _).trans (ay.2.2.2))))))⟩ (fun ay => ?_); clear hK K; refine done_ (done_of bk.o (by kernel_rfl)) ?_
     try go_wp2_with (first | ((with_reducible refine gate_dst (N := 40) rfl ?_); (try (refine gate_guard (by rfl) ?_; dsimp only)); refine Kd.R_lit (Kd.int .i64) _ 3 ?hg (N := 40) ?hd (xs := ([0] : List Int)) (inner := [.int .i64 0]) (ok := fun _ => True) (okp := fun _ => True) ?hr ?hp (fun _ hk => hk) trivial (Below.refl _ _) (Nat.le_refl _) (by simp) ?_; (case hd | hg => rfl); (case hr => go_simp; done); (case hp => exact (Reps.one (show Kd.M (Kd.int .i64) _ _ _ 0 [.int .i64 0] from rfl) (Reps.none _ _))); rintro fd w51 bR hb - -; (rw [← cN.o] at bR); have cE := A_ (Kd.R_lower (Kd.R_new' bR (Kd.R_lt (by exact (Kd.R_mono (gR3_ (tR_ aC ag)) (fun _ h_ => h_.1))))) (below_size (by repeat (first | (with_reducible first | exact HB.o | apply below_alloc | apply pw_below_drewN | apply below_drew1 | refine below_set ?_ bb.o | refine below_set ?_ bc.o | refine below_set ?_ aQ.o) | exact HB.o)))); replace aC := A_ (Kd.R_elder' (by exact (Kd.R_mono (gR3_ (tR_ aC ag)) (fun _ h_ => h_.1))) (Kd.R_base bR) hb); replace aa := A_ (blk_below (g := aD) (o := .cells #[.int .i64 al, .slice a8 ah.length a9, .slice (some aV) ak.length ba] 32 (0, 0)) (by exact fa_ ac (fa_ ac (fa_ ac aa.o))) hb); replace ab := A_ (blk_below (g := aN) (o := .cells #[.int .i64 0, .slice none 0 0, .slice none 0 0] 32 (0, 0)) (by exact fa_ aj (fa_ aj (fa_ aj ab.o))) hb); replace ag := A_ (blk_below (g := ao) (o := .cells #[.int .i64 al, .slice none 0 0, .slice aE aw.length aG] 32 (0, 0)) (by exact pu_ 2 (pu_ 1 (pu_ 0 ag.o rfl) rfl) rfl) hb); replace HB := A_ (below_step (by repeat (first | (with_reducible first | exact HB.o | apply below_alloc | apply pw_below_drewN | apply below_drew1 | refine below_set ?_ bb.o | refine below_set ?_ bc.o | refine below_set ?_ aQ.o) | exact HB.o)) hb); clear hb bR))
     go_loopg [5, 6] kj1 (fun kq v5 v6 w' => ∃ (bf : List Int) (aY : Int), v6 = .int .i64 aY ∧ Aside0 (spec_SteadyForm.l0 kq bf aY al ah ak al aw = some (r1, r2, r3, r4)) ∧ Aside0 (kq ≤ kj1) ∧ Aside0 (Kd.R (Kd.int .i64) 3 w' w.heap.size (o1 (.slice aE aw.length aG)) v5 bf) ∧ Aside0 (Kd.R (Kd.int .i64) 3 w' w.heap.size (o1 v5) (.slice aE aw.length aG) aw) ∧ Aside0 (w'.heap[aD]? = some (.cells #[.int .i64 al, (.slice a8 ah.length a9), (.slice (some aV) ak.length ba)] 32 (0, 0))) ∧ Aside0 (w'.heap[aN]? = some (.cells #[.int .i64 0, (.slice none 0 0), (.slice none 0 0)] 32 (0, 0))) ∧ Aside0 (w'.heap[ao]? = some (.cells #[.int .i64 al, (.slice none 0 0), (.slice aE aw.length aG)] 32 (0, 0))) ∧ Aside0 (Below w.heap.size w w'))
     case atStart => exact ⟨(dk), (1), (by rfl), H', ⟨Nat.le_refl _⟩, ⟨by exact Kd.R_mono cE.o (fun _ hk => hk.2)⟩, ⟨by exact Kd.R_mono aC.o (fun _ hk => hk.2)⟩, ⟨aa.o⟩, ⟨ab.o⟩, ⟨ag.o⟩, ⟨HB.o⟩⟩
     case round =>
      clear H'
      clear cV cW bM aH bS bT
      obtain ⟨bf, aY, rfl, HA, cA, bi, af, aa, ab, ag, HB⟩ := hrel
      cases gk with
      | zero => exact nz_ HA.o
      | succ k2 =>
       have H := HA.o; clear HA; simp only [spec_SteadyForm.l0] at H
       by_cases c53 : aY < al
       ·rw [if_pos c53] at H; have b0 := decide_eq_true c53; clear c53
        by_cases c54 : 0 < (ah.length : Int)
        ·rw [if_pos c54] at H; have eh := decide_eq_true c54
         have ei : decide (0 < ah.length) = true := decide_eq_true (by omega)
         clear c54
         by_cases c55 : 0 ≤ aY
         ·rw [if_pos c55] at H; have ej := decide_eq_true c55; clear c55
          by_cases c56 : aY < ((rd_L1 ah 0).length : Int)
          ·rw [if_pos c56] at H; have ek := decide_eq_true c56; clear c56
           by_cases c57 : bf.length < 17592186044416
           ·rw [if_pos c57] at H; have cI := A_ c57; clear c57; obtain ⟨dl, bC⟩ := ex_ ((bf ++ [wrap64 ((rd (rd_L1 ah 0) aY) + 1)]) : List Int); replace H : (spec_SteadyForm.l0 k2 dl (wrap64 (aY + 1)) al ah ak al aw) = some (r1, r2, r3, r4) := by (rw [bC]; with_reducible exact H)
            have cO := A_ bC; clear bC
            have H' := A_ H
            clear H; have ex := ap.o; have eS := aq.o; have ey := ac.o; have eU := am.o; have dE := bq3 aa.o
            have ch : 0 ≤ (0 : Int) := (by omega)
            have cm : 0 < (ah.length : Int) := oa_
            obtain ⟨ed, dJ, dO, dW, aX, br, bp⟩ := at_L1 aW.o 0 ch cm
            cases dW
            have qi163 : (0 < ah.length) = True := eq_true (by omega)
            (try rw [show ((0 : Int)).toNat = 0 from rfl] at aX)
            (try rw [Addr.add_zero'] at aX)
            replace aX := (HB.o.cell (World.block_lt_of_cell? w _ aX)).trans aX; have bK := A_ bp; have dp := A_ br; clear bp br; replace ch := eq_true ch; replace cm := eq_true cm
            have ci : 0 ≤ (aY : Int) := oa_
            have co : aY < ((rd_L1 ah 0).length : Int) := oa_
            obtain ⟨ee, dX, bl⟩ := Kd.at_int bK.o aY ci co
            cases dX
            replace bl := (HB.o.cell (World.block_lt_of_cell? w _ bl)).trans bl; replace ci := eq_true ci; replace co := eq_true co
            go_wp2_with (first | ((with_reducible refine gate_builtin (b := .append) (xs := #[.tmp 47, .tmp 56]) rfl ?_); (try (refine gate_guard (by rfl) ?_; dsimp only)); at_builtin; refine Kd.R_append (Kd.int .i64) (w0 := w) w.heap.size rfl (.tmp 47) (.tmp 56) 23 3 (.int .i64 0) 8 rfl Try.underlying23 info3 rfl (by decide) (by omega) u5 bf (wrap64 ((rd (rd_L1 ah 0) aY) + 1)) [.int .i64 (wrap64 ((rd (rd_L1 ah 0) aY) + 1))] (o1 (.slice aE aw.length aG)) (fun _ => False) rfl rfl ?aP (fun _ hk => hk.elim) ?aF ?aO ?aB ?aS ?aL ?_; (case aP => exact rfl); (case aB => exact HB.o); (case aF => exact (fun k_ hk => Kd.fresh' (Kd.R_lt af.o) k_ hk)); (case aO => exact bi.o); (case aS => exact (below_size HB.o)); (case aL => have := cI.o; omega); intro fe w61 ho hb hg hat; rw [← cO.o] at ho; replace af := A_ (Kd.R_after (ok := (fun _ => True)) (by exact Kd.R_mono af.o (fun _ hk => ⟨trivial, hk⟩)) hg hat); replace aa := gR_ bi aa hg; replace ab := gR_ bi ab hg; replace ag := gR_ bi ag hg; replace HB := A_ (hb); have cF := A_ (ho); clear bi; clear ho hb hg hat))
            go_roundg k2
            case measure => have := cy.o; have := cA.o; omega
            case rel => exact ⟨(dl), (wrap64 (aY + 1)), (by rfl), H', ⟨by have := cy.o; have := cA.o; omega⟩, ⟨cF.o⟩, ⟨by exact Kd.R_mono af.o (fun _ hk => hk.2)⟩, ⟨aa.o⟩, ⟨ab.o⟩, ⟨ag.o⟩, ⟨HB.o⟩⟩
           rw [if_neg c57] at H
           cases H
          rw [if_neg c56] at H
          cases H
         rw [if_neg c55] at H
         cases H
        rw [if_neg c54] at H
        cases H
       rw [if_neg c53] at H; have b0 := decide_eq_false c53; clear c53
       by_cases c62 : ([] : List (List Int)).length < 5864062014805
       ·rw [if_pos c62] at H; have cJ := A_ c62; clear c62; obtain ⟨bH, bD⟩ := ex_ ((([] : List (List Int)) ++ [bf]) : List (List Int)); replace H : (spec_SteadyForm.l1 k2 0 al ah ak al bH aw) = some (r1, r2, r3, r4) := by (rw [bD]; with_reducible exact H)
        have cP := A_ bD; clear bD
        have H' := A_ H
        clear H; have ez := ap.o; have eV := aq.o; have eB := ac.o; have eW := am.o; have bN := bq3 aa.o; have eC := ar.o; have eX := aj.o; have bO := bq3 ag.o; obtain ⟨cC, cZ, d5⟩ := Kd.R_slice bi.o; subst d5
        go_wp2_with (first | ((with_reducible refine gate_builtin (b := .append) (xs := #[.tmp 59, .tmp 61]) rfl ?_); (try (refine gate_guard (by rfl) ?_; dsimp only)); at_builtin; refine Kd.S_append (Kd.slice 3 (Kd.int .i64)) (w0 := w) w.heap.size rfl (.tmp 59) (.tmp 61) 22 23 (.slice none 0 0) 24 rfl Try.underlying22 info23 rfl (by decide) (by omega) (.slice none 0 0) ([] : List (List Int)) bf [.slice cC bf.length cZ] (o1 (.slice aE aw.length aG)) (fun k_ => some k_ = (.slice cC bf.length cZ : Value).ownBlock) rfl rfl ?aP (fun k_ hk_ => ((Kd.R_mono (ok' := fun k_ => ((o1 (.slice aE aw.length aG))) k_ ∧ some k_ ≠ (.slice none 0 0 : Value).ownBlock) (bi.o) (fun k_ hk => ⟨hk, (by simp [Value.ownBlock])⟩))).1 k_ hk_.symm) ?aF ?aO ?aB ?aS ?aL ?_; (case aP => exact Kd.M_row (Kd.R_mono (Kd.R_tight rfl (Kd.R_mono (ok' := fun k_ => ((o1 (.slice aE aw.length aG))) k_ ∧ some k_ ≠ (.slice none 0 0 : Value).ownBlock) (bi.o) (fun k_ hk => ⟨hk, (by simp [Value.ownBlock])⟩))) (fun _ h_ => h_))); (case aB => exact HB.o); (case aF => exact (fun k_ hk => Kd.fresh' (Kd.R_lt af.o) k_ hk)); (case aO => exact ((Kd.S_nil _ _ _ _ _))); (case aS => exact (below_size HB.o)); (case aL => have := cJ.o; omega); intro ff w68 ho hb hg hat; rw [← cP.o] at ho; replace af := A_ (Kd.R_grown af.o hg (fun _ _ => by simp [Value.ownBlock])); replace aa := A_ (blk_grown (g := aD) (o := .cells #[.int .i64 al, .slice a8 ah.length a9, .slice (some aV) ak.length ba] 32 (0, 0)) aa.o hg (by simp [Value.ownBlock])); replace ab := A_ (blk_grown (g := aN) (o := .cells #[.int .i64 0, .slice none 0 0, .slice none 0 0] 32 (0, 0)) ab.o hg (by simp [Value.ownBlock])); replace ag := A_ (blk_grown (g := ao) (o := .cells #[.int .i64 al, .slice none 0 0, .slice aE aw.length aG] 32 (0, 0)) ag.o hg (by simp [Value.ownBlock])); replace HB := A_ (hb); have bX := A_ (ho); clear bi; clear ho hb hg hat; obtain ⟨b7, cc, d6⟩ := Kd.S_slice bX.o; subst d6; have bP := bq3 ag.o))
        go_loopg [7] k2 (fun kq v7 w' => ∃ (aM : Int) (au : List (List Int)) (aI : Value), v7 = .int .i64 aM ∧ Aside0 (spec_SteadyForm.l1 kq aM al ah ak al au aw = some (r1, r2, r3, r4)) ∧ Aside0 (kq ≤ k2) ∧ Aside0 (Kd.S (Kd.slice 3 (Kd.int .i64)) 23 w' w.heap.size (o1 (.slice aE aw.length aG)) aI au) ∧ Aside0 (Kd.R (Kd.int .i64) 3 w' w.heap.size (fun _ => True) (.slice aE aw.length aG) aw) ∧ Aside0 (w'.heap[aD]? = some (.cells #[.int .i64 al, (.slice a8 ah.length a9), (.slice (some aV) ak.length ba)] 32 (0, 0))) ∧ Aside0 (w'.heap[aN]? = some (.cells #[.int .i64 0, (.slice none 0 0), (.slice none 0 0)] 32 (0, 0))) ∧ Aside0 (w'.heap[ao]? = some (.cells #[.int .i64 al, aI, (.slice aE aw.length aG)] 32 (0, 0))) ∧ Aside0 (Below w.heap.size w w'))
        case atStart => exact ⟨(0), (bH), (.slice b7 bH.length cc), (by rfl), H', ⟨Nat.le_refl _⟩, ⟨by exact Kd.S_mono (Kd.S_far (p := ⟨ao, 1, none⟩) (Kd.S_types bX.o ag.o (by decide)) (fun _ hk => hk.2) (.slice b7 bH.length cc)) (fun _ hk => hk.1)⟩, ⟨by exact Kd.R_mono (Kd.R_far (p := ⟨ao, 1, none⟩) (Kd.R_types af.o ag.o (by decide)) (fun _ hk => hk.2) (.slice b7 bH.length cc)) (fun _ hk => trivial)⟩, ⟨by exact fa_ ac aa.o⟩, ⟨by exact fa_ aj ab.o⟩, ⟨by exact pu_ 1 ag.o rfl⟩, ⟨by repeat (first | (with_reducible first | exact HB.o | apply below_alloc | apply pw_below_drewN | apply below_drew1 | refine below_set ?_ bb.o | refine below_set ?_ bc.o | refine below_set ?_ aQ.o) | exact HB.o)⟩⟩
        case round =>
         clear H'
         clear b0 bN bO bP
         obtain ⟨aM, au, aI, rfl, HA, dr, ai, af, aa, ab, ag, HB⟩ := hrel
         cases gk with
         | zero => exact nz_ HA.o
         | succ k3 =>
          have H := HA.o; clear HA; simp only [spec_SteadyForm.l1] at H
          by_cases c72 : aM < (ah.length : Int)
          ·rw [if_pos c72] at H; have b1 := decide_eq_true c72; clear c72; obtain ⟨dm, bE⟩ := ex_ ((([] : List Int)) : List Int); replace H : (spec_SteadyForm.l2 k3 aM dm 0 al ah ak al au aw) = some (r1, r2, r3, r4) := by (rw [bE]; with_reducible exact H)
           have cQ := A_ bE; clear bE
           have H' := A_ H
           clear H; have eD := ap.o; have eY := aq.o; have eE := ac.o; have eZ := am.o; have bQ := bq3 aa.o
           go_wp2_with (first | ((with_reducible refine gate_dst (N := 71) rfl ?_); (try (refine gate_guard (by rfl) ?_; dsimp only)); refine Kd.R_lit (Kd.int .i64) _ 3 ?hg (N := 71) ?hd (xs := ([] : List Int)) (inner := []) (ok := fun _ => True) (okp := fun _ => True) ?hr ?hp (fun _ hk => hk) trivial (Below.refl _ _) (Nat.le_refl _) (by simp) ?_; (case hd | hg => rfl); (case hr => go_simp; done); (case hp => exact (Reps.none _ _)); rintro fg w76 bx hb - -; (rw [← cQ.o] at bx); replace ai := A_ (Kd.S_elder' ai.o (Kd.R_base bx) hb); have cG := A_ (Kd.R_lower (Kd.R_new' bx (Kd.R_lt af.o)) (below_size HB.o)); replace af := A_ (Kd.R_elder' af.o (Kd.R_base bx) hb); replace aa := bb_ aa hb; replace ab := bb_ ab hb; replace ag := bb_ ag hb; replace HB := bs_ HB hb; clear hb bx))
           go_loopg [8, 9] k3 (fun kq v8 v9 w' => ∃ (bg : List Int) (aZ : Int), v9 = .int .i64 aZ ∧ Aside0 (spec_SteadyForm.l2 kq aM bg aZ al ah ak al au aw = some (r1, r2, r3, r4)) ∧ Aside0 (kq ≤ k3) ∧ Aside0 (Kd.R (Kd.int .i64) 3 w' w.heap.size (o1 (.slice aE aw.length aG)) v8 bg) ∧ Aside0 (Kd.S (Kd.slice 3 (Kd.int .i64)) 23 w' w.heap.size (o2 v8 (.slice aE aw.length aG)) aI au) ∧ Aside0 (Kd.R (Kd.int .i64) 3 w' w.heap.size (o1 v8) (.slice aE aw.length aG) aw) ∧ Aside0 (w'.heap[aD]? = some (.cells #[.int .i64 al, (.slice a8 ah.length a9), (.slice (some aV) ak.length ba)] 32 (0, 0))) ∧ Aside0 (w'.heap[aN]? = some (.cells #[.int .i64 0, (.slice none 0 0), (.slice none 0 0)] 32 (0, 0))) ∧ Aside0 (w'.heap[ao]? = some (.cells #[.int .i64 al, aI, (.slice aE aw.length aG)] 32 (0, 0))) ∧ Aside0 (Below w.heap.size w w'))
           case atStart => exact ⟨(dm), (0), (by rfl), H', ⟨Nat.le_refl _⟩, ⟨by exact Kd.R_mono cG.o (fun _ hk => hk.2)⟩, ⟨by exact Kd.S_mono ai.o (fun _ hk => ⟨hk.2, hk.1⟩)⟩, ⟨by exact Kd.R_mono af.o (fun _ hk => hk.2)⟩, ⟨aa.o⟩, ⟨ab.o⟩, ⟨ag.o⟩, ⟨HB.o⟩⟩
           case round =>
            clear H'
            clear b1 bQ
            obtain ⟨bg, aZ, rfl, HA, dt, bj, ai, af, aa, ab, ag, HB⟩ := hrel
            cases gk with
            | zero => exact nz_ HA.o
            | succ k4 =>
             have H := HA.o; clear HA; simp only [spec_SteadyForm.l2] at H
             by_cases c78 : aZ < al
             ·rw [if_pos c78] at H; have cX := decide_eq_true c78; clear c78
              by_cases c79 : 0 ≤ aM
              ·rw [if_pos c79] at H; have el := decide_eq_true c79; clear c79
               by_cases c80 : aM < (ah.length : Int)
               ·rw [if_pos c80] at H; have em := decide_eq_true c80; clear c80
                by_cases c81 : 0 ≤ aZ
                ·rw [if_pos c81] at H; have en := decide_eq_true c81; clear c81
                 by_cases c82 : aZ < ((rd_L1 ah aM).length : Int)
                 ·rw [if_pos c82] at H; have eo := decide_eq_true c82; clear c82
                  by_cases c83 : bg.length < 17592186044416
                  ·rw [if_pos c83] at H; have cK := A_ c83; clear c83; obtain ⟨dn, bF⟩ := ex_ ((bg ++ [wrap64 ((rd (rd_L1 ah aM) aZ) + 1)]) : List Int); replace H : (spec_SteadyForm.l2 k4 aM dn (wrap64 (aZ + 1)) al ah ak al au aw) = some (r1, r2, r3, r4) := by (rw [bF]; with_reducible exact H)
                   have cS := A_ bF; clear bF
                   have H' := A_ H
                   clear H; have eF := ap.o; have e0 := aq.o; have eG := ac.o; have e3 := am.o; have dF := bq3 aa.o
                   have cj : 0 ≤ (aM : Int) := oa_
                   have cq : aM < (ah.length : Int) := oa_
                   obtain ⟨ef, dK, dP, dY, bm, bs, bq⟩ := at_L1 aW.o aM cj cq
                   cases dY
                   replace bm := (HB.o.cell (World.block_lt_of_cell? w _ bm)).trans bm; have bL := A_ bq; have dq := A_ bs; clear bq bs; replace cj := eq_true cj; replace cq := eq_true cq
                   have ck : 0 ≤ (aZ : Int) := oa_
                   have cr : aZ < ((rd_L1 ah aM).length : Int) := oa_
                   obtain ⟨eg, dZ, bn⟩ := Kd.at_int bL.o aZ ck cr
                   cases dZ
                   replace bn := (HB.o.cell (World.block_lt_of_cell? w _ bn)).trans bn; replace ck := eq_true ck; replace cr := eq_true cr
                   go_wp2_with (first | ((with_reducible refine gate_builtin (b := .append) (xs := #[.tmp 78, .tmp 88]) rfl ?_); (try (refine gate_guard (by rfl) ?_; dsimp only)); at_builtin; refine Kd.R_append (Kd.int .i64) (w0 := w) w.heap.size rfl (.tmp 78) (.tmp 88) 23 3 (.int .i64 0) 8 rfl Try.underlying23 info3 rfl (by decide) (by omega) u8 bg (wrap64 ((rd (rd_L1 ah aM) aZ) + 1)) [.int .i64 (wrap64 ((rd (rd_L1 ah aM) aZ) + 1))] (o1 (.slice aE aw.length aG)) (fun _ => False) rfl rfl ?aP (fun _ hk => hk.elim) ?aF ?aO ?aB ?aS ?aL ?_; (case aP => exact rfl); (case aB => exact HB.o); (case aF => exact (fun k_ hk => Kd.fresh' (Kd.R_lt af.o) k_ hk)); (case aO => exact bj.o); (case aS => exact (below_size HB.o)); (case aL => have := cK.o; omega); intro fh w87 ho hb hg hat; rw [← cS.o] at ho; replace ai := A_ (Kd.S_after (ok := (o1 (.slice aE aw.length aG))) (by exact Kd.S_mono ai.o (fun _ hk => ⟨hk.2, hk.1⟩)) hg hat); replace af := A_ (Kd.R_after (ok := (fun _ => True)) (by exact Kd.R_mono af.o (fun _ hk => ⟨trivial, hk⟩)) hg hat); replace aa := gR_ bj aa hg; replace ab := gR_ bj ab hg; replace ag := gR_ bj ag hg; replace HB := A_ (hb); have cH := A_ (ho); clear bj; clear ho hb hg hat))
                   go_roundg k4
                   case measure => have := cy.o; have := cA.o; have := dr.o; have := dt.o; omega
                   case rel => exact ⟨(dn), (wrap64 (aZ + 1)), (by rfl), H', ⟨by have := cy.o; have := cA.o; have := dr.o; have := dt.o; omega⟩, ⟨cH.o⟩, ⟨by exact Kd.S_mono ai.o (fun _ hk => ⟨hk.2, hk.1⟩)⟩, ⟨by exact Kd.R_mono af.o (fun _ hk => hk.2)⟩, ⟨aa.o⟩, ⟨ab.o⟩, ⟨ag.o⟩, ⟨HB.o⟩⟩
                  rw [if_neg c83] at H
                  cases H
                 rw [if_neg c82] at H
                 cases H
                rw [if_neg c81] at H
                cases H
               rw [if_neg c80] at H
               cases H
              rw [if_neg c79] at H
              cases H
             rw [if_neg c78] at H; have cX := decide_eq_false c78; clear c78
             by_cases c88 : au.length < 5864062014805
             ·rw [if_pos c88] at H; have cL := A_ c88; clear c88; obtain ⟨bI, bG⟩ := ex_ ((au ++ [bg]) : List (List Int)); replace H : (spec_SteadyForm.l1 k4 (wrap64 (aM + 1)) al ah ak al bI aw) = some (r1, r2, r3, r4) := by (rw [bG]; with_reducible exact H)
              have cU := A_ bG; clear bG
              have H' := A_ H
              clear H; have eH := ap.o; have e4 := aq.o; have eI := ac.o; have e5 := am.o; have dG := bq3 aa.o; have eJ := ar.o; have e6 := aj.o; have dH := bq3 ag.o; obtain ⟨cD, da, d7⟩ := Kd.R_slice bj.o; subst d7
              go_wp2_with (first | ((with_reducible refine gate_builtin (b := .append) (xs := #[.tmp 91, .tmp 93]) rfl ?_); (try (refine gate_guard (by rfl) ?_; dsimp only)); at_builtin; refine Kd.S_append (Kd.slice 3 (Kd.int .i64)) (w0 := w) w.heap.size rfl (.tmp 91) (.tmp 93) 22 23 (.slice none 0 0) 24 rfl Try.underlying22 info23 rfl (by decide) (by omega) aI au bg [.slice cD bg.length da] (o1 (.slice aE aw.length aG)) (fun k_ => some k_ = (.slice cD bg.length da : Value).ownBlock) rfl rfl ?aP (fun k_ hk_ => ((Kd.R_mono (ok' := fun k_ => ((o1 (.slice aE aw.length aG))) k_ ∧ some k_ ≠ (aI : Value).ownBlock) (Kd.R_apart' (bj.o) (Kd.S_typed ai.o) (by decide)) (fun k_ hk => ⟨hk.1, hk.2⟩))).1 k_ hk_.symm) ?aF ?aO ?aB ?aS ?aL ?_; (case aP => exact Kd.M_row (Kd.R_mono (Kd.R_tight rfl (Kd.R_mono (ok' := fun k_ => ((o1 (.slice aE aw.length aG))) k_ ∧ some k_ ≠ (aI : Value).ownBlock) (Kd.R_apart' (bj.o) (Kd.S_typed ai.o) (by decide)) (fun k_ hk => ⟨hk.1, hk.2⟩))) (fun _ h_ => h_))); (case aB => exact HB.o); (case aF => exact (fun k_ hk => Kd.fresh' (Kd.R_lt af.o) k_ hk)); (case aO => exact (by exact Kd.S_mono ai.o (fun k_ hk => ⟨hk.2, fun e_ => hk.1 e_⟩))); (case aS => exact (below_size HB.o)); (case aL => have := cL.o; omega); intro fi w94 ho hb hg hat; rw [← cU.o] at ho; replace af := A_ (Kd.R_over' af.o (Kd.S_typed ai.o) (by decide) hg); replace aa := gS_ ai aa hg; replace ab := gS_ ai ab hg; replace ag := gS_ ai ag hg; replace HB := A_ (hb); have bY := A_ (ho); clear ai bj; clear ho hb hg hat; obtain ⟨b8, cd, d8⟩ := Kd.S_slice bY.o; subst d8; have dI := bq3 ag.o))
              go_roundg k4
              case measure => have := cy.o; have := cA.o; have := dr.o; have := dt.o; omega
              case rel => exact ⟨(wrap64 (aM + 1)), (bI), (.slice b8 bI.length cd), (by rfl), H', ⟨by have := cy.o; have := cA.o; have := dr.o; have := dt.o; omega⟩, ⟨by exact Kd.S_mono (Kd.S_far (p := ⟨ao, 1, none⟩) (Kd.S_types bY.o ag.o (by decide)) (fun _ hk => hk.2) (.slice b8 bI.length cd)) (fun _ hk => hk.1)⟩, ⟨by exact Kd.R_mono (Kd.R_far (p := ⟨ao, 1, none⟩) (Kd.R_types af.o ag.o (by decide)) (fun _ hk => hk.2) (.slice b8 bI.length cd)) (fun _ hk => trivial)⟩, ⟨by exact fa_ ac aa.o⟩, ⟨by exact fa_ aj ab.o⟩, ⟨by exact pu_ 1 ag.o rfl⟩, ⟨by repeat (first | (with_reducible first | exact HB.o | apply below_alloc | apply pw_below_drewN | apply below_drew1 | refine below_set ?_ bb.o | refine below_set ?_ bc.o | refine below_set ?_ aQ.o) | exact HB.o)⟩⟩
             rw [if_neg c88] at H
             cases H
          rw [if_neg c72] at H; have b1 := decide_eq_false c72; clear c72; simp only [Option.some.injEq, Prod.mk.injEq] at H; obtain ⟨rfl, rfl, rfl, rfl⟩ := H; have eK := ap.o; have e7 := aq.o; have eL := ac.o; have e8 := am.o; have de := bq3 aa.o; have d9 := ar.o; have ea := aj.o; have df := bq3 ag.o; have dg := bq3 ab.o; obtain ⟨cB, cY, db⟩ := Kd.S_slice ai.o; subst db
          go_wp2
          refine bodyPost_ret (results_ct rfl _ _ aN 32 #[.int .i64 al, .slice cB au.length cY, .slice aE aw.length aG] (0, 0) _ rfl (by exact pu_ 2 (pu_ 1 (pu_ 0 ab.o rfl) rfl) rfl) Try.underlying32 rfl (by kernel_rfl)) rfl ?_; exact ⟨_, _, by rfl, by exact Kd.S_mono (gS3_ (tS_ ai ab)) (fun _ hk => hk.1), by exact Kd.R_mono (gR3_ (tR_ af ab)) (fun _ hk => trivial), by repeat (first | (with_reducible first | exact HB.o | apply below_alloc | apply pw_below_drewN | apply below_drew1 | refine below_set ?_ bb.o | refine below_set ?_ bc.o | refine below_set ?_ aQ.o) | exact HB.o)⟩
       rw [if_neg c62] at H
       cases H
    rw [if_neg c36] at H
    cases H
   rw [if_neg c35] at H
   cases H

end Go.Proofs.Ytgmfjcckmapkbaa.PFnExactCountingForm

