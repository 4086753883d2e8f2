/- Walks of the functions that the law reaches. -/
import Derived.Test.YtnhpbmagbajliaaPFnBordersx4
namespace Go.Proofs.Ytnhpbmagbajliaa.PFnBorders
open Go.RowKit Go.Proofs.YtnhpbmagbajliaaW.PrintWords Go.Proofs.YtnhpbmagbajliaaW.PrintLast Go.Proofs.YtnhpbmagbajliaaW.PrintMore
attribute [local go_sem] max2_int min2_int max_two min_two max_three min_three max_four min_four
set_option linter.unusedVariables false
set_option maxHeartbeats 8000000
set_option maxRecDepth 100000
set_option linter.unusedSimpArgs false

def spec_TermAt.j0 : Nat → Int → Bool → Int → List (List Int) → List Int → Option (Int)
 | 0, _, _, _, _, _ => none
 | k + 1, x1, x18, x327000, x327001, x327002 => if x18 = true then (some (-1)) else ((spec_DigitsOf.f k x1 x327000).bind fun t329 => ((spec_StateAfter.f k x327000 x327001 x327002 t329).bind fun t332 => (if 0 ≤ t332 then (if t332 < (x327002.length : Int) then (some (rd x327002 t332)) else (none)) else (none))))
def spec_TermAt.f (k : Nat) (a0_0 : Int) (l0_1 : List (List Int)) (l0_2 : List Int) (a1 : Int) : Option (Int) := if a1 < 0 then (spec_TermAt.j0 k a1 true a0_0 l0_1 l0_2) else ((spec_IsSequence.f k a0_0 l0_1 l0_2).bind fun t327 => (if t327 = true then ((spec_PowerOf.f k a0_0 16).bind fun t328 => (spec_TermAt.j0 k a1 (decide (a1 ≥ t328)) a0_0 l0_1 l0_2)) else (spec_TermAt.j0 k a1 true a0_0 l0_1 l0_2)))
def spec_TermAt.T3 : Bool × List (List Nat × List Nat) := (true, [([], []), ([0], [0]), ([], []), ([], []), ([], []), ([4], [4]), ([3, 5], [3, 5]), ([2, 6, 6], [2, 6]), ([1, 7], [1, 7]), ([8], [8]), ([9, 7, 0, 1, 2, 3, 4, 5, 6, 7, 8, 9], [9])])
def spec_TermAt.B3 : List Nat := [0, 1, 0, 0, 0, 16, 56, 124, 255, 511, 1023]
theorem spec_TermAt.tab3 : rtab .any (opsOf Try.f82 3) = spec_TermAt.T3 := by kernel_rfl
theorem spec_TermAt.bits3 : waitsOk spec_TermAt.T3.2 spec_TermAt.B3 = true := by kernel_rfl
theorem spec_TermAt.calls (k : Nat) (a0_0 : Int) (A0_1 : Option Addr) (c0_1 : Nat) (l0_1 : List (List Int)) (A0_2 : Option Addr) (c0_2 : Nat) (l0_2 : List Int) (a1 : Int) (r : Int) (w : World) (hr0_1 : Kd.C (Kd.slice 3 (Kd.int .i64)) w A0_1 l0_1.length l0_1) (hc0_1 : l0_1.length ≤ c0_1) (hr0_2 : Kd.C (Kd.int .i64) w A0_2 l0_2.length l0_2) (hc0_2 : l0_2.length ≤ c0_2) (h : spec_TermAt.f k a0_0 l0_1 l0_2 a1 = some r) :
  Calls Try.prog 82 #[.agg #[.int .i64 a0_0, .slice A0_1 l0_1.length c0_1, .slice A0_2 l0_2.length c0_2], .int .i64 a1] w fun e w' => e = .returned (.int .i64 r) ∧ Below w.heap.size w w' := by
 have hu58 := Try.underlying58; have HR0_1 := A_ hr0_1; have HC0_1 := A_ hc0_1; clear hr0_1 hc0_1; have HR0_2 := A_ hr0_2; have HC0_2 := A_ hc0_2; clear hr0_2 hc0_2; have HB := A_ (Below.refl w.heap.size w); unfold spec_TermAt.f at h; have H := h; clear h; have HC3 := A_ H; clear H; go_enter Try.func82, Try.ntmps82
 go_upto_region 1 with (first | ((with_reducible refine gate_dst (N := 2) rfl ?_); refine box_event ?hg (N := 2) ?hd (cs := #[.int .i64 a0_0, .slice A0_1 l0_1.length c0_1, .slice A0_2 l0_2.length c0_2]) (t := 58) ?hr ?_; (case hd | hg => rfl); (case hr => go_simp; done); intro gb326 hg w4 hbox hb; have BK326 := A_ (hbox); have GW326 := A_ (lg_ (below_size HB.out) hg); have GE326 := A_ (lg_ (below_size HB.out) hg); replace HB := bs_ HB hb; clear hb hbox hg))
 (try simp only [Act.put, mD, mE, mF])
 go_cut [18] (fun v18 wc => ∃ (kq : Nat) (x18_2 : Bool), v18 = .bool x18_2 ∧ Aside0 (spec_TermAt.j0 kq a1 x18_2 a0_0 l0_1 l0_2 = some r) ∧ Aside0 (kq ≤ k) ∧ Aside0 (wc.heap[gb326]? = some (.cells #[.int .i64 a0_0, (.slice A0_1 l0_1.length c0_1), (.slice A0_2 l0_2.length c0_2)] 58 (0, 0))) ∧ Aside0 (Below w.heap.size w wc))
 case first =>
  have H := HC3.out; clear HC3
  by_cases c5 : a1 < 0
  ·rw [if_pos c5] at H; have c5b0 := decide_eq_true c5; clear c5
   (skip)
   have H' := A_ H
   clear H
   go_wp2
   go_meet
   case rel => exact ⟨_, (true), (by rfl), H', ⟨by omega⟩, ⟨BK326.out⟩, ⟨HB.out⟩⟩
  rw [if_neg c5] at H; have c5b0 := decide_eq_false c5; clear c5
  (skip)
  replace H := bA_ H; obtain ⟨t327, A6, H⟩ := H
  by_cases c7 : t327 = true
  ·subst c7; rw [if_pos rfl] at H; replace H := bA_ H; obtain ⟨t328, A8, H⟩ := H
   have H' := A_ H
   clear H; have hcz9_0 := bz0 BK326.out; have hcz9_1 := bz1 BK326.out; have hcz9_2 := bz2 BK326.out; have hfz9_0 := blk_frozen BK326.out 0; have hfz9_1 := blk_frozen BK326.out 1; have hfz9_2 := blk_frozen BK326.out 2
   go_wp2_with (first | (go_at_call 81; (with_reducible refine (spec_IsSequence.calls k a0_0 _ _ l0_1 _ _ l0_2 true _ ?side1 ?side2 ?side3 ?side4 A6.out).mono ?_); (case side1 => exact (Kd.C_below HR0_1.out HB.out)); (case side2 => exact HC0_1.out); (case side3 => exact (Kd.C_below HR0_2.out HB.out)); (case side4 => exact HC0_2.out); rintro e w10 ⟨rfl, hb⟩; replace BK326 := bb_ BK326 hb; replace HB := bs_ HB hb; clear hb; have hcz11_0 := bz0 BK326.out; have hcz11_1 := bz1 BK326.out; have hcz11_2 := bz2 BK326.out; have hfz11_0 := blk_frozen BK326.out 0; have hfz11_1 := blk_frozen BK326.out 1; have hfz11_2 := blk_frozen BK326.out 2) | (go_at_call 89; (with_reducible refine (spec_PowerOf.calls k a0_0 16 t328 _ A8.out).mono ?_); rintro e w' ⟨rfl, ⟨nd, rfl⟩⟩))
   go_meet
   case rel => exact ⟨_, (decide (a1 ≥ t328)), (by rfl), H', ⟨by omega⟩, ⟨by (with_reducible repeat (first | refine blk_drewN ?_ _ | refine blk_drew ?_ | refine blk_alloc ?_ _)); exact BK326.out⟩, ⟨by repeat (first | (with_reducible first | exact HB.out | apply below_alloc | apply pw_below_drewN | apply below_drew1 | refine below_set ?_ GE326.out) | exact HB.out)⟩⟩
  replace c7 := Bool.eq_false_iff.mpr c7; subst c7; rw [if_neg nf_] at H
  have H' := A_ H
  clear H; have hcz12_0 := bz0 BK326.out; have hcz12_1 := bz1 BK326.out; have hcz12_2 := bz2 BK326.out; have hfz12_0 := blk_frozen BK326.out 0; have hfz12_1 := blk_frozen BK326.out 1; have hfz12_2 := blk_frozen BK326.out 2
  go_wp2_with (first | (go_at_call 81; (with_reducible refine (spec_IsSequence.calls k a0_0 _ _ l0_1 _ _ l0_2 false _ ?side1 ?side2 ?side3 ?side4 A6.out).mono ?_); (case side1 => exact (Kd.C_below HR0_1.out HB.out)); (case side2 => exact HC0_1.out); (case side3 => exact (Kd.C_below HR0_2.out HB.out)); (case side4 => exact HC0_2.out); rintro e w13 ⟨rfl, hb⟩; replace BK326 := bb_ BK326 hb; replace HB := bs_ HB hb; clear hb; (try clear hi)))
  go_meet
  case rel => exact ⟨_, (true), (by rfl), H', ⟨by omega⟩, ⟨BK326.out⟩, ⟨HB.out⟩⟩
 case rest =>
  clear HC3; obtain ⟨kq, x18_2, rfl, HA, HJ2, BK326, HB⟩ := hcut
  cases kq with
  | zero => exact absurd HA.out (by simp [spec_TermAt.j0])
  | succ kj2 =>
   have H := HA.out; clear HA; simp only [spec_TermAt.j0] at H
   by_cases c14 : x18_2 = true
   ·subst c14; rw [if_pos rfl] at H; obtain rfl := Option.some.inj H
    go_wp2
    go_ret
    exact ⟨by rfl, HB.out⟩
   replace c14 := Bool.eq_false_iff.mpr c14; subst c14; rw [if_neg nf_] at H; replace H := bA_ H; obtain ⟨t329, A15, H⟩ := H; replace H := bA_ H; obtain ⟨t332, A16, H⟩ := H
   by_cases c17 : 0 ≤ t332
   ·rw [if_pos c17] at H; have c17b0 := decide_eq_true c17; clear c17
    by_cases c18 : t332 < (l0_2.length : Int)
    ·rw [if_pos c18] at H; have c18b0 := decide_eq_true c18; clear c18; obtain rfl := Option.some.inj H
     try go_wp2
     have n0_ := A_ (blk_drew BK326.out); have n1_ := A_ (below_drew1 HB.out); clear BK326 HB; have BK326 := n0_; have HB := n1_; clear n0_ n1_
     have p333 : 0 ≤ (t332 : Int) := od_ (by assumption)
     have q333 : t332 < (l0_2.length : Int) := od_ (by assumption)
     obtain ⟨ad333, e333, hx333_0⟩ := Kd.at_int HR0_2.out t332 p333 q333; have hw333_0 := hx333_0
     cases e333
     replace hx333_0 := (HB.out.cell (World.block_lt_of_cell? w _ hx333_0)).trans hx333_0; replace p333 := eq_true p333; replace q333 := eq_true q333; refine start_ (n := 11) (S := fun w' => w'.cell? ⟨gb326, 0, none⟩ = some (.int .i64 a0_0) ∧ w'.cell? ⟨gb326, 1, none⟩ = some (.slice A0_1 l0_1.length c0_1) ∧ w'.cell? ⟨gb326, 2, none⟩ = some (.slice (some ad333) l0_2.length c0_2) ∧ w'.cell? (ad333.add (t332).toNat) = some (.int .i64 (rd l0_2 t332))) (ds := []) (mk_ 11 0) (by kernel_rfl) rfl rfl ⟨(blk_cell BK326.out 0).trans rfl, (blk_cell BK326.out 1).trans rfl, (blk_cell BK326.out 2).trans rfl, ((HB.out.cell (World.block_lt_of_cell? w _ hw333_0)).trans hw333_0)⟩ (fun hHeld => ?_); refine with_tabW spec_TermAt.tab3 spec_TermAt.bits3 (fun HT_ HW_ => ?_)
     generalize wc.drew = w19 at BK326 HB hx333_0 hHeld ⊢
     refine pv_ 0 19 (mk_ 11 1) rfl rfl HT_.out (by kernel_rfl) (fun _ _ _ h => h) (by rfl) (by intro w'; go_simp; with_reducible rfl) (by simp only [Act.put, mD, mE, mF, i64_w, i32_w]; rfl) ?_; refine pv_ 3 22 (mk_ 11 9) rfl rfl HT_.out (by kernel_rfl) (fun _ _ _ h => h) (by rfl) (by intro w'; go_simp; with_reducible rfl) (by simp only [Act.put, mD, mE, mF, i64_w, i32_w]; rfl) ?_; refine pv_ 4 23 (mk_ 11 25) rfl rfl HT_.out (by kernel_rfl) (fun _ _ _ h => h) (by rfl) (by intro w'; go_simp; with_reducible rfl) (by simp only [Act.put, mD, mE, mF, i64_w, i32_w]; rfl) ?_; refine take_ (i := 1) (N := some 20) (mk_ 11 27) rfl rfl (take_ofW HT_.out HW_.out (by kernel_rfl)) (fun _ _ _ h => h) (Or.inl ⟨by rfl, by rintro w' ⟨s0, s1, s2, s3⟩; go_simp; with_reducible rfl⟩) hHeld (by simp only [Act.put, mD, mE, mF, i64_w, i32_w]; rfl) ?_; refine take_ (i := 2) (N := some 21) (mk_ 11 31) rfl rfl (take_ofW HT_.out HW_.out (by kernel_rfl)) (fun _ _ _ h => h) (Or.inl ⟨by rfl, by rintro w' ⟨s0, s1, s2, s3⟩; go_simp; with_reducible rfl⟩) hHeld (by simp only [Act.put, mD, mE, mF, i64_w, i32_w]; rfl) ?_; refine take_ (i := 5) (N := some 24) (mk_ 11 63) rfl rfl (take_ofW HT_.out HW_.out (by kernel_rfl)) (fun _ _ _ h => h) (Or.inl ⟨by rfl, by rintro w' ⟨s0, s1, s2, s3⟩; go_simp; with_reducible rfl⟩) hHeld (by simp only [Act.put, mD, mE, mF, i64_w, i32_w]; rfl) ?_; refine one_ (i := 6) (N := some 25) (mk_ 11 127) rfl rfl (one_of HT_.out (by kernel_rfl)) (by decide) (fun K hK => ?_); refine cS_ E91 rfl rfl rfl (spec_DigitsOf.calls kj2 a1 a0_0 t329 _ A15.out) (by simp only [mA, mB, mC]; rfl) ?_; rintro e w20 ⟨v330, rfl, ho0, hb⟩; refine ⟨_, rfl, ?_⟩; have n0_ := A_ (Kd.R_lower ho0 (below_size HB.out)); have n1_ := bb_ BK326 hb; have n2_ := bs_ HB hb; clear BK326 HB; have HO331 := n0_; have BK326 := n1_; have HB := n2_; clear n0_ n1_ n2_
     (try clear hb)
     (try clear hb2)
     (try clear hk)
     (try clear hi)
     (try clear ho0)
     obtain ⟨Ao21, co21, eo21⟩ := Kd.R_slice HO331.out
     (first | subst eo21 | (injection eo21 with f1_ f2_ f3_; have f4_ := f1_.symm; have f5_ := f3_.symm; clear f1_ f2_ f3_; subst f4_; subst f5_))
     refine hK.out _ _ ⟨(blk_cell BK326.out 0).trans rfl, (blk_cell BK326.out 1).trans rfl, (blk_cell BK326.out 2).trans rfl, ((HB.out.cell (World.block_lt_of_cell? w _ hw333_0)).trans hw333_0)⟩ (fun hHeld => ?_); clear hK K; refine norm_ (by show Act.put _ (some 25) _ = _; simp only [Act.put, mD, mE, mF, i64_w, i32_w]; rfl) ?_; refine one_ (i := 7) (N := some 26) (mk_ 11 255) rfl rfl (one_of HT_.out (by kernel_rfl)) (by decide) (fun K hK => ?_); refine cS_ E90 rfl rfl rfl (spec_StateAfter.calls kj2 a0_0 _ _ l0_1 _ _ l0_2 _ _ t329 t332 _ (Kd.C_below HR0_1.out HB.out) HC0_1.out (Kd.C_below HR0_2.out HB.out) HC0_2.out ((Kd.R_reads' HO331.out).2.2) ((Kd.R_reads' HO331.out).2.1) A16.out) (by simp only [mA, mB, mC]; rfl) ?_; rintro e w22 ⟨rfl, hb⟩; refine ⟨_, rfl, ?_⟩; have n0_ := A_ (Kd.R_below HO331.out hb); have n1_ := bb_ BK326 hb; have n2_ := bs_ HB hb; clear HO331 BK326 HB; have HO331 := n0_; have BK326 := n1_; have HB := n2_; clear n0_ n1_ n2_
     (try clear hb)
     (try clear hb2)
     (try clear hk)
     (try clear hi)
     refine hK.out _ _ ⟨(blk_cell BK326.out 0).trans rfl, (blk_cell BK326.out 1).trans rfl, (blk_cell BK326.out 2).trans rfl, ((HB.out.cell (World.block_lt_of_cell? w _ hw333_0)).trans hw333_0)⟩ (fun hHeld => ?_); clear hK K; refine norm_ (by show Act.put _ (some 26) _ = _; simp only [Act.put, mD, mE, mF, i64_w, i32_w]; rfl) ?_; refine pv_ 8 27 (mk_ 11 511) rfl rfl HT_.out (by kernel_rfl) (fun _ _ _ h => h) (by rfl) (by intro w'; go_simp; with_reducible rfl) (by simp only [Act.put, mD, mE, mF, i64_w, i32_w]; rfl) ?_; refine take_ (i := 9) (N := some 28) (mk_ 11 1023) rfl rfl (take_ofW HT_.out HW_.out (by kernel_rfl)) (fun _ _ _ h => h) (Or.inl ⟨by rfl, by rintro w' ⟨s0, s1, s2, s3⟩; go_simp; with_reducible rfl⟩) hHeld (by simp only [Act.put, mD, mE, mF, i64_w, i32_w]; rfl) ?_; refine pv_ 10 4 (mk_ 11 2047) rfl rfl HT_.out (by kernel_rfl) (fun _ _ _ h => h) (by rfl) (by intro w'; go_simp; with_reducible rfl) (by simp only [Act.put, mD, mE, mF, i64_w, i32_w]; rfl) ?_; refine done_ (done_of HT_.out (by kernel_rfl)) ?_
     try go_wp2
     go_ret
     exact ⟨by rfl, HB.out⟩
    rw [if_neg c18] at H
    cases H
   rw [if_neg c17] at H
   cases H

def spec_PrefixOf.l0 : Nat → Int → List Int → Int → Int → List (List Int) → List Int → Option (List Int)
 | 0, _, _, _, _, _, _ => none
 | k + 1, x1, x5, x6, x335000, x335001, x335002 => if x6 < x1 then (if x1 ≤ 256 then ((spec_IsSequence.f k x335000 x335001 x335002).bind fun t338 => (if t338 = true then ((spec_TermAt.f k x335000 x335001 x335002 x6).bind fun t339 => (if x5.length < 17592186044416 then (spec_PrefixOf.l0 k x1 (x5 ++ [t339]) (wrap64 (x6 + 1)) x335000 x335001 x335002) else (none))) else (some x5))) else (some x5)) else (some x5)
def spec_PrefixOf.f (k : Nat) (a0_0 : Int) (l0_1 : List (List Int)) (l0_2 : List Int) (a1 : Int) : Option (List Int) := spec_PrefixOf.l0 k a1 (([] : List Int)) 0 a0_0 l0_1 l0_2
theorem spec_PrefixOf.calls (k : Nat) (a0_0 : Int) (A0_1 : Option Addr) (c0_1 : Nat) (l0_1 : List (List Int)) (A0_2 : Option Addr) (c0_2 : Nat) (l0_2 : List Int) (a1 : Int) (r : List Int) (w : World) (hr0_1 : Kd.C (Kd.slice 3 (Kd.int .i64)) w A0_1 l0_1.length l0_1) (hc0_1 : l0_1.length ≤ c0_1) (hr0_2 : Kd.C (Kd.int .i64) w A0_2 l0_2.length l0_2) (hc0_2 : l0_2.length ≤ c0_2) (h : spec_PrefixOf.f k a0_0 l0_1 l0_2 a1 = some r) :
  Calls Try.prog 63 #[.agg #[.int .i64 a0_0, .slice A0_1 l0_1.length c0_1, .slice A0_2 l0_2.length c0_2], .int .i64 a1] w fun e w' => ∃ v0_ : Value, e = .returned (v0_) ∧ Kd.R (Kd.int .i64) 3 w' w.heap.size (fun _ => True) v0_ r ∧ Below w.heap.size w w' := by
 have hu58 := Try.underlying58; have HR0_1 := A_ hr0_1; have HC0_1 := A_ hc0_1; clear hr0_1 hc0_1; have HR0_2 := A_ hr0_2; have HC0_2 := A_ hc0_2; clear hr0_2 hc0_2; have HB := A_ (Below.refl w.heap.size w); unfold spec_PrefixOf.f at h; have H := h; clear h; obtain ⟨y335, hy335⟩ := ex_ ((([] : List Int)) : List Int); replace H : (spec_PrefixOf.l0 k a1 y335 0 a0_0 l0_1 l0_2) = some r := by (rw [hy335]; with_reducible exact H)
 have Ny335 := A_ hy335; clear hy335
 have H' := A_ H
 clear H; go_enter Try.func63, Try.ntmps63
 go_wp2_with (first | ((with_reducible refine gate_dst (N := 2) rfl ?_); refine box_event ?hg (N := 2) ?hd (cs := #[.int .i64 a0_0, .slice A0_1 l0_1.length c0_1, .slice A0_2 l0_2.length c0_2]) (t := 58) ?hr ?_; (case hd | hg => rfl); (case hr => go_simp; done); intro gb334 hg w3 hbox hb; have BK334 := A_ (hbox); have GW334 := A_ (lg_ (below_size HB.out) hg); have GE334 := A_ (lg_ (below_size HB.out) hg); replace HB := bs_ HB hb; clear hb hbox hg) | ((with_reducible refine gd_ 7 rfl ?_); refine RL_ 7 3 [] [] rfl rfl (by go_simp; done) rfl rfl ?_; rintro v336 w4 ho5 hb - -; (rw [← Ny335.out] at ho5); have HO337 := A_ (Kd.R_lower ho5 (below_size HB.out)); replace BK334 := bb_ BK334 hb; replace HB := bs_ HB hb; clear hb ho5))
 go_loopg [5, 6] k (fun kq v5 v6 w' => ∃ (x5_1 : List Int) (x6_1 : Int), v6 = .int .i64 x6_1 ∧ Aside0 (spec_PrefixOf.l0 kq a1 x5_1 x6_1 a0_0 l0_1 l0_2 = some r) ∧ Aside0 (kq ≤ k) ∧ Aside0 (Kd.R (Kd.int .i64) 3 w' w.heap.size (fun _ => True) v5 x5_1) ∧ Aside0 (w'.heap[gb334]? = some (.cells #[.int .i64 a0_0, (.slice A0_1 l0_1.length c0_1), (.slice A0_2 l0_2.length c0_2)] 58 (0, 0))) ∧ Aside0 (Below w.heap.size w w'))
 case atStart => exact ⟨(y335), (0), (by rfl), H', ⟨Nat.le_refl _⟩, ⟨HO337.out⟩, ⟨BK334.out⟩, ⟨HB.out⟩⟩
 case round =>
  clear H'; obtain ⟨x5_1, x6_1, rfl, HA, HK1, HO_5, BK334, HB⟩ := hrel
  cases gk with
  | zero => exact absurd HA.out (by simp [spec_PrefixOf.l0])
  | succ k1 =>
   have H := HA.out; clear HA; simp only [spec_PrefixOf.l0] at H
   by_cases c6 : x6_1 < a1
   ·rw [if_pos c6] at H; have c6b0 := decide_eq_true c6; clear c6
    by_cases c7 : a1 ≤ 256
    ·rw [if_pos c7] at H; have c7b0 := decide_eq_true c7; clear c7; replace H := bA_ H; obtain ⟨t338, A8, H⟩ := H
     by_cases c9 : t338 = true
     ·subst c9; rw [if_pos rfl] at H; replace H := bA_ H; obtain ⟨t339, A10, H⟩ := H
      by_cases c11 : x5_1.length < 17592186044416
      ·rw [if_pos c11] at H; have LMc11 := A_ c11; clear c11; obtain ⟨y340, hy340⟩ := ex_ ((x5_1 ++ [t339]) : List Int); replace H : (spec_PrefixOf.l0 k1 a1 y340 (wrap64 (x6_1 + 1)) a0_0 l0_1 l0_2) = some r := by (rw [hy340]; with_reducible exact H)
       have Ny340 := A_ hy340; clear hy340
       have H' := A_ H
       clear H; have hcz12_0 := bz0 BK334.out; have hcz12_1 := bz1 BK334.out; have hcz12_2 := bz2 BK334.out; have hfz12_0 := blk_frozen BK334.out 0; have hfz12_1 := blk_frozen BK334.out 1; have hfz12_2 := blk_frozen BK334.out 2
       go_wp2_with (first | (go_at_call 81; (with_reducible refine (spec_IsSequence.calls k1 a0_0 _ _ l0_1 _ _ l0_2 true _ ?side1 ?side2 ?side3 ?side4 A8.out).mono ?_); (case side1 => exact (Kd.C_below HR0_1.out HB.out)); (case side2 => exact HC0_1.out); (case side3 => exact (Kd.C_below HR0_2.out HB.out)); (case side4 => exact HC0_2.out); rintro e w13 ⟨rfl, hb⟩; replace HO_5 := A_ (Kd.R_below HO_5.out hb); replace BK334 := bb_ BK334 hb; replace HB := bs_ HB hb; clear hb; have hcz14_0 := bz0 BK334.out; have hcz14_1 := bz1 BK334.out; have hcz14_2 := bz2 BK334.out; have hfz14_0 := blk_frozen BK334.out 0; have hfz14_1 := blk_frozen BK334.out 1; have hfz14_2 := blk_frozen BK334.out 2) | ((with_reducible refine gc_ 82 rfl ?_); refine cL_ E82 24 rfl rfl rfl (spec_TermAt.calls k1 a0_0 _ _ l0_1 _ _ l0_2 x6_1 t339 _ (Kd.C_below HR0_1.out HB.out) HC0_1.out (Kd.C_below HR0_2.out HB.out) HC0_2.out A10.out) (by simp only [mA, mB, mC]; rfl) ?_; rintro e w15 ⟨rfl, hb⟩; refine ⟨_, rfl, ?_⟩; replace HO_5 := A_ (Kd.R_below HO_5.out hb); replace BK334 := bb_ BK334 hb; replace HB := bs_ HB hb; clear hb; (try clear hi)) | ((with_reducible refine gate_builtin (b := .append) (xs := #[.tmp 21, .tmp 25]) rfl ?_); at_builtin; refine Kd.R_append (Kd.int .i64) (w0 := w) w.heap.size rfl (.tmp 21) (.tmp 25) 24 3 (.int .i64 0) 8 rfl Try.underlying24 info3 rfl (by decide) (by omega) u5 x5_1 t339 [.int .i64 t339] (fun _ => True) (fun _ => False) rfl rfl ?aP (fun _ hk => hk.elim) ?aF ?aO ?aB ?aS ?aL ?_; (case aP => exact rfl); (case aB => exact HB.out); (case aF => exact (fun _ _ => trivial)); (case aO => exact HO_5.out); (case aS => exact (below_size HB.out)); (case aL => have := LMc11.out; omega); intro v341 w16 ho hb hg hat; rw [← Ny340.out] at ho; replace BK334 := A_ (blk_grown (g := gb334) (o := .cells #[.int .i64 a0_0, .slice A0_1 l0_1.length c0_1, .slice A0_2 l0_2.length c0_2] 58 (0, 0)) BK334.out hg (Kd.R_ne HO_5.out BK334.out (by decide))); replace HB := A_ (hb); have HO342 := A_ (ho); clear HO_5; clear ho hb hg hat))
       go_roundg k1
       case measure => have := HK1.out; omega
       case rel => exact ⟨(y340), (wrap64 (x6_1 + 1)), (by rfl), H', ⟨by have := HK1.out; omega⟩, ⟨HO342.out⟩, ⟨BK334.out⟩, ⟨HB.out⟩⟩
      rw [if_neg c11] at H
      cases H
     replace c9 := Bool.eq_false_iff.mpr c9; subst c9; rw [if_neg nf_] at H; obtain rfl := Option.some.inj H; have hcz17_0 := bz0 BK334.out; have hcz17_1 := bz1 BK334.out; have hcz17_2 := bz2 BK334.out; have hfz17_0 := blk_frozen BK334.out 0; have hfz17_1 := blk_frozen BK334.out 1; have hfz17_2 := blk_frozen BK334.out 2
     go_wp2_with (first | (go_at_call 81; (with_reducible refine (spec_IsSequence.calls k1 a0_0 _ _ l0_1 _ _ l0_2 false _ ?side1 ?side2 ?side3 ?side4 A8.out).mono ?_); (case side1 => exact (Kd.C_below HR0_1.out HB.out)); (case side2 => exact HC0_1.out); (case side3 => exact (Kd.C_below HR0_2.out HB.out)); (case side4 => exact HC0_2.out); rintro e w18 ⟨rfl, hb⟩; replace HO_5 := A_ (Kd.R_below HO_5.out hb); replace BK334 := bb_ BK334 hb; replace HB := bs_ HB hb; clear hb; (try clear hi)))
     go_ret
     exact ⟨_, by rfl, HO_5.out, HB.out⟩
    rw [if_neg c7] at H; have c7b0 := decide_eq_false c7; clear c7; obtain rfl := Option.some.inj H
    go_wp2
    go_ret
    exact ⟨_, by rfl, HO_5.out, HB.out⟩
   rw [if_neg c6] at H; have c6b0 := decide_eq_false c6; clear c6; obtain rfl := Option.some.inj H
   go_wp2
   go_ret
   exact ⟨_, by rfl, HO_5.out, HB.out⟩

def spec_l1PickInt.f (s0_0 : List Int) (s0_1 : Int) (s0_2 : Int) (l1 : List Int) : Option (Int × Int × Int) := (spec_l1Below.f s0_0 s0_1 s0_2 (l1.length : Int)).bind fun bt343 => (if 0 ≤ bt343.1 then (if bt343.1 < (l1.length : Int) then (some (rd l1 bt343.1, bt343.2.1, bt343.2.2)) else (none)) else (none))
theorem spec_l1PickInt.calls (g : Nat) (s0_0 : List Int) (s0_1 : Int) (s0_2 : Int) (A1 : Option Addr) (c1 : Nat) (l1 : List Int) (r1 : Int) (r2 : Int) (r3 : Int) (w0 w : World) (hI : IsS50 w0 w g s0_0 s0_1 s0_2) (hB : Below w0.heap.size w0 w) (hr1 : Kd.C (Kd.int .i64) w A1 l1.length l1) (hc1 : l1.length ≤ c1) (hf1 : ∀ ad, A1 = some ad → 0 < l1.length → ad.block ≠ g) (h : spec_l1PickInt.f s0_0 s0_1 s0_2 l1 = some (r1, r2, r3)) :
  Calls Try.prog 54 #[.pointer (some ⟨g, 0, none⟩), .slice A1 l1.length c1] w fun e w' => e = .returned (.int .i64 r1) ∧ IsS50 w0 w' g s0_0 r2 r3 ∧ Below w0.heap.size w0 w' ∧ KeepBut w w' g none := by
 have HR1 := A_ hr1; have HC1 := A_ hc1; clear hr1 hc1; have HI0 := A_ hI; have HK := A_ (KeepBut.refl w g none); have HL := A_ hB.size; clear hI; have HW0 := A_ hB.size; have HB := A_ hB; clear hB; unfold spec_l1PickInt.f at h; have H := h; clear h; replace H := bA_ H; obtain ⟨⟨t343, t344, t345⟩, A3, H⟩ := H; dsimp only at H
 by_cases c4 : 0 ≤ t343
 ·rw [if_pos c4] at H; have c4b0 := decide_eq_true c4; clear c4
  by_cases c5 : t343 < (l1.length : Int)
  ·rw [if_pos c5] at H; have c5b0 := decide_eq_true c5; clear c5; simp only [Option.some.injEq, Prod.mk.injEq] at H; obtain ⟨rfl, rfl, rfl⟩ := H; go_enter Try.func54, Try.ntmps54
   go_wp2_with (first | ((with_reducible refine gc_ 55 rfl ?_); refine cL_ E55 9 rfl rfl rfl (spec_l1Below.calls g s0_0 s0_1 s0_2 (l1.length : Int) t343 t344 t345 w0 _ HI0.out HB.out A3.out) (by simp only [mA, mB, mC]; rfl) ?_; rintro e w6 ⟨rfl, hi, hb, hk⟩; refine ⟨_, rfl, ?_⟩; replace HK := kt_ HK hk; replace HB := A_ (hb); replace HI0 := A_ (hi); clear hb hk hi; have p346 : 0 ≤ (t343 : Int) := od_ (by assumption); have q346 : t343 < (l1.length : Int) := od_ (by assumption); obtain ⟨ad346, e346, hx346_0⟩ := Kd.at_int HR1.out t343 p346 q346; cases e346; replace hx346_0 := keep_cell HK.out hx346_0 (by first | (rw [add_block]; exact hf1 _ rfl (by omega)) | exact hf1 _ rfl (by omega) | exact hf1 ad346 rfl (by omega)); replace p346 := eq_true p346; replace q346 := eq_true q346))
   go_ret
   exact ⟨by rfl, HI0.out, HB.out, HK.out⟩
  rw [if_neg c5] at H
  cases H
 rw [if_neg c4] at H
 cases H

end Go.Proofs.Ytnhpbmagbajliaa.PFnBorders

