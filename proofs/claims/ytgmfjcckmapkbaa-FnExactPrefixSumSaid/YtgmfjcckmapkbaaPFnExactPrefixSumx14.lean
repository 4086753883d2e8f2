/- Walks of the functions that the law reaches. -/
import Derived.Test.YtgmfjcckmapkbaaPFnExactPrefixSumx13
namespace Go.Proofs.Ytgmfjcckmapkbaa.PFnExactPrefixSum
open Go.RowKit Go.Proofs.YtgmfjcckmapkbaaW.PrintWords Go.Proofs.YtgmfjcckmapkbaaW.PrintLast Go.Proofs.YtgmfjcckmapkbaaW.PrintMore
attribute [local go_sem] max2_int min2_int max_two min_two max_three min_three max_four min_four
set_option linter.unusedVariables false
set_option maxHeartbeats 8000000
set_option maxRecDepth 100000
set_option linter.unusedSimpArgs false

def impl_IsSteady.f (k : Nat) (ap : Int) (ah : List (List Int)) (ao : List Int) : Option (Bool) := (impl_IsSequence.f k ap ah ao).bind fun bB => (if bB = true then (if 0 < (ah.length : Int) then (if 0 < ((rd_L1 ah 0).length : Int) then (some ((rd (rd_L1 ah 0) 0) == 0)) else (none)) else (none)) else (some false))
theorem impl_IsSteady.calls (k : Nat) (ap : Int) (aA : Option Addr) (aD : Nat) (ah : List (List Int)) (aC : Option Addr) (aE : Nat) (ao : List Int) (r : Bool) (w : World) (aZ : Kd.C (Kd.slice 3 (Kd.int .i64)) w aA ah.length ah) (aX : ah.length ≤ aD) (a3 : Kd.C (Kd.int .i64) w aC ao.length ao) (aY : ao.length ≤ aE) (h : impl_IsSteady.f k ap ah ao = some r) :
  Calls Try.prog 56 #[.agg #[.int .i64 ap, .slice aA ah.length aD, .slice aC ao.length aE]] w fun e w' => e = .returned (.bool r) ∧ Below w.heap.size w w' := by
 have hu32 := Try.underlying32; have aT := A_ aZ; have bg := A_ aX; clear aZ aX; have aU := A_ a3; have aQ := A_ aY; clear a3 aY; have HB := A_ (Below.refl w.heap.size w); unfold impl_IsSteady.f at h; have H := h; clear h; replace H := bA_ H; obtain ⟨bB, A2, H⟩ := H
 by_cases c3 : bB = true
 ·subst c3; rw [if_pos rfl] at H
  by_cases c4 : 0 < (ah.length : Int)
  ·rw [if_pos c4] at H; have cF := decide_eq_true c4
   have cG : decide (0 < ah.length) = true := decide_eq_true (by omega)
   clear c4
   by_cases c5 : 0 < ((rd_L1 ah 0).length : Int)
   ·rw [if_pos c5] at H; have cH := decide_eq_true c5
    have cI : decide (0 < (rd_L1 ah 0).length) = true := decide_eq_true (by omega)
    clear c5; obtain rfl := Option.some.inj H; go_enter Try.func56, Try.ntmps56
    go_wp2_with (first | ((with_reducible refine gate_dst (N := 1) rfl ?_); refine box_event rfl (N := 1) rfl (cs := #[.int .i64 ap, .slice aA ah.length aD, .slice aC ao.length aE]) (t := 32) (by go_simp; done) ?_; intro bP hg w6 hbox hb; have az := A_ (hbox); have bE := A_ (lg_ (below_size HB.o) hg); have bD := A_ (lg_ (below_size HB.o) hg); replace HB := bs_ HB hb; clear hb hbox hg; have b8 := bq3 az.o) | ((with_reducible refine gc_ 55 rfl ?_); refine cM_ E55 4 (impl_IsSequence.calls k ap _ _ ah _ _ ao true _ (Kd.C_below aT.o HB.o) bg.o (Kd.C_below aU.o HB.o) aQ.o A2.o) ?_; rintro e w8 ⟨rfl, hb⟩; refine ⟨_, rfl, ?_⟩; replace az := bb_ az hb; replace HB := bs_ HB hb; clear hb; have b9 := bq3 az.o; have bu : 0 ≤ (0 : Int) := (by omega); have bx : 0 < (ah.length : Int) := oa_; obtain ⟨cg, bX, b1, b4, ax, ba, a8⟩ := at_L1 aT.o 0 bu bx; cases b4; have qi433 : (0 < ah.length) = True := eq_true (by omega); (try rw [show ((0 : Int)).toNat = 0 from rfl] at ax); (try rw [Addr.add_zero'] at ax); replace ax := (HB.o.cell (World.block_lt_of_cell? w _ ax)).trans ax; have bm := A_ a8; have bS := A_ ba; clear a8 ba; replace bu := eq_true bu; replace bx := eq_true bx; have bv : 0 ≤ (0 : Int) := (by omega); have bz : 0 < ((rd_L1 ah 0).length : Int) := oa_; obtain ⟨ch, b5, ay⟩ := Kd.at_int bm.o 0 bv bz; cases b5; have qi434 : (0 < (rd_L1 ah 0).length) = True := eq_true (by omega); (try rw [show ((0 : Int)).toNat = 0 from rfl] at ay); (try rw [Addr.add_zero'] at ay); replace ay := (HB.o.cell (World.block_lt_of_cell? w _ ay)).trans ay; replace bv := eq_true bv; replace bz := eq_true bz))
    go_ret
    exact ⟨by rfl, HB.o⟩
   rw [if_neg c5] at H
   cases H
  rw [if_neg c4] at H
  cases H
 replace c3 := Bool.eq_false_iff.mpr c3; subst c3; rw [if_neg nf_] at H; obtain rfl := Option.some.inj H; go_enter Try.func56, Try.ntmps56
 go_wp2_with (first | ((with_reducible refine gate_dst (N := 1) rfl ?_); refine box_event rfl (N := 1) rfl (cs := #[.int .i64 ap, .slice aA ah.length aD, .slice aC ao.length aE]) (t := 32) (by go_simp; done) ?_; intro bP hg w10 hbox hb; have az := A_ (hbox); have bE := A_ (lg_ (below_size HB.o) hg); have bD := A_ (lg_ (below_size HB.o) hg); replace HB := bs_ HB hb; clear hb hbox hg; have bU := bq3 az.o) | ((with_reducible refine gc_ 55 rfl ?_); refine cM_ E55 4 (impl_IsSequence.calls k ap _ _ ah _ _ ao false _ (Kd.C_below aT.o HB.o) bg.o (Kd.C_below aU.o HB.o) aQ.o A2.o) ?_; rintro e w12 ⟨rfl, hb⟩; refine ⟨_, rfl, ?_⟩; replace az := bb_ az hb; replace HB := bs_ HB hb; clear hb; (try clear hi)))
 go_ret
 exact ⟨by rfl, HB.o⟩

def slices_Clone_int_int.f (l0 : List Int) : Option (List Int) := (some (([] : List Int) : List Int)).bind fun a4 => (if a4.length + l0.length < 17592186044416 then (some (a4 ++ l0)) else (none))
theorem slices_Clone_int_int.calls_some (ad0 : Addr) (c0 : Nat) (l0 : List Int) (r : List Int) (w : World) (hr0 : Kd.C (Kd.int .i64) w (some ad0) l0.length l0) (hc0 : l0.length ≤ c0) (h : slices_Clone_int_int.f l0 = some r) :
  Calls Try.prog 49 #[.slice (some ad0) l0.length c0] w fun e w' => ∃ v0_ : Value, e = .returned (v0_) ∧ Kd.R (Kd.int .i64) 3 w' w.heap.size (fun _ => True) v0_ r ∧ Below w.heap.size w w' := by
 have HR0 := A_ hr0; have HC0 := A_ hc0; clear hr0 hc0; have HB := A_ (Below.refl w.heap.size w); unfold slices_Clone_int_int.f at h; have H := h; clear h; obtain ⟨a4, bh⟩ := ex_ ((([] : List Int)) : List Int); replace H : (if a4.length + l0.length < 17592186044416 then (some (a4 ++ l0)) else (none)) = some r := by (have H2_ := (Option.bind_some _ _).symm.trans H; rw [bh]; with_reducible exact H2_)
 have bH := A_ bh; clear bh
 by_cases c2 : a4.length + l0.length < 17592186044416
 ·rw [if_pos c2] at H; have b0 := A_ c2; clear c2; obtain ⟨cc, bi⟩ := ex_ ((a4 ++ l0) : List Int); replace H : (some cc) = some r := by (rw [bi]; with_reducible exact H)
  have bI := A_ bi; clear bi; obtain rfl := Option.some.inj H; have hnil := fun (w_ : World) (a_ : Option Addr) (n_ c_ n1_ c1_ : Nat) => Lib.run_eql_slice_nil (P := Try.prog) w_ 23 3 a_ n_ c_ n1_ c1_ Try.underlying23; go_enter Try.func49, Try.ntmps49
  go_wp2_with (first | ((with_reducible refine gd_ 5 rfl ?_); refine RL_ 5 3 [] [] rfl rfl (by go_simp; done) rfl rfl ?_; rintro ca w3 ho4 hb - -; (rw [← bH.o] at ho4); have bp := A_ (Kd.R_lower ho4 (below_size HB.o)); replace HB := bs_ HB hb; clear hb ho4) | ((with_reducible refine gate_builtin (b := .append) (xs := #[.tmp 5, .tmp 6]) rfl ?_); at_builtin; refine Kd.R_append_rows (Kd.int .i64) (w0 := w) w.heap.size rfl (.tmp 5) (.tmp 6) 23 3 (.int .i64 0) 8 rfl Try.underlying23 info3 rfl (by decide) (by omega) ca a4 l0 _ _ _ (fun _ => True) (fun _ => False) rfl rfl ?aO ?aR (fun _ _ h => h) (fun _ h => h.elim) ?aF ?aB ?aS ?aL ?_; (case aR => exact (Kd.C_below HR0.o HB.o)); (case aB => exact HB.o); (case aF => exact (fun _ _ => trivial)); (case aO => exact bp.o); (case aS => exact (below_size HB.o)); (case aL => have := b0.o; omega); intro cN w5 ho hb hg hat; rw [← bI.o] at ho; replace HB := A_ (hb); have bF := A_ (ho); clear bp; clear ho hb hg hat))
  go_ret
  exact ⟨_, by rfl, bF.o, HB.o⟩
 rw [if_neg c2] at H
 cases H

theorem slices_Clone_int_int.calls (A0 : Option Addr) (c0 : Nat) (l0 : List Int) (r : List Int) (w : World) (hr0 : Kd.C (Kd.int .i64) w A0 l0.length l0) (hc0 : l0.length ≤ c0) (h : slices_Clone_int_int.f l0 = some r) :
  Calls Try.prog 49 #[.slice A0 l0.length c0] w fun e w' => ∃ v0_ : Value, e = .returned (v0_) ∧ Kd.R (Kd.int .i64) 3 w' w.heap.size (fun _ => True) v0_ r ∧ Below w.heap.size w w' := by
 cases A0 with
 | some ad0 => exact slices_Clone_int_int.calls_some ad0 c0 l0 r w hr0 hc0 h
 | none =>
  obtain rfl : l0 = [] := by
   cases l0 with
   | nil => rfl
   | cons x l0 =>
    obtain ⟨ad, he, _⟩ := hr0.2.2 (by simp)
    cases he
  simp [slices_Clone_int_int.f] at h
  subst h; clear hr0 hc0; have hnil := fun (w_ : World) (a_ : Option Addr) (n_ c_ n1_ c1_ : Nat) => Lib.run_eql_slice_nil (P := Try.prog) w_ 23 3 a_ n_ c_ n1_ c1_ Try.underlying23; go_enter Try.func49, Try.ntmps49
  go_wp2
  go_ret
  exact ⟨_, rfl, Kd.R_nil _ _ _ _ _, Below.refl _ _⟩

def impl_Sequence_own.l0 : Nat → List (List Int) → Int → Int → Int → List (List Int) → List Int → Option (Int × (List (List Int)) × List Int)
 | 0, _, _, _, _, _, _ => none
 | k + 1, cb, cC, bR, bc, aM, bd => if bR < cC then (if 0 ≤ bR then (if bR < (cb.length : Int) then ((slices_Clone_int_int.f (rd_L1 cb bR)).bind fun a5 => (if aM.length < 5864062014805 then (impl_Sequence_own.l0 k cb cC (wrap64 (bR + 1)) bc (aM ++ [a5]) bd) else (none))) else (none)) else (none)) else (some (bc, aM, bd))
def impl_Sequence_own.f (k : Nat) (ap : Int) (ah : List (List Int)) (ao : List Int) : Option (Int × (List (List Int)) × List Int) := (slices_Clone_int_int.f ao).bind fun au => (impl_Sequence_own.l0 k ah (ah.length : Int) 0 ap ([] : List (List Int)) au)
def impl_Sequence_own.T1 : Bool × List (List Nat × List Nat) := (true, [([], []), ([0], [0]), ([], []), ([2], [2]), ([3], [3]), ([1, 4], [1, 4]), ([], []), ([6, 5, 4, 0, 1, 2, 3, 4, 5, 6], [5, 6])])
def impl_Sequence_own.B1 : List Nat := [0, 1, 0, 4, 12, 31, 0, 127]
theorem impl_Sequence_own.tab1 : rtab .any (opsOf Try.f57 1) = impl_Sequence_own.T1 := by kernel_rfl
theorem impl_Sequence_own.bits1 : waitsOk impl_Sequence_own.T1.2 impl_Sequence_own.B1 = true := by kernel_rfl
def impl_Sequence_own.T5 : Bool × List (List Nat × List Nat) := (true, [([], []), ([0], [0]), ([], []), ([2], [2]), ([3], [3]), ([1, 4, 3], [1, 4]), ([0, 1, 2, 3, 4, 5], []), ([6, 5, 5, 0, 1, 2, 3, 4, 5], [5, 6])])
def impl_Sequence_own.B5 : List Nat := [0, 1, 0, 4, 12, 31, 63, 127]
theorem impl_Sequence_own.tab5 : rtab .any (opsOf Try.f57 5) = impl_Sequence_own.T5 := by kernel_rfl
theorem impl_Sequence_own.bits5 : waitsOk impl_Sequence_own.T5.2 impl_Sequence_own.B5 = true := by kernel_rfl
theorem impl_Sequence_own.calls (k : Nat) (ap : Int) (aA : Option Addr) (aD : Nat) (ah : List (List Int)) (aC : Option Addr) (aE : Nat) (ao : List Int) (r1 : Int) (r2 : List (List Int)) (r3 : List Int) (w : World) (aZ : Kd.C (Kd.slice 3 (Kd.int .i64)) w aA ah.length ah) (aX : ah.length ≤ aD) (a3 : Kd.C (Kd.int .i64) w aC ao.length ao) (aY : ao.length ≤ aE) (h : impl_Sequence_own.f k ap ah ao = some (r1, r2, r3)) :
  Calls Try.prog 57 #[.agg #[.int .i64 ap, .slice aA ah.length aD, .slice aC ao.length aE]] w fun e w' => ∃ v1_ v2_ : Value, e = .returned (.agg #[.int .i64 r1, v1_, v2_]) ∧ Kd.S (Kd.slice 3 (Kd.int .i64)) 23 w' w.heap.size (o1 v2_) v1_ r2 ∧ Kd.R (Kd.int .i64) 3 w' w.heap.size (fun _ => True) v2_ r3 ∧ Below w.heap.size w w' := by
 have hu32 := Try.underlying32; have aT := A_ aZ; have bg := A_ aX; clear aZ aX; have aU := A_ a3; have aQ := A_ aY; clear a3 aY; have HB := A_ (Below.refl w.heap.size w); unfold impl_Sequence_own.f at h; have H := h; clear h; replace H := bA_ H; obtain ⟨au, A2, H⟩ := H
 have H' := A_ H
 clear H; go_enter Try.func57, Try.ntmps57
 try go_wp2_with (first | ((with_reducible refine gate_dst (N := 1) rfl ?_); refine box_event rfl (N := 1) rfl (cs := #[.int .i64 ap, .slice aA ah.length aD, .slice aC ao.length aE]) (t := 32) (by go_simp; done) ?_; intro aw hg w3 hbox hb; have ab := A_ (hbox); have cd := A_ (lg_ (below_size HB.o) hg); have be := A_ (lg_ (below_size HB.o) hg); replace HB := bs_ HB hb; clear hb hbox hg) | ((with_reducible refine gate_dst (N := 2) rfl ?_); refine box_event rfl (N := 2) rfl (cs := #[.int .i64 0, .slice none 0 0, .slice none 0 0]) (t := 32) (by go_simp; done) ?_; intro aW hg w4 hbox hb; have af := A_ (hbox); have ce := A_ (lg_ (below_size HB.o) hg); have bf := A_ (lg_ (below_size HB.o) hg); replace HB := bs_ HB hb; have aI := nl_ ab hg; have aJ := ng_ ab hg; replace ab := bb_ ab hb; clear hb hbox hg))
 replace ab := A_ (blk_drew ab.o); replace af := A_ (blk_drew af.o); replace HB := A_ (below_drew1 HB.o); refine start_ (n := 8) (S := fun w' => w'.cell? ⟨aw, 0, none⟩ = some (.int .i64 ap) ∧ w'.cell? ⟨aw, 1, none⟩ = some (.slice aA ah.length aD) ∧ w'.cell? ⟨aw, 2, none⟩ = some (.slice aC ao.length aE)) (ds := []) (mk_ 8 0) (by kernel_rfl) rfl rfl (bc3 ab) (fun am => ?_); refine with_tabW impl_Sequence_own.tab1 impl_Sequence_own.bits1 (fun aH bT => ?_)
 generalize w4.drew = w5 at ab af HB am ⊢
 refine pw_ 0 6 (mk_ 8 1) aH ?_; refine pw_ 2 8 (mk_ 8 5) aH ?_; refine tk_ 1 7 (mk_ 8 7) aH bT am ?_; refine tk_ 3 9 (mk_ 8 15) aH bT am ?_; refine join_ (σ := Value × Nat) 1 (mk_ 8 127) (fun s_ => [(10, s_.1), (3, .pointer (some ⟨s_.2, 0, none⟩)), (11, .agg #[.int .i64 ap, .slice none 0 0, s_.1])]) (fun s_ w' => (w'.cell? ⟨aw, 0, none⟩ = some (.int .i64 ap) ∧ w'.cell? ⟨aw, 1, none⟩ = some (.slice aA ah.length aD) ∧ w'.cell? ⟨aw, 2, none⟩ = some (.slice aC ao.length aE)) ∧ (Kd.R (Kd.int .i64) 3 w' w.heap.size (fun _ => True) s_.1 au) ∧ (w'.heap[aw]? = some (.cells #[.int .i64 ap, .slice aA ah.length aD, .slice aC ao.length aE] 32 (0, 0))) ∧ (w'.heap[aW]? = some (.cells #[.int .i64 0, .slice none 0 0, .slice none 0 0] 32 (0, 0))) ∧ (w'.heap[s_.2]? = some (.cells #[.int .i64 0, .slice none 0 0, .slice none 0 0] 32 (0, 0))) ∧ (w.heap.size ≤ s_.2) ∧ (w.heap.size ≤ s_.2) ∧ (aw ≠ s_.2) ∧ (s_.2 ≠ aw) ∧ (aW ≠ s_.2) ∧ (s_.2 ≠ aW) ∧ (Below w.heap.size w w')) ?_ ?_; rotate_left
 ·intro hCont; refine two_ (i := 4) (j := 6) (Ni := some 10) (Nj := some 3) (mk_ 8 31) (mk_ 8 79) rfl rfl rfl rfl (two_of aH.o (by kernel_rfl)) (by decide) (by decide) (fun K hK => ?_) (fun K hK => ?_)
  ·skip
   refine cS_ E49 rfl rfl rfl (slices_Clone_int_int.calls _ _ ao au _ (Kd.C_below aU.o HB.o) aQ.o A2.o) (by simp only [mA, mB, mC]; rfl) ?_; rintro e w6 ⟨bQ, rfl, ho0, hb⟩; refine ⟨_, rfl, ?_⟩; have av := A_ (Kd.R_lower ho0 (below_size HB.o)); replace ab := bb_ ab hb; replace af := bb_ af hb; replace HB := bs_ HB hb
   (try clear hb)
   (try clear hb2)
   (try clear hk)
   (try clear hi)
   (try clear ho0)
   obtain ⟨cD, cJ, cm⟩ := Kd.R_slice av.o
   (first | subst cm | (injection cm with f1_ f2_ f3_; have f4_ := f1_.symm; have f5_ := f3_.symm; clear f1_ f2_ f3_; subst f4_; subst f5_))
   refine hK.out _ _ (bc3 ab) (fun am => ?_); clear hK K; refine nm_ 10 ?_; refine pw_ 5 11 (mk_ 8 63) aH ?_; refine one_ (i := 6) (N := some 3) (mk_ 8 127) rfl rfl (one_of aH.o (by kernel_rfl)) (by decide) (fun K hK => ?_); refine box_step rfl (N := 3) rfl (cs := #[.int .i64 0, .slice none 0 0, .slice none 0 0]) (t := 32) (by go_simp; done) ?_; intro ak hg w8 hbox hb; replace av := A_ (Kd.R_below av.o hb); have ae := A_ (hbox); have a6 := A_ (lg_ (below_size HB.o) hg); have aG := A_ (lg_ (below_size HB.o) hg); replace HB := bs_ HB hb; have aa := nl_ ab hg; have aj := ng_ ab hg; replace ab := bb_ ab hb; have ag := nl_ af hg; have al := ng_ af hg; replace af := bb_ af hb; clear hb hbox hg; refine hK.out _ _ (bc3 ab) (fun am => ?_); clear hK K; refine nm_ 3 ?_; exact norm_ (by simp only [putAll, Act.put, mD, mE, mF]) (hCont (.slice cD au.length cJ, ak) _ ⟨am, av.o, ab.o, af.o, ae.o, a6.o, aG.o, aa.o, aj.o, ag.o, al.o, HB.o⟩)
  skip
  refine box_step rfl (N := 3) rfl (cs := #[.int .i64 0, .slice none 0 0, .slice none 0 0]) (t := 32) (by go_simp; done) ?_; intro ak hg w6 hbox hb; have ae := A_ (hbox); have a6 := A_ (lg_ (below_size HB.o) hg); have aG := A_ (lg_ (below_size HB.o) hg); replace HB := bs_ HB hb; have aa := nl_ ab hg; have aj := ng_ ab hg; replace ab := bb_ ab hb; have ag := nl_ af hg; have al := ng_ af hg; replace af := bb_ af hb; clear hb hbox hg; refine hK.out _ _ (bc3 ab) (fun am => ?_); clear hK K; refine nm_ 3 ?_; refine one_ (i := 4) (N := some 10) (mk_ 8 95) rfl rfl (one_of aH.o (by kernel_rfl)) (by decide) (fun K hK => ?_); refine cS_ E49 rfl rfl rfl (slices_Clone_int_int.calls _ _ ao au _ (Kd.C_below aU.o HB.o) aQ.o A2.o) (by simp only [mA, mB, mC]; rfl) ?_; rintro e w7 ⟨bQ, rfl, ho0, hb⟩; refine ⟨_, rfl, ?_⟩; have av := A_ (Kd.R_lower ho0 (below_size HB.o)); replace ab := bb_ ab hb; replace af := bb_ af hb; replace ae := bb_ ae hb; replace HB := bs_ HB hb
  (try clear hb)
  (try clear hb2)
  (try clear hk)
  (try clear hi)
  (try clear ho0)
  obtain ⟨cE, cK, cn⟩ := Kd.R_slice av.o
  (first | subst cn | (injection cn with f1_ f2_ f3_; have f4_ := f1_.symm; have f5_ := f3_.symm; clear f1_ f2_ f3_; subst f4_; subst f5_))
  refine hK.out _ _ (bc3 ab) (fun am => ?_); clear hK K; refine nm_ 10 ?_; refine pw_ 5 11 (mk_ 8 127) aH ?_; exact norm_ (by simp only [putAll, Act.put, mD, mE, mF]) (hCont (.slice cE au.length cK, ak) _ ⟨am, av.o, ab.o, af.o, ae.o, a6.o, aG.o, aa.o, aj.o, ag.o, al.o, HB.o⟩)
 rintro ⟨bQ, ak⟩ w9 ⟨am, h0_, h1_, h2_, h3_, h4_, h5_, h6_, h7_, h8_, h9_, bt⟩
 clear ab af HB; try dsimp only at am h0_ h1_ h2_ h3_ h4_ h5_ h6_ h7_ h8_ h9_ bt
 have av := A_ h0_; have ab := A_ h1_; have af := A_ h2_; have ae := A_ h3_; have a6 := A_ h4_; have aG := A_ h5_; have aa := A_ h6_; have aj := A_ h7_; have ag := A_ h8_; have al := A_ h9_; have HB := A_ bt; clear h0_ h1_ h2_ h3_ h4_ h5_ h6_ h7_ h8_ h9_ bt
 obtain ⟨aN, aV, bM⟩ := Kd.R_slice av.o
 (first | subst bM | (injection bM with f1_ f2_ f3_; have f4_ := f1_.symm; have f5_ := f3_.symm; clear f1_ f2_ f3_; subst f4_; subst f5_))
 refine norm_ (by simp only [putAll, Act.put, mD, mE, mF]; rfl) ?_
 refine one_ (i := 7) (N := none) (mk_ 8 255) rfl rfl (one_of aH.o (by kernel_rfl)) (by decide) (fun K hK => ?_)
 have hs11 : w9.cell? ⟨ak, 0, none⟩ = some (.int .i64 0) := bz0 ae.o
 have hfs11 := blk_frozen ae.o 0; have hns11_0 := aa.o; have hns11_1 := ag.o; have hms11_0 := aj.o; have hms11_1 := al.o
 have hs12 : w9.cell? ⟨ak, 1, none⟩ = some (.slice none 0 0) := bz1 ae.o
 have hfs12 := blk_frozen ae.o 1; have hns12_0 := aa.o; have hns12_1 := ag.o; have hms12_0 := aj.o; have hms12_1 := al.o
 have hs13 : w9.cell? ⟨ak, 2, none⟩ = some (.slice none 0 0) := bz2 ae.o
 have hfs13 := blk_frozen ae.o 2; have hns13_0 := aa.o; have hns13_1 := ag.o; have hms13_0 := aj.o; have hms13_1 := al.o; refine skip_ (w1 := ?_) (by rfl) rfl ?_ ?_; rotate_left
 ·go_simp
  rfl
 refine hK.out _ _ ⟨((cell_far (p := ⟨ak, _, none⟩) aa.o _).trans (((cell_far (p := ⟨ak, _, none⟩) aa.o _).trans (((cell_far (p := ⟨ak, _, none⟩) aa.o _).trans (am.1)))))), ((cell_far (p := ⟨ak, _, none⟩) aa.o _).trans (((cell_far (p := ⟨ak, _, none⟩) aa.o _).trans (((cell_far (p := ⟨ak, _, none⟩) aa.o _).trans (am.2.1)))))), ((cell_far (p := ⟨ak, _, none⟩) aa.o _).trans (((cell_far (p := ⟨ak, _, none⟩) aa.o _).trans (((cell_far (p := ⟨ak, _, none⟩) aa.o _).trans (am.2.2))))))⟩ (fun am => ?_); clear hK K; refine done_ (done_of aH.o (by kernel_rfl)) ?_; have co := aI.o; have cw := aJ.o; have cp := aa.o; have cx := aj.o; have bo := bq3 ab.o
 try go_wp2
 go_loopg [15] k (fun kq cL w' => ∃ (ar : Int) (an : List (List Int)) (aq : Value), cL = .int .i64 ar ∧ Aside0 (impl_Sequence_own.l0 kq ah (ah.length : Int) ar ap an au = some (r1, r2, r3)) ∧ Aside0 (kq ≤ k) ∧ Aside0 (Kd.S (Kd.slice 3 (Kd.int .i64)) 23 w' w.heap.size (o1 (.slice aN au.length aV)) aq an) ∧ Aside0 (Kd.R (Kd.int .i64) 3 w' w.heap.size (fun _ => True) (.slice aN au.length aV) au) ∧ Aside0 (w'.heap[aw]? = some (.cells #[.int .i64 ap, (.slice aA ah.length aD), (.slice aC ao.length aE)] 32 (0, 0))) ∧ Aside0 (w'.heap[aW]? = some (.cells #[.int .i64 0, (.slice none 0 0), (.slice none 0 0)] 32 (0, 0))) ∧ Aside0 (w'.heap[ak]? = some (.cells #[.int .i64 ap, aq, (.slice aN au.length aV)] 32 (0, 0))) ∧ Aside0 (Below w.heap.size w w'))
 case atStart => exact ⟨(0), (([] : List (List Int))), (.slice none 0 0), (by rfl), H', ⟨Nat.le_refl _⟩, ⟨by exact Kd.S_nil _ _ _ _ _⟩, ⟨by exact Kd.R_mono (gR3_ (tR_ av ae)) (fun _ hk => trivial)⟩, ⟨by exact fa_ aa (fa_ aa (fa_ aa ab.o))⟩, ⟨by exact fa_ ag (fa_ ag (fa_ ag af.o))⟩, ⟨by exact pu_ 2 (pu_ 1 (pu_ 0 ae.o rfl) rfl) rfl⟩, ⟨by repeat (first | (with_reducible first | exact HB.o | apply below_alloc | apply pw_below_drewN | apply below_drew1 | refine below_set ?_ be.o | refine below_set ?_ bf.o | refine below_set ?_ aG.o) | exact HB.o)⟩⟩
 case round =>
  clear H'
  try clear bo
  obtain ⟨ar, an, aq, rfl, HA, cf, ac, ai, ab, af, ae, HB⟩ := hrel
  cases gk with
  | zero => exact nz_ HA.o
  | succ k1 =>
   have H := HA.o; clear HA; simp only [impl_Sequence_own.l0] at H
   by_cases c17 : ar < (ah.length : Int)
   ·rw [if_pos c17] at H; have bK := decide_eq_true c17; clear c17
    by_cases c18 : 0 ≤ ar
    ·rw [if_pos c18] at H; have cj := decide_eq_true c18; clear c18
     by_cases c19 : ar < (ah.length : Int)
     ·rw [if_pos c19] at H; have ck := decide_eq_true c19; clear c19; replace H := bA_ H; obtain ⟨a5, A20, H⟩ := H
      by_cases c21 : an.length < 5864062014805
      ·rw [if_pos c21] at H; have bG := A_ c21; clear c21; obtain ⟨bk, bj⟩ := ex_ ((an ++ [a5]) : List (List Int)); replace H : (impl_Sequence_own.l0 k1 ah (ah.length : Int) (wrap64 (ar + 1)) ap bk au) = some (r1, r2, r3) := by (rw [bj]; with_reducible exact H)
       have bJ := A_ bj; clear bj
       have H' := A_ H
       clear H
       have bw : 0 ≤ (ar : Int) := oa_
       have bA : ar < (ah.length : Int) := oa_
       obtain ⟨ci, bY, b2, b6, aK, bb, a9⟩ := at_L1 aT.o ar bw bA
       cases b6
       replace aK := (HB.o.cell (World.block_lt_of_cell? w _ aK)).trans aK; have bn := A_ a9; have bl := A_ bb; clear a9 bb; replace bw := eq_true bw; replace bA := eq_true bA
       try go_wp2
       replace ac := A_ (Kd.S_drew ac.o); replace ai := A_ (Kd.R_drew ai.o); replace ab := A_ (blk_drew ab.o); replace af := A_ (blk_drew af.o); replace ae := A_ (blk_drew ae.o); replace HB := A_ (below_drew1 HB.o); refine start_ (n := 8) (S := fun w' => w'.cell? ⟨ak, 0, none⟩ = some (.int .i64 ap) ∧ w'.cell? ⟨ak, 1, none⟩ = some (aq) ∧ w'.cell? ⟨ak, 2, none⟩ = some (.slice aN au.length aV)) (ds := [7]) (mk_ 8 0) (by kernel_rfl) rfl rfl (bc3 ae) (fun am => ?_); refine with_tabW impl_Sequence_own.tab5 impl_Sequence_own.bits5 (fun aH bT => ?_)
       generalize wr.drew = w22 at ac ai ab af ae HB am ⊢
       refine pw_ 0 19 (mk_ 8 1) aH ?_; refine pw_ 2 21 (mk_ 8 5) aH ?_; refine tk_ 1 20 (mk_ 8 7) aH bT am ?_; refine one_ (i := 3) (N := some 22) (mk_ 8 15) rfl rfl (one_of aH.o (by kernel_rfl)) (by decide) (fun K hK => ?_); refine cS_ E49 rfl rfl rfl (slices_Clone_int_int.calls _ _ (rd_L1 ah ar) a5 _ (Kd.C_below bn.o HB.o) bl.o A20.o) (by simp only [mA, mB, mC]; rfl) ?_; rintro e w23 ⟨cO, rfl, ho0, hb⟩; refine ⟨_, rfl, ?_⟩; replace ac := A_ (Kd.S_elder' ac.o (Kd.R_base ho0) hb); have a7 := A_ (Kd.R_lower (Kd.R_new' ho0 (Kd.R_lt ai.o)) (below_size HB.o)); replace ai := A_ (Kd.R_elder' ai.o (Kd.R_base ho0) hb); replace ab := bb_ ab hb; replace af := bb_ af hb; replace ae := bb_ ae hb; replace HB := bs_ HB hb
       (try clear hb)
       (try clear hb2)
       (try clear hk)
       (try clear hi)
       (try clear ho0)
       obtain ⟨bC, bL, bN⟩ := Kd.R_slice a7.o
       (first | subst bN | (injection bN with f1_ f2_ f3_; have f4_ := f1_.symm; have f5_ := f3_.symm; clear f1_ f2_ f3_; subst f4_; subst f5_))
       refine hK.out _ _ (bc3 ae) (fun am => ?_); clear hK K; refine nm_ 22 ?_; refine one_ (i := 4) (N := some 23) (mk_ 8 31) rfl rfl (one_of aH.o (by kernel_rfl)) (by decide) (fun K hK => ?_); refine value_ (w1 := ?_) (v := ?_) (by rfl) rfl ?_ ?_; rotate_left 2
       ·go_simp
        constructor
        ·rfl
        rfl
       refine hK.out _ _ ⟨(blk_cell (blk_alloc ae.o _) 0).trans rfl, (blk_cell (blk_alloc ae.o _) 1).trans rfl, (blk_cell (blk_alloc ae.o _) 2).trans rfl⟩ (fun am => ?_); clear hK K; refine nm_ 23 ?_; refine one_ (i := 5) (N := some 24) (mk_ 8 63) rfl rfl (one_of aH.o (by kernel_rfl)) (by decide) (fun K hK => ?_); refine Kd.S_append_step (Kd.slice 3 (Kd.int .i64)) (w0 := w) w.heap.size (by rfl) (.tmp 20) (.tmp 23) 22 23 (.slice none 0 0) 24 rfl Try.underlying22 info23 rfl (by decide) (by omega) aq an a5 [.slice bC a5.length bL] (o1 (.slice aN au.length aV)) (fun k_ => some k_ = (.slice bC a5.length bL : Value).ownBlock) rfl rfl ?aP (fun k_ hk_ => ((Kd.R_mono (ok' := fun k_ => ((o1 (.slice aN au.length aV))) k_ ∧ some k_ ≠ (aq : Value).ownBlock) (Kd.R_apart' (a7.o) (Kd.S_typed ac.o) (by decide)) (fun k_ hk => ⟨hk.1.2, hk.2⟩))).1 k_ hk_.symm) ?aF ?aO ?aB ?aS ?aL ?_
       (case aP => exact Kd.M_row (Kd.R_mono (Kd.R_tight rfl (Kd.R_mono (ok' := fun k_ => ((o1 (.slice aN au.length aV))) k_ ∧ some k_ ≠ (aq : Value).ownBlock) (Kd.R_apart' (a7.o) (Kd.S_typed ac.o) (by decide)) (fun k_ hk => ⟨hk.1.2, hk.2⟩))) (fun _ h_ => h_)))
       (case aB => exact HB.o)
       (case aF => exact (fun k_ hk => Kd.fresh' (Kd.R_lt ai.o) k_ hk))
       (case aO => exact (by exact Kd.S_mono ac.o (fun k_ hk => ⟨hk.1, fun e_ => hk.2 e_⟩)))
       (case aS => exact (below_size HB.o))
       (case aL => have := bG.o; omega)
       intro cP w24 ho hb hg hat; rw [← bJ.o] at ho; replace ai := A_ (Kd.R_over' ai.o (Kd.S_typed ac.o) (by decide) hg); replace ab := gS_ ac ab hg; replace af := gS_ ac af hg; replace ae := gS_ ac ae hg; replace HB := A_ (hb); have bq := A_ (ho); clear ac a7 ho hb hg hat; obtain ⟨br, bs, bO⟩ := Kd.S_slice bq.o
       (first | subst bO | (injection bO with f1_ f2_ f3_; have f4_ := f1_.symm; have f5_ := f3_.symm; clear f1_ f2_ f3_; subst f4_; subst f5_))
       refine hK.out _ _ (bc3 ae) (fun am => ?_); clear hK K; refine nm_ 24 ?_; refine pw_ 6 25 (mk_ 8 127) aH ?_; refine last_ (i := 7) (N := none) (mk_ 8 255) rfl rfl (one_of aH.o (by kernel_rfl)) (by decide) (fun K hK => ?_)
       have hs27 : w24.cell? ⟨ak, 1, none⟩ = some (aq) := bz1 ae.o
       have hfs27 := blk_frozen ae.o 1; have hns27_0 := aa.o; have hns27_1 := ag.o; have hms27_0 := aj.o; have hms27_1 := al.o; refine skip_ (w1 := ?_) (by rfl) rfl ?_ ?_; rotate_left
       ·go_simp
        rfl
       refine hK.out _ _ ?_; clear hK K; refine done_ (done_of aH.o (by kernel_rfl)) ?_
       try go_wp2
       go_roundg k1
       case measure => have := cf.o; omega
       case rel => exact ⟨(wrap64 (ar + 1)), (bk), (.slice br bk.length bs), (by rfl), H', ⟨by have := cf.o; omega⟩, ⟨by exact Kd.S_mono (Kd.S_far (p := ⟨ak, 1, none⟩) (Kd.S_types bq.o ae.o (by decide)) (fun _ hk => hk.2) (.slice br bk.length bs)) (fun _ hk => hk.1)⟩, ⟨by exact Kd.R_mono (Kd.R_far (p := ⟨ak, 1, none⟩) (Kd.R_types ai.o ae.o (by decide)) (fun _ hk => hk.2) (.slice br bk.length bs)) (fun _ hk => trivial)⟩, ⟨by exact fa_ aa ab.o⟩, ⟨by exact fa_ ag af.o⟩, ⟨by exact pu_ 1 ae.o rfl⟩, ⟨by repeat (first | (with_reducible first | exact HB.o | apply below_alloc | apply pw_below_drewN | apply below_drew1 | refine below_set ?_ be.o | refine below_set ?_ bf.o | refine below_set ?_ aG.o) | exact HB.o)⟩⟩
      rw [if_neg c21] at H
      cases H
     rw [if_neg c19] at H
     cases H
    rw [if_neg c18] at H
    cases H
   rw [if_neg c17] at H; have bK := decide_eq_false c17; clear c17; simp only [Option.some.injEq, Prod.mk.injEq] at H; obtain ⟨rfl, rfl, rfl⟩ := H; have cq := aj.o; have cy := aa.o; have cr := al.o; have cA := ag.o; have bV := bq3 ae.o; have cv := aJ.o; have cB := aI.o; have bW := bq3 af.o; obtain ⟨bZ, b3, b7⟩ := Kd.S_slice ac.o; subst b7
   go_wp2
   refine bodyPost_ret (results_cell_row rfl _ _ aW 32 #[.int .i64 ap, .slice bZ an.length b3, .slice aN au.length aV] (0, 0) _ rfl (by exact pu_ 2 (pu_ 1 (pu_ 0 af.o rfl) rfl) rfl) Try.underlying32 rfl (by kernel_rfl)) rfl ?_; exact ⟨_, _, by rfl, by exact Kd.S_mono (gS3_ (tS_ ac af)) (fun _ hk => hk.1), by exact Kd.R_mono (gR3_ (tR_ ai af)) (fun _ hk => trivial), by repeat (first | (with_reducible first | exact HB.o | apply below_alloc | apply pw_below_drewN | apply below_drew1 | refine below_set ?_ be.o | refine below_set ?_ bf.o | refine below_set ?_ aG.o) | exact HB.o)⟩

end Go.Proofs.Ytgmfjcckmapkbaa.PFnExactPrefixSum

