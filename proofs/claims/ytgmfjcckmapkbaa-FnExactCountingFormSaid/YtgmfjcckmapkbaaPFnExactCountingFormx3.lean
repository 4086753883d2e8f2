/- Walks of the functions that the law reaches. -/
import Derived.Test.YtgmfjcckmapkbaaPFnExactCountingFormx0
namespace Go.Proofs.Ytgmfjcckmapkbaa.PFnExactCountingForm
open Go.RowKit Go.Proofs.YtgmfjcckmapkbaaW.PrintWords Go.Proofs.YtgmfjcckmapkbaaW.PrintLast Go.Proofs.YtgmfjcckmapkbaaW.PrintMore
attribute [local go_sem] max2_int min2_int max_two min_two max_three min_three max_four min_four
set_option linter.unusedVariables false
set_option maxHeartbeats 8000000
set_option maxRecDepth 100000
set_option linter.unusedSimpArgs false

def spec_l3Copy.l0 : Nat → Int → Int → List (List Int) → List Int → Int → List (List Int) → List Int → Option (Int × (List (List Int)) × List Int)
 | 0, _, _, _, _, _, _, _ => none
 | k + 1, x4, bq, aD, br, bb, aM, bc => if x4 < (aD.length : Int) then ((some (([] : List Int) : List Int)).bind fun aX => (if 0 ≤ x4 then (if aX.length + (rd_L1 aD x4).length < 17592186044416 then (if aM.length < 5864062014805 then (spec_l3Copy.l0 k (wrap64 (x4 + 1)) bq aD br bb (aM ++ [(aX ++ (rd_L1 aD x4))]) bc) else (none)) else (none)) else (none))) else (some (bb, aM, bc))
def spec_l3Copy.f (k : Nat) (ap : Int) (aq : List (List Int)) (ao : List Int) : Option (Int × (List (List Int)) × List Int) := (some (([] : List Int) : List Int)).bind fun aH => (if aH.length + ao.length < 17592186044416 then (spec_l3Copy.l0 k 0 ap aq ao ap ([] : List (List Int)) (aH ++ ao)) else (none))
def spec_l3Copy.T1 : Bool × List (List Nat × List Nat) := (true, [([], []), ([0], [0]), ([], []), ([], []), ([3], [3]), ([2, 4], [2, 4]), ([1, 5], [1, 5]), ([], []), ([7, 6, 5, 0, 1, 2, 3, 4, 5, 6, 7], [6, 7])])
def spec_l3Copy.B1 : List Nat := [0, 1, 0, 0, 8, 28, 63, 0, 255]
theorem spec_l3Copy.tab1 : rtab .any (opsOf Try.f53 1) = spec_l3Copy.T1 := by kernel_rfl
theorem spec_l3Copy.bits1 : waitsOk spec_l3Copy.T1.2 spec_l3Copy.B1 = true := by kernel_rfl
def spec_l3Copy.T5 : Bool × List (List Nat × List Nat) := (true, [([], []), ([0], [0]), ([], []), ([], []), ([3], [3]), ([], []), ([4, 5], [4, 5]), ([6], [6]), ([2, 7], [2, 7]), ([8], [8]), ([1, 9, 8], [1, 9]), ([0, 1, 2, 3, 4, 5, 6, 7, 8, 9, 10], []), ([11, 10, 10, 0, 1, 2, 3, 4, 5, 6, 7, 8, 9, 10], [10, 11])])
def spec_l3Copy.B5 : List Nat := [0, 1, 0, 0, 8, 0, 56, 120, 252, 508, 1023, 2047, 4095]
theorem spec_l3Copy.tab5 : rtab .any (opsOf Try.f53 5) = spec_l3Copy.T5 := by kernel_rfl
theorem spec_l3Copy.bits5 : waitsOk spec_l3Copy.T5.2 spec_l3Copy.B5 = true := by kernel_rfl
theorem spec_l3Copy.calls (k : Nat) (ap : Int) (aY : Option Addr) (aT : Nat) (aq : List (List Int)) (aN : Option Addr) (aU : Nat) (ao : List Int) (r1 : Int) (r2 : List (List Int)) (r3 : List Int) (w : World) (bx : Kd.C (Kd.slice 3 (Kd.int .i64)) w aY aq.length aq) (bv : aq.length ≤ aT) (bz : Kd.C (Kd.int .i64) w aN ao.length ao) (bw : ao.length ≤ aU) (h : spec_l3Copy.f k ap aq ao = some (r1, r2, r3)) :
  Calls Try.prog 53 #[.agg #[.int .i64 ap, .slice aY aq.length aT, .slice aN ao.length aU]] w fun e w' => ∃ v1_ v2_ : Value, e = .returned (.agg #[.int .i64 r1, v1_, v2_]) ∧ Kd.S (Kd.slice 3 (Kd.int .i64)) 23 w' w.heap.size (o1 v2_) v1_ r2 ∧ Kd.R (Kd.int .i64) 3 w' w.heap.size (fun _ => True) v2_ r3 ∧ Below w.heap.size w w' := by
 have hu32 := Try.underlying32; have bN := A_ bx; have cc := A_ bv; clear bx bv; have bf := A_ bz; have cd := A_ bw; clear bz bw; have HB := A_ (Below.refl w.heap.size w); unfold spec_l3Copy.f at h; have H := h; clear h; obtain ⟨aH, bj⟩ := ex_ ((([] : List Int)) : List Int); replace H : (if aH.length + ao.length < 17592186044416 then (spec_l3Copy.l0 k 0 ap aq ao ap ([] : List (List Int)) (aH ++ ao)) else (none)) = some (r1, r2, r3) := by (have H2_ := (Option.bind_some _ _).symm.trans H; rw [bj]; with_reducible exact H2_)
 have bt := A_ bj; clear bj
 by_cases c2 : aH.length + ao.length < 17592186044416
 ·rw [if_pos c2] at H; have bD := A_ c2; clear c2; obtain ⟨ay, bk⟩ := ex_ ((aH ++ ao) : List Int); replace H : (spec_l3Copy.l0 k 0 ap aq ao ap ([] : List (List Int)) ay) = some (r1, r2, r3) := by (rw [bk]; with_reducible exact H)
  have bg := A_ bk; clear bk
  have H' := A_ H
  clear H; go_enter Try.func53, Try.ntmps53
  try go_wp2_with (first | ((with_reducible refine gate_dst (N := 1) rfl ?_); refine box_event rfl (N := 1) rfl (cs := #[.int .i64 ap, .slice aY aq.length aT, .slice aN ao.length aU]) (t := 32) (by go_simp; done) ?_; intro aw hg w3 hbox hb; have aa := A_ (hbox); have b8 := A_ (lg_ (below_size HB.o) hg); have bd := A_ (lg_ (below_size HB.o) hg); replace HB := bs_ HB hb; clear hb hbox hg) | ((with_reducible refine gate_dst (N := 2) rfl ?_); refine box_event rfl (N := 2) rfl (cs := #[.int .i64 0, .slice none 0 0, .slice none 0 0]) (t := 32) (by go_simp; done) ?_; intro aV hg w4 hbox hb; have ae := A_ (hbox); have b9 := A_ (lg_ (below_size HB.o) hg); have be := A_ (lg_ (below_size HB.o) hg); replace HB := bs_ HB hb; have aJ := nl_ aa hg; have aK := ng_ aa hg; replace aa := bb_ aa hb; clear hb hbox hg))
  replace aa := A_ (blk_drew aa.o); replace ae := A_ (blk_drew ae.o); replace HB := A_ (below_drew1 HB.o); refine start_ (n := 9) (S := fun w' => w'.cell? ⟨aw, 0, none⟩ = some (.int .i64 ap) ∧ w'.cell? ⟨aw, 1, none⟩ = some (.slice aY aq.length aT) ∧ w'.cell? ⟨aw, 2, none⟩ = some (.slice aN ao.length aU)) (ds := []) (mk_ 9 0) (by kernel_rfl) rfl rfl (bc3 aa) (fun aj => ?_); refine with_tabW spec_l3Copy.tab1 spec_l3Copy.bits1 (fun az bL => ?_)
  generalize w4.drew = w5 at aa ae HB aj ⊢
  refine pw_ 0 5 (mk_ 9 1) az ?_; refine pw_ 3 8 (mk_ 9 9) az ?_; refine tk_ 1 6 (mk_ 9 11) az bL aj ?_; refine tk_ 4 9 (mk_ 9 27) az bL aj ?_; refine join_ (σ := Value × Value × Nat) 1 (mk_ 9 255) (fun s_ => [(7, s_.1), (10, s_.2.1), (3, .pointer (some ⟨s_.2.2, 0, none⟩)), (11, .agg #[.int .i64 ap, .slice none 0 0, s_.2.1])]) (fun s_ w' => (w'.cell? ⟨aw, 0, none⟩ = some (.int .i64 ap) ∧ w'.cell? ⟨aw, 1, none⟩ = some (.slice aY aq.length aT) ∧ w'.cell? ⟨aw, 2, none⟩ = some (.slice aN ao.length aU)) ∧ (Kd.R (Kd.int .i64) 3 w' w.heap.size (fun _ => True) s_.2.1 ay) ∧ (w'.heap[aw]? = some (.cells #[.int .i64 ap, .slice aY aq.length aT, .slice aN ao.length aU] 32 (0, 0))) ∧ (w'.heap[aV]? = some (.cells #[.int .i64 0, .slice none 0 0, .slice none 0 0] 32 (0, 0))) ∧ (w'.heap[s_.2.2]? = some (.cells #[.int .i64 0, .slice none 0 0, .slice none 0 0] 32 (0, 0))) ∧ (w.heap.size ≤ s_.2.2) ∧ (w.heap.size ≤ s_.2.2) ∧ (aw ≠ s_.2.2) ∧ (s_.2.2 ≠ aw) ∧ (aV ≠ s_.2.2) ∧ (s_.2.2 ≠ aV) ∧ (Below w.heap.size w w')) ?_ ?_; rotate_left
  ·intro hCont; refine two_ (i := 2) (j := 7) (Ni := some 7) (Nj := some 3) (mk_ 9 31) (mk_ 9 155) rfl rfl rfl rfl (two_of az.o (by kernel_rfl)) (by decide) (by decide) (fun K hK => ?_) (fun K hK => ?_)
   ·skip
    refine Kd.R_lit_step (Kd.int .i64) _ 3 ?hg (N := 7) ?hd (xs := ([] : List Int)) (inner := []) (ok := fun _ => True) (okp := fun _ => True) ?hr ?hp (fun _ hk => hk) trivial (Below.refl _ _) (Nat.le_refl _) (by simp) ?_; (case hd | hg => rfl); (case hr => go_simp; done); (case hp => exact (Reps.none _ _)); intro aW w6 ho7 hb hg_ hnew_; clear hg_ hnew_
    (rw [← bt.o] at ho7)
    have ar := A_ (Kd.R_lower ho7 (below_size HB.o)); replace aa := bb_ aa hb; replace ae := bb_ ae hb; replace HB := bs_ HB hb; clear hb ho7; refine hK.out _ _ (bc3 aa) (fun aj => ?_); clear hK K; refine nm_ 7 ?_; refine two_ (i := 5) (j := 7) (Ni := some 10) (Nj := some 3) (mk_ 9 63) (mk_ 9 159) rfl rfl rfl rfl (two_of az.o (by kernel_rfl)) (by decide) (by decide) (fun K hK => ?_) (fun K hK => ?_)
    ·skip
     refine Kd.R_append_rows_step (Kd.int .i64) (w0 := w) w.heap.size (by rfl) (.tmp 7) (.tmp 9) 23 3 (.int .i64 0) 8 rfl Try.underlying23 info3 rfl (by decide) (by omega) aW aH ao _ _ _ (fun _ => True) (fun _ => False) rfl rfl ?aO ?aR (fun _ _ h => h) (fun _ h => h.elim) ?aF ?aB ?aS ?aL ?_
     (case aR => exact (Kd.C_below bf.o HB.o))
     (case aB => exact HB.o)
     (case aF => exact (fun _ _ => trivial))
     (case aO => exact ar.o)
     (case aS => exact (below_size HB.o))
     (case aL => have := bD.o; omega)
     intro bK w8 ho hb hg hat; rw [← bg.o] at ho; replace aa := gR_ ar aa hg; replace ae := gR_ ar ae hg; replace HB := A_ (hb); have av := A_ (ho); clear ar ho hb hg hat; obtain ⟨cx, cy, cg⟩ := Kd.R_slice av.o
     (first | subst cg | (injection cg with f1_ f2_ f3_; have f4_ := f1_.symm; have f5_ := f3_.symm; clear f1_ f2_ f3_; subst f4_; subst f5_))
     refine hK.out _ _ (bc3 aa) (fun aj => ?_); clear hK K; refine nm_ 10 ?_; refine pw_ 6 11 (mk_ 9 127) az ?_; refine one_ (i := 7) (N := some 3) (mk_ 9 255) rfl rfl (one_of az.o (by kernel_rfl)) (by decide) (fun K hK => ?_); refine box_step rfl (N := 3) rfl (cs := #[.int .i64 0, .slice none 0 0, .slice none 0 0]) (t := 32) (by go_simp; done) ?_; intro am hg w10 hbox hb; replace av := A_ (Kd.R_below av.o hb); have ac := A_ (hbox); have aI := A_ (lg_ (below_size HB.o) hg); have aA := A_ (lg_ (below_size HB.o) hg); replace HB := bs_ HB hb; have ab := nl_ aa hg; have ai := ng_ aa hg; replace aa := bb_ aa hb; have ag := nl_ ae hg; have ak := ng_ ae hg; replace ae := bb_ ae hb; clear hb hbox hg; refine hK.out _ _ (bc3 aa) (fun aj => ?_); clear hK K; refine nm_ 3 ?_; exact norm_ (by simp only [putAll, Act.put, mD, mE, mF]) (hCont (aW, .slice cx ay.length cy, am) _ ⟨aj, av.o, aa.o, ae.o, ac.o, aI.o, aA.o, ab.o, ai.o, ag.o, ak.o, HB.o⟩)
    skip
    refine box_step rfl (N := 3) rfl (cs := #[.int .i64 0, .slice none 0 0, .slice none 0 0]) (t := 32) (by go_simp; done) ?_; intro am hg w8 hbox hb; replace ar := A_ (Kd.R_below ar.o hb); have ac := A_ (hbox); have aI := A_ (lg_ (below_size HB.o) hg); have aA := A_ (lg_ (below_size HB.o) hg); replace HB := bs_ HB hb; have ab := nl_ aa hg; have ai := ng_ aa hg; replace aa := bb_ aa hb; have ag := nl_ ae hg; have ak := ng_ ae hg; replace ae := bb_ ae hb; clear hb hbox hg; refine hK.out _ _ (bc3 aa) (fun aj => ?_); clear hK K; refine nm_ 3 ?_; refine one_ (i := 5) (N := some 10) (mk_ 9 191) rfl rfl (one_of az.o (by kernel_rfl)) (by decide) (fun K hK => ?_); refine Kd.R_append_rows_step (Kd.int .i64) (w0 := w) w.heap.size (by rfl) (.tmp 7) (.tmp 9) 23 3 (.int .i64 0) 8 rfl Try.underlying23 info3 rfl (by decide) (by omega) aW aH ao _ _ _ (fun _ => True) (fun _ => False) rfl rfl ?aO ?aR (fun _ _ h => h) (fun _ h => h.elim) ?aF ?aB ?aS ?aL ?_
    (case aR => exact (Kd.C_below bf.o HB.o))
    (case aB => exact HB.o)
    (case aF => exact (fun _ _ => trivial))
    (case aO => exact ar.o)
    (case aS => exact (below_size HB.o))
    (case aL => have := bD.o; omega)
    intro bK w9 ho hb hg hat; rw [← bg.o] at ho; replace aa := gR_ ar aa hg; replace ae := gR_ ar ae hg; replace ac := gR_ ar ac hg; replace HB := A_ (hb); have av := A_ (ho); clear ar ho hb hg hat; obtain ⟨bB, bF, bh⟩ := Kd.R_slice av.o
    (first | subst bh | (injection bh with f1_ f2_ f3_; have f4_ := f1_.symm; have f5_ := f3_.symm; clear f1_ f2_ f3_; subst f4_; subst f5_))
    refine hK.out _ _ (bc3 aa) (fun aj => ?_); clear hK K; refine nm_ 10 ?_; refine pw_ 6 11 (mk_ 9 255) az ?_; exact norm_ (by simp only [putAll, Act.put, mD, mE, mF]) (hCont (aW, .slice bB ay.length bF, am) _ ⟨aj, av.o, aa.o, ae.o, ac.o, aI.o, aA.o, ab.o, ai.o, ag.o, ak.o, HB.o⟩)
   skip
   refine box_step rfl (N := 3) rfl (cs := #[.int .i64 0, .slice none 0 0, .slice none 0 0]) (t := 32) (by go_simp; done) ?_; intro am hg w6 hbox hb; have ac := A_ (hbox); have aI := A_ (lg_ (below_size HB.o) hg); have aA := A_ (lg_ (below_size HB.o) hg); replace HB := bs_ HB hb; have ab := nl_ aa hg; have ai := ng_ aa hg; replace aa := bb_ aa hb; have ag := nl_ ae hg; have ak := ng_ ae hg; replace ae := bb_ ae hb; clear hb hbox hg; refine hK.out _ _ (bc3 aa) (fun aj => ?_); clear hK K; refine nm_ 3 ?_; refine one_ (i := 2) (N := some 7) (mk_ 9 159) rfl rfl (one_of az.o (by kernel_rfl)) (by decide) (fun K hK => ?_); refine Kd.R_lit_step (Kd.int .i64) _ 3 ?hg (N := 7) ?hd (xs := ([] : List Int)) (inner := []) (ok := fun _ => True) (okp := fun _ => True) ?hr ?hp (fun _ hk => hk) trivial (Below.refl _ _) (Nat.le_refl _) (by simp) ?_; (case hd | hg => rfl); (case hr => go_simp; done); (case hp => exact (Reps.none _ _)); intro aW w7 ho8 hb hg_ hnew_; clear hg_ hnew_
   (rw [← bt.o] at ho8)
   have ar := A_ (Kd.R_lower ho8 (below_size HB.o)); replace aa := bb_ aa hb; replace ae := bb_ ae hb; replace ac := bb_ ac hb; replace HB := bs_ HB hb; clear hb ho8; refine hK.out _ _ (bc3 aa) (fun aj => ?_); clear hK K; refine nm_ 7 ?_; refine one_ (i := 5) (N := some 10) (mk_ 9 191) rfl rfl (one_of az.o (by kernel_rfl)) (by decide) (fun K hK => ?_); refine Kd.R_append_rows_step (Kd.int .i64) (w0 := w) w.heap.size (by rfl) (.tmp 7) (.tmp 9) 23 3 (.int .i64 0) 8 rfl Try.underlying23 info3 rfl (by decide) (by omega) aW aH ao _ _ _ (fun _ => True) (fun _ => False) rfl rfl ?aO ?aR (fun _ _ h => h) (fun _ h => h.elim) ?aF ?aB ?aS ?aL ?_
   (case aR => exact (Kd.C_below bf.o HB.o))
   (case aB => exact HB.o)
   (case aF => exact (fun _ _ => trivial))
   (case aO => exact ar.o)
   (case aS => exact (below_size HB.o))
   (case aL => have := bD.o; omega)
   intro bK w9 ho hb hg hat; rw [← bg.o] at ho; replace aa := gR_ ar aa hg; replace ae := gR_ ar ae hg; replace ac := gR_ ar ac hg; replace HB := A_ (hb); have av := A_ (ho); clear ar ho hb hg hat; obtain ⟨bB, bF, bh⟩ := Kd.R_slice av.o
   (first | subst bh | (injection bh with f1_ f2_ f3_; have f4_ := f1_.symm; have f5_ := f3_.symm; clear f1_ f2_ f3_; subst f4_; subst f5_))
   refine hK.out _ _ (bc3 aa) (fun aj => ?_); clear hK K; refine nm_ 10 ?_; refine pw_ 6 11 (mk_ 9 255) az ?_; exact norm_ (by simp only [putAll, Act.put, mD, mE, mF]) (hCont (aW, .slice bB ay.length bF, am) _ ⟨aj, av.o, aa.o, ae.o, ac.o, aI.o, aA.o, ab.o, ai.o, ag.o, ak.o, HB.o⟩)
  rintro ⟨aW, bK, am⟩ w11 ⟨aj, h0_, h1_, h2_, h3_, h4_, h5_, h6_, h7_, h8_, h9_, bH⟩
  clear aa ae HB; try dsimp only at aj h0_ h1_ h2_ h3_ h4_ h5_ h6_ h7_ h8_ h9_ bH
  have av := A_ h0_; have aa := A_ h1_; have ae := A_ h2_; have ac := A_ h3_; have aI := A_ h4_; have aA := A_ h5_; have ab := A_ h6_; have ai := A_ h7_; have ag := A_ h8_; have ak := A_ h9_; have HB := A_ bH; clear h0_ h1_ h2_ h3_ h4_ h5_ h6_ h7_ h8_ h9_ bH
  obtain ⟨aE, aG, bV⟩ := Kd.R_slice av.o
  (first | subst bV | (injection bV with f1_ f2_ f3_; have f4_ := f1_.symm; have f5_ := f3_.symm; clear f1_ f2_ f3_; subst f4_; subst f5_))
  refine norm_ (by simp only [putAll, Act.put, mD, mE, mF]; rfl) ?_
  refine one_ (i := 8) (N := none) (mk_ 9 511) rfl rfl (one_of az.o (by kernel_rfl)) (by decide) (fun K hK => ?_)
  have hs13 : w11.cell? ⟨am, 0, none⟩ = some (.int .i64 0) := bz0 ac.o
  have hfs13 := blk_frozen ac.o 0; have hns13_0 := ab.o; have hns13_1 := ag.o; have hms13_0 := ai.o; have hms13_1 := ak.o
  have hs14 : w11.cell? ⟨am, 1, none⟩ = some (.slice none 0 0) := bz1 ac.o
  have hfs14 := blk_frozen ac.o 1; have hns14_0 := ab.o; have hns14_1 := ag.o; have hms14_0 := ai.o; have hms14_1 := ak.o
  have hs15 : w11.cell? ⟨am, 2, none⟩ = some (.slice none 0 0) := bz2 ac.o
  have hfs15 := blk_frozen ac.o 2; have hns15_0 := ab.o; have hns15_1 := ag.o; have hms15_0 := ai.o; have hms15_1 := ak.o; refine skip_ (w1 := ?_) (by rfl) rfl ?_ ?_; rotate_left
  ·go_simp
   rfl
  refine hK.out _ _ ⟨((cell_far (p := ⟨am, _, none⟩) ab.o _).trans (((cell_far (p := ⟨am, _, none⟩) ab.o _).trans (((cell_far (p := ⟨am, _, none⟩) ab.o _).trans (aj.1)))))), ((cell_far (p := ⟨am, _, none⟩) ab.o _).trans (((cell_far (p := ⟨am, _, none⟩) ab.o _).trans (((cell_far (p := ⟨am, _, none⟩) ab.o _).trans (aj.2.1)))))), ((cell_far (p := ⟨am, _, none⟩) ab.o _).trans (((cell_far (p := ⟨am, _, none⟩) ab.o _).trans (((cell_far (p := ⟨am, _, none⟩) ab.o _).trans (aj.2.2))))))⟩ (fun aj => ?_); clear hK K; refine done_ (done_of az.o (by kernel_rfl)) ?_
  try go_wp2
  go_loopg [4] k (fun kq v4 w' => ∃ (ax : Int) (al : List (List Int)) (au : Value), v4 = .int .i64 ax ∧ Aside0 (spec_l3Copy.l0 kq ax ap aq ao ap al ay = some (r1, r2, r3)) ∧ Aside0 (kq ≤ k) ∧ Aside0 (Kd.S (Kd.slice 3 (Kd.int .i64)) 23 w' w.heap.size (o1 (.slice aE ay.length aG)) au al) ∧ Aside0 (Kd.R (Kd.int .i64) 3 w' w.heap.size (fun _ => True) (.slice aE ay.length aG) ay) ∧ Aside0 (w'.heap[aw]? = some (.cells #[.int .i64 ap, (.slice aY aq.length aT), (.slice aN ao.length aU)] 32 (0, 0))) ∧ Aside0 (w'.heap[aV]? = some (.cells #[.int .i64 0, (.slice none 0 0), (.slice none 0 0)] 32 (0, 0))) ∧ Aside0 (w'.heap[am]? = some (.cells #[.int .i64 ap, au, (.slice aE ay.length aG)] 32 (0, 0))) ∧ Aside0 (Below w.heap.size w w'))
  case atStart => exact ⟨(0), (([] : List (List Int))), (.slice none 0 0), (by rfl), H', ⟨Nat.le_refl _⟩, ⟨by exact Kd.S_nil _ _ _ _ _⟩, ⟨by exact Kd.R_mono (gR3_ (tR_ av ac)) (fun _ hk => trivial)⟩, ⟨by exact fa_ ab (fa_ ab (fa_ ab aa.o))⟩, ⟨by exact fa_ ag (fa_ ag (fa_ ag ae.o))⟩, ⟨by exact pu_ 2 (pu_ 1 (pu_ 0 ac.o rfl) rfl) rfl⟩, ⟨by repeat (first | (with_reducible first | exact HB.o | apply below_alloc | apply pw_below_drewN | apply below_drew1 | refine below_set ?_ bd.o | refine below_set ?_ be.o | refine below_set ?_ aA.o) | exact HB.o)⟩⟩
  case round =>
   clear H'; obtain ⟨ax, al, au, rfl, HA, ce, af, ah, aa, ae, ac, HB⟩ := hrel
   cases gk with
   | zero => exact nz_ HA.o
   | succ k1 =>
    have H := HA.o; clear HA; simp only [spec_l3Copy.l0] at H
    by_cases c16 : ax < (aq.length : Int)
    ·rw [if_pos c16] at H; have bT := decide_eq_true c16; clear c16; obtain ⟨aX, bl⟩ := ex_ ((([] : List Int)) : List Int); replace H : (if 0 ≤ ax then (if aX.length + (rd_L1 aq ax).length < 17592186044416 then (if al.length < 5864062014805 then (spec_l3Copy.l0 k1 (wrap64 (ax + 1)) ap aq ao ap (al ++ [(aX ++ (rd_L1 aq ax))]) ay) else (none)) else (none)) else (none)) = some (r1, r2, r3) := by (have H2_ := (Option.bind_some _ _).symm.trans H; rw [bl]; with_reducible exact H2_)
     have bQ := A_ bl; clear bl
     by_cases c17 : 0 ≤ ax
     ·rw [if_pos c17] at H; have cf := decide_eq_true c17; clear c17
      by_cases c18 : aX.length + (rd_L1 aq ax).length < 17592186044416
      ·rw [if_pos c18] at H; have bO := A_ c18; clear c18; obtain ⟨bo, bm⟩ := ex_ ((aX ++ (rd_L1 aq ax)) : List Int); replace H : (if al.length < 5864062014805 then (spec_l3Copy.l0 k1 (wrap64 (ax + 1)) ap aq ao ap (al ++ [bo]) ay) else (none)) = some (r1, r2, r3) := by (rw [bm]; with_reducible exact H)
       have bR := A_ bm; clear bm
       by_cases c19 : al.length < 5864062014805
       ·rw [if_pos c19] at H; have bP := A_ c19; clear c19; obtain ⟨bp, bn⟩ := ex_ ((al ++ [bo]) : List (List Int)); replace H : (spec_l3Copy.l0 k1 (wrap64 (ax + 1)) ap aq ao ap bp ay) = some (r1, r2, r3) := by (rw [bn]; with_reducible exact H)
        have bS := A_ bn; clear bn
        have H' := A_ H
        clear H; have ch := aJ.o; have co := aK.o; have ci := ab.o; have cq := ai.o; have bZ := bq3 aa.o
        try go_wp2
        replace af := A_ (Kd.S_drew af.o); replace ah := A_ (Kd.R_drew ah.o); replace aa := A_ (blk_drew aa.o); replace ae := A_ (blk_drew ae.o); replace ac := A_ (blk_drew ac.o); replace HB := A_ (below_drew1 HB.o)
        have bI : 0 ≤ (ax : Int) := oa_
        have bJ : ax < (aq.length : Int) := oa_
        obtain ⟨bu, bA, bE, b5, aC, ba, a9⟩ := at_L1 bN.o ax bI bJ; have an := aC
        cases b5
        replace aC := (HB.o.cell (World.block_lt_of_cell? w _ aC)).trans aC; have a8 := A_ a9; have bY := A_ ba; clear a9 ba; replace bI := eq_true bI; replace bJ := eq_true bJ; refine start_ (n := 13) (S := fun w' => w'.cell? ⟨am, 0, none⟩ = some (.int .i64 ap) ∧ w'.cell? ⟨am, 1, none⟩ = some (au) ∧ w'.cell? ⟨am, 2, none⟩ = some (.slice aE ay.length aG) ∧ w'.cell? ⟨aw, 0, none⟩ = some (.int .i64 ap) ∧ w'.cell? ⟨aw, 1, none⟩ = some (.slice (some bu) aq.length aT) ∧ w'.cell? ⟨aw, 2, none⟩ = some (.slice aN ao.length aU) ∧ w'.cell? (bu.add (ax).toNat) = some (.slice bA (rd_L1 aq ax).length bE)) (ds := [12]) (mk_ 13 0) (by kernel_rfl) rfl rfl ⟨bz0 ac.o, bz1 ac.o, bz2 ac.o, bz0 aa.o, bz1 aa.o, bz2 aa.o, ((HB.o.cell (World.block_lt_of_cell? w _ an)).trans an)⟩ (fun aj => ?_); refine with_tabW spec_l3Copy.tab5 spec_l3Copy.bits5 (fun az bL => ?_)
        generalize wr.drew = w23 at af ah aa ae ac HB a8 aC aj ⊢
        refine pw_ 0 19 (mk_ 13 1) az ?_; refine pw_ 3 22 (mk_ 13 9) az ?_; refine pw_ 5 24 (mk_ 13 41) az ?_; refine tk_ 1 20 (mk_ 13 43) az bL aj ?_; refine tk_ 4 23 (mk_ 13 59) az bL aj ?_; refine pw_ 6 25 (mk_ 13 123) az ?_; refine tk_ 7 26 (mk_ 13 251) az bL aj ?_; refine one_ (i := 2) (N := some 21) (mk_ 13 255) rfl rfl (one_of az.o (by kernel_rfl)) (by decide) (fun K hK => ?_); refine Kd.R_lit_step (Kd.int .i64) _ 3 ?hg (N := 21) ?hd (xs := ([] : List Int)) (inner := []) (ok := fun _ => True) (okp := fun _ => True) ?hr ?hp (fun _ hk => hk) trivial (Below.refl _ _) (Nat.le_refl _) (by simp) ?_; (case hd | hg => rfl); (case hr => go_simp; done); (case hp => exact (Reps.none _ _)); intro b7 w24 bi hb hg_ hnew_; clear hg_ hnew_
        (rw [← bQ.o] at bi)
        replace af := A_ (Kd.S_elder' af.o (Kd.R_base bi) hb); have aQ := A_ (Kd.R_lower (Kd.R_new' bi (Kd.R_lt ah.o)) (below_size HB.o)); replace ah := A_ (Kd.R_elder' ah.o (Kd.R_base bi) hb); replace aa := bb_ aa hb; replace ae := bb_ ae hb; replace ac := bb_ ac hb; replace HB := bs_ HB hb; clear hb bi; refine hK.out _ _ ⟨bz0 ac.o, bz1 ac.o, bz2 ac.o, bz0 aa.o, bz1 aa.o, bz2 aa.o, ((HB.o.cell (World.block_lt_of_cell? w _ an)).trans an)⟩ (fun aj => ?_); clear hK K; refine nm_ 21 ?_; refine one_ (i := 8) (N := some 27) (mk_ 13 511) rfl rfl (one_of az.o (by kernel_rfl)) (by decide) (fun K hK => ?_); refine Kd.R_append_rows_step (Kd.int .i64) (w0 := w) w.heap.size (by rfl) (.tmp 21) (.tmp 26) 23 3 (.int .i64 0) 8 rfl Try.underlying23 info3 rfl (by decide) (by omega) b7 aX (rd_L1 aq ax) _ _ _ (o1 (.slice aE ay.length aG)) (fun _ => False) rfl rfl ?aO ?aR (fun _ _ h => h) (fun _ h => h.elim) ?aF ?aB ?aS ?aL ?_
        (case aR => exact (Kd.C_below a8.o HB.o))
        (case aB => exact HB.o)
        (case aF => exact (fun k_ hk => Kd.fresh' (Kd.R_lt ah.o) k_ hk))
        (case aO => exact (by exact Kd.R_mono aQ.o (fun _ hk => hk.2)))
        (case aS => exact (below_size HB.o))
        (case aL => have := bO.o; omega)
        intro cA w26 ho hb hg hat; rw [← bR.o] at ho; replace af := A_ (Kd.S_after (ok := (o1 (.slice aE ay.length aG))) af.o hg hat); replace ah := A_ (Kd.R_after (ok := (fun _ => True)) ah.o hg hat); replace aa := gR_ aQ aa hg; replace ae := gR_ aQ ae hg; replace ac := gR_ aQ ac hg; replace HB := A_ (hb); have aZ := A_ (ho); clear aQ ho hb hg hat; obtain ⟨bM, bU, bW⟩ := Kd.R_slice aZ.o
        (first | subst bW | (injection bW with f1_ f2_ f3_; have f4_ := f1_.symm; have f5_ := f3_.symm; clear f1_ f2_ f3_; subst f4_; subst f5_))
        refine hK.out _ _ ⟨bz0 ac.o, bz1 ac.o, bz2 ac.o, bz0 aa.o, bz1 aa.o, bz2 aa.o, ((HB.o.cell (World.block_lt_of_cell? w _ an)).trans an)⟩ (fun aj => ?_); clear hK K; refine nm_ 27 ?_; refine one_ (i := 9) (N := some 28) (mk_ 13 1023) rfl rfl (one_of az.o (by kernel_rfl)) (by decide) (fun K hK => ?_); refine value_ (w1 := ?_) (v := ?_) (by rfl) rfl ?_ ?_; rotate_left 2
        ·go_simp
         constructor
         ·rfl
         rfl
        refine hK.out _ _ ⟨(blk_cell (blk_alloc ac.o _) 0).trans rfl, (blk_cell (blk_alloc ac.o _) 1).trans rfl, (blk_cell (blk_alloc ac.o _) 2).trans rfl, (blk_cell (blk_alloc aa.o _) 0).trans rfl, (blk_cell (blk_alloc aa.o _) 1).trans rfl, (blk_cell (blk_alloc aa.o _) 2).trans rfl, (World.cell?_alloc_lt _ _ _ (World.block_lt_of_cell? _ _ (((HB.o.cell (World.block_lt_of_cell? w _ an)).trans an)))).trans (((HB.o.cell (World.block_lt_of_cell? w _ an)).trans an))⟩ (fun aj => ?_); clear hK K; refine nm_ 28 ?_; refine one_ (i := 10) (N := some 29) (mk_ 13 2047) rfl rfl (one_of az.o (by kernel_rfl)) (by decide) (fun K hK => ?_); refine Kd.S_append_step (Kd.slice 3 (Kd.int .i64)) (w0 := w) w.heap.size (by rfl) (.tmp 20) (.tmp 28) 22 23 (.slice none 0 0) 24 rfl Try.underlying22 info23 rfl (by decide) (by omega) au al bo [.slice bM bo.length bU] (o1 (.slice aE ay.length aG)) (fun k_ => some k_ = (.slice bM bo.length bU : Value).ownBlock) rfl rfl ?aP (fun k_ hk_ => ((Kd.R_mono (ok' := fun k_ => ((o1 (.slice aE ay.length aG))) k_ ∧ some k_ ≠ (au : Value).ownBlock) (Kd.R_apart' (aZ.o) (Kd.S_typed af.o) (by decide)) (fun k_ hk => ⟨hk.1, hk.2⟩))).1 k_ hk_.symm) ?aF ?aO ?aB ?aS ?aL ?_
        (case aP => exact Kd.M_row (Kd.R_mono (Kd.R_tight rfl (Kd.R_mono (ok' := fun k_ => ((o1 (.slice aE ay.length aG))) k_ ∧ some k_ ≠ (au : Value).ownBlock) (Kd.R_apart' (aZ.o) (Kd.S_typed af.o) (by decide)) (fun k_ hk => ⟨hk.1, hk.2⟩))) (fun _ h_ => h_)))
        (case aB => exact HB.o)
        (case aF => exact (fun k_ hk => Kd.fresh' (Kd.R_lt ah.o) k_ hk))
        (case aO => exact (by exact Kd.S_mono af.o (fun k_ hk => ⟨hk.1, fun e_ => hk.2 e_⟩)))
        (case aS => exact (below_size HB.o))
        (case aL => have := bP.o; omega)
        intro cB w27 ho hb hg hat; rw [← bS.o] at ho; replace ah := A_ (Kd.R_over' ah.o (Kd.S_typed af.o) (by decide) hg); replace aa := gS_ af aa hg; replace ae := gS_ af ae hg; replace ac := gS_ af ac hg; replace HB := A_ (hb); have bs := A_ (ho); clear af aZ ho hb hg hat; obtain ⟨bC, bG, bX⟩ := Kd.S_slice bs.o
        (first | subst bX | (injection bX with f1_ f2_ f3_; have f4_ := f1_.symm; have f5_ := f3_.symm; clear f1_ f2_ f3_; subst f4_; subst f5_))
        refine hK.out _ _ ⟨bz0 ac.o, bz1 ac.o, bz2 ac.o, bz0 aa.o, bz1 aa.o, bz2 aa.o, ((HB.o.cell (World.block_lt_of_cell? w _ an)).trans an)⟩ (fun aj => ?_); clear hK K; refine nm_ 29 ?_; refine pw_ 11 30 (mk_ 13 4095) az ?_; refine last_ (i := 12) (N := none) (mk_ 13 8191) rfl rfl (one_of az.o (by kernel_rfl)) (by decide) (fun K hK => ?_)
        have hs30 : w27.cell? ⟨am, 1, none⟩ = some (au) := bz1 ac.o
        have hfs30 := blk_frozen ac.o 1; have hns30_0 := ab.o; have hns30_1 := ag.o; have hms30_0 := ai.o; have hms30_1 := ak.o; refine skip_ (w1 := ?_) (by rfl) rfl ?_ ?_; rotate_left
        ·go_simp
         rfl
        refine hK.out _ _ ?_; clear hK K; refine done_ (done_of az.o (by kernel_rfl)) ?_
        try go_wp2
        go_roundg k1
        case measure => have := ce.o; omega
        case rel => exact ⟨(wrap64 (ax + 1)), (bp), (.slice bC bp.length bG), (by rfl), H', ⟨by have := ce.o; omega⟩, ⟨by exact Kd.S_mono (Kd.S_far (p := ⟨am, 1, none⟩) (Kd.S_types bs.o ac.o (by decide)) (fun _ hk => hk.2) (.slice bC bp.length bG)) (fun _ hk => hk.1)⟩, ⟨by exact Kd.R_mono (Kd.R_far (p := ⟨am, 1, none⟩) (Kd.R_types ah.o ac.o (by decide)) (fun _ hk => hk.2) (.slice bC bp.length bG)) (fun _ hk => trivial)⟩, ⟨by exact fa_ ab aa.o⟩, ⟨by exact fa_ ag ae.o⟩, ⟨by exact pu_ 1 ac.o rfl⟩, ⟨by repeat (first | (with_reducible first | exact HB.o | apply below_alloc | apply pw_below_drewN | apply below_drew1 | refine below_set ?_ bd.o | refine below_set ?_ be.o | refine below_set ?_ aA.o) | exact HB.o)⟩⟩
       rw [if_neg c19] at H
       cases H
      rw [if_neg c18] at H
      cases H
     rw [if_neg c17] at H
     cases H
    rw [if_neg c16] at H; have bT := decide_eq_false c16; clear c16; simp only [Option.some.injEq, Prod.mk.injEq] at H; obtain ⟨rfl, rfl, rfl⟩ := H; have cj := aJ.o; have cr := aK.o; have ck := ab.o; have cv := ai.o; have b0 := bq3 aa.o; have cm := ak.o; have cw := ag.o; have b1 := bq3 ac.o; have b2 := bq3 ae.o; obtain ⟨b3, b4, b6⟩ := Kd.S_slice af.o; subst b6
    go_wp2
    refine bodyPost_ret (results_cell_row rfl _ _ aV 32 #[.int .i64 ap, .slice b3 al.length b4, .slice aE ay.length aG] (0, 0) _ rfl (by exact pu_ 2 (pu_ 1 (pu_ 0 ae.o rfl) rfl) rfl) Try.underlying32 rfl (by kernel_rfl)) rfl ?_; exact ⟨_, _, by rfl, by exact Kd.S_mono (gS3_ (tS_ af ae)) (fun _ hk => hk.1), by exact Kd.R_mono (gR3_ (tR_ ah ae)) (fun _ hk => trivial), by repeat (first | (with_reducible first | exact HB.o | apply below_alloc | apply pw_below_drewN | apply below_drew1 | refine below_set ?_ bd.o | refine below_set ?_ be.o | refine below_set ?_ aA.o) | exact HB.o)⟩
 rw [if_neg c2] at H
 cases H

end Go.Proofs.Ytgmfjcckmapkbaa.PFnExactCountingForm

