/- Walks of the functions that the law reaches. -/
import Derived.Test.YtgmfjcckmapkbaaPFnExactCountingFormx10
namespace Go.Proofs.Ytgmfjcckmapkbaa.PFnExactCountingForm
open Go.RowKit Go.Proofs.YtgmfjcckmapkbaaW.PrintWords Go.Proofs.YtgmfjcckmapkbaaW.PrintLast Go.Proofs.YtgmfjcckmapkbaaW.PrintMore
attribute [local go_sem] max2_int min2_int max_two min_two max_three min_three max_four min_four
set_option linter.unusedVariables false
set_option maxHeartbeats 8000000
set_option maxRecDepth 100000
set_option linter.unusedSimpArgs false

def impl_Sequence_own.l0 : Nat → List (List Int) → Int → Int → Int → List (List Int) → List Int → Option (Int × (List (List Int)) × List Int)
 | 0, _, _, _, _, _, _ => none
 | k + 1, bK, b4, bA, aW, aD, aX => if bA < b4 then (if 0 ≤ bA then (if bA < (bK.length : Int) then ((slices_Clone_int_int.f (rd_L1 bK bA)).bind fun aN => (if aD.length < 5864062014805 then (impl_Sequence_own.l0 k bK b4 (wrap64 (bA + 1)) aW (aD ++ [aN]) aX) else (none))) else (none)) else (none)) else (some (aW, aD, aX))
def impl_Sequence_own.f (k : Nat) (av : Int) (ao : List (List Int)) (aw : List Int) : Option (Int × (List (List Int)) × List Int) := (slices_Clone_int_int.f aw).bind fun aq => (impl_Sequence_own.l0 k ao (ao.length : Int) 0 av ([] : List (List Int)) aq)
def impl_Sequence_own.T1 : Bool × List (List Nat × List Nat) := (true, [([], []), ([0], [0]), ([], []), ([2], [2]), ([3], [3]), ([1, 4], [1, 4]), ([], []), ([6, 5, 4, 0, 1, 2, 3, 4, 5, 6], [5, 6])])
def impl_Sequence_own.B1 : List Nat := [0, 1, 0, 4, 12, 31, 0, 127]
theorem impl_Sequence_own.tab1 : rtab .any (opsOf Try.f57 1) = impl_Sequence_own.T1 := by kernel_rfl
theorem impl_Sequence_own.bits1 : waitsOk impl_Sequence_own.T1.2 impl_Sequence_own.B1 = true := by kernel_rfl
def impl_Sequence_own.T5 : Bool × List (List Nat × List Nat) := (true, [([], []), ([0], [0]), ([], []), ([2], [2]), ([3], [3]), ([1, 4, 3], [1, 4]), ([0, 1, 2, 3, 4, 5], []), ([6, 5, 5, 0, 1, 2, 3, 4, 5], [5, 6])])
def impl_Sequence_own.B5 : List Nat := [0, 1, 0, 4, 12, 31, 63, 127]
theorem impl_Sequence_own.tab5 : rtab .any (opsOf Try.f57 5) = impl_Sequence_own.T5 := by kernel_rfl
theorem impl_Sequence_own.bits5 : waitsOk impl_Sequence_own.T5.2 impl_Sequence_own.B5 = true := by kernel_rfl
theorem impl_Sequence_own.calls (k : Nat) (av : Int) (aI : Option Addr) (aK : Nat) (ao : List (List Int)) (aJ : Option Addr) (aM : Nat) (aw : List Int) (r1 : Int) (r2 : List (List Int)) (r3 : List Int) (w : World) (bi : Kd.C (Kd.slice 3 (Kd.int .i64)) w aI ao.length ao) (bg : ao.length ≤ aK) (bj : Kd.C (Kd.int .i64) w aJ aw.length aw) (bh : aw.length ≤ aM) (h : impl_Sequence_own.f k av ao aw = some (r1, r2, r3)) :
  Calls Try.prog 57 #[.agg #[.int .i64 av, .slice aI ao.length aK, .slice aJ aw.length aM]] w fun e w' => ∃ v1_ v2_ : Value, e = .returned (.agg #[.int .i64 r1, v1_, v2_]) ∧ Kd.S (Kd.slice 3 (Kd.int .i64)) 23 w' w.heap.size (o1 v2_) v1_ r2 ∧ Kd.R (Kd.int .i64) 3 w' w.heap.size (fun _ => True) v2_ r3 ∧ Below w.heap.size w w' := by
 have hu32 := Try.underlying32; have bq := A_ bi; have bN := A_ bg; clear bi bg; have bf := A_ bj; have bd := A_ bh; clear bj bh; have HB := A_ (Below.refl w.heap.size w); unfold impl_Sequence_own.f at h; have H := h; clear h; replace H := bA_ H; obtain ⟨aq, A2, H⟩ := H
 have H' := A_ H
 clear H; go_enter Try.func57, Try.ntmps57
 try go_wp2_with (first | ((with_reducible refine gate_dst (N := 1) rfl ?_); refine box_event rfl (N := 1) rfl (cs := #[.int .i64 av, .slice aI ao.length aK, .slice aJ aw.length aM]) (t := 32) (by go_simp; done) ?_; intro au hg w3 hbox hb; have ab := A_ (hbox); have bL := A_ (lg_ (below_size HB.o) hg); have aY := A_ (lg_ (below_size HB.o) hg); replace HB := bs_ HB hb; clear hb hbox hg) | ((with_reducible refine gate_dst (N := 2) rfl ?_); refine box_event rfl (N := 2) rfl (cs := #[.int .i64 0, .slice none 0 0, .slice none 0 0]) (t := 32) (by go_simp; done) ?_; intro aH hg w4 hbox hb; have af := A_ (hbox); have bM := A_ (lg_ (below_size HB.o) hg); have aZ := A_ (lg_ (below_size HB.o) hg); replace HB := bs_ HB hb; have az := nl_ ab hg; have aA := ng_ ab hg; replace ab := bb_ ab hb; clear hb hbox hg))
 replace ab := A_ (blk_drew ab.o); replace af := A_ (blk_drew af.o); replace HB := A_ (below_drew1 HB.o); refine start_ (n := 8) (S := fun w' => w'.cell? ⟨au, 0, none⟩ = some (.int .i64 av) ∧ w'.cell? ⟨au, 1, none⟩ = some (.slice aI ao.length aK) ∧ w'.cell? ⟨au, 2, none⟩ = some (.slice aJ aw.length aM)) (ds := []) (mk_ 8 0) (by kernel_rfl) rfl rfl (bc3 ab) (fun al => ?_); refine with_tabW impl_Sequence_own.tab1 impl_Sequence_own.bits1 (fun ay bB => ?_)
 generalize w4.drew = w5 at ab af HB al ⊢
 refine pw_ 0 6 (mk_ 8 1) ay ?_; refine pw_ 2 8 (mk_ 8 5) ay ?_; refine tk_ 1 7 (mk_ 8 7) ay bB al ?_; refine tk_ 3 9 (mk_ 8 15) ay bB al ?_; refine join_ (σ := Value × Nat) 1 (mk_ 8 127) (fun s_ => [(10, s_.1), (3, .pointer (some ⟨s_.2, 0, none⟩)), (11, .agg #[.int .i64 av, .slice none 0 0, s_.1])]) (fun s_ w' => (w'.cell? ⟨au, 0, none⟩ = some (.int .i64 av) ∧ w'.cell? ⟨au, 1, none⟩ = some (.slice aI ao.length aK) ∧ w'.cell? ⟨au, 2, none⟩ = some (.slice aJ aw.length aM)) ∧ (Kd.R (Kd.int .i64) 3 w' w.heap.size (fun _ => True) s_.1 aq) ∧ (w'.heap[au]? = some (.cells #[.int .i64 av, .slice aI ao.length aK, .slice aJ aw.length aM] 32 (0, 0))) ∧ (w'.heap[aH]? = some (.cells #[.int .i64 0, .slice none 0 0, .slice none 0 0] 32 (0, 0))) ∧ (w'.heap[s_.2]? = some (.cells #[.int .i64 0, .slice none 0 0, .slice none 0 0] 32 (0, 0))) ∧ (w.heap.size ≤ s_.2) ∧ (w.heap.size ≤ s_.2) ∧ (au ≠ s_.2) ∧ (s_.2 ≠ au) ∧ (aH ≠ s_.2) ∧ (s_.2 ≠ aH) ∧ (Below w.heap.size w w')) ?_ ?_; rotate_left
 ·intro hCont; refine two_ (i := 4) (j := 6) (Ni := some 10) (Nj := some 3) (mk_ 8 31) (mk_ 8 79) rfl rfl rfl rfl (two_of ay.o (by kernel_rfl)) (by decide) (by decide) (fun K hK => ?_) (fun K hK => ?_)
  ·skip
   refine cS_ E49 rfl rfl rfl (slices_Clone_int_int.calls _ _ aw aq _ (Kd.C_below bf.o HB.o) bd.o A2.o) (by simp only [mA, mB, mC]; rfl) ?_; rintro e w6 ⟨bz, rfl, ho0, hb⟩; refine ⟨_, rfl, ?_⟩; have ar := A_ (Kd.R_lower ho0 (below_size HB.o)); replace ab := bb_ ab hb; replace af := bb_ af hb; replace HB := bs_ HB hb
   (try clear hb)
   (try clear hb2)
   (try clear hk)
   (try clear hi)
   (try clear ho0)
   obtain ⟨b5, b7, bS⟩ := Kd.R_slice ar.o
   (first | subst bS | (injection bS with f1_ f2_ f3_; have f4_ := f1_.symm; have f5_ := f3_.symm; clear f1_ f2_ f3_; subst f4_; subst f5_))
   refine hK.out _ _ (bc3 ab) (fun al => ?_); clear hK K; refine nm_ 10 ?_; refine pw_ 5 11 (mk_ 8 63) ay ?_; refine one_ (i := 6) (N := some 3) (mk_ 8 127) rfl rfl (one_of ay.o (by kernel_rfl)) (by decide) (fun K hK => ?_); refine box_step rfl (N := 3) rfl (cs := #[.int .i64 0, .slice none 0 0, .slice none 0 0]) (t := 32) (by go_simp; done) ?_; intro aj hg w8 hbox hb; replace ar := A_ (Kd.R_below ar.o hb); have ae := A_ (hbox); have aQ := A_ (lg_ (below_size HB.o) hg); have ax := A_ (lg_ (below_size HB.o) hg); replace HB := bs_ HB hb; have aa := nl_ ab hg; have ai := ng_ ab hg; replace ab := bb_ ab hb; have ag := nl_ af hg; have ak := ng_ af hg; replace af := bb_ af hb; clear hb hbox hg; refine hK.out _ _ (bc3 ab) (fun al => ?_); clear hK K; refine nm_ 3 ?_; exact norm_ (by simp only [putAll, Act.put, mD, mE, mF]) (hCont (.slice b5 aq.length b7, aj) _ ⟨al, ar.o, ab.o, af.o, ae.o, aQ.o, ax.o, aa.o, ai.o, ag.o, ak.o, HB.o⟩)
  skip
  refine box_step rfl (N := 3) rfl (cs := #[.int .i64 0, .slice none 0 0, .slice none 0 0]) (t := 32) (by go_simp; done) ?_; intro aj hg w6 hbox hb; have ae := A_ (hbox); have aQ := A_ (lg_ (below_size HB.o) hg); have ax := A_ (lg_ (below_size HB.o) hg); replace HB := bs_ HB hb; have aa := nl_ ab hg; have ai := ng_ ab hg; replace ab := bb_ ab hb; have ag := nl_ af hg; have ak := ng_ af hg; replace af := bb_ af hb; clear hb hbox hg; refine hK.out _ _ (bc3 ab) (fun al => ?_); clear hK K; refine nm_ 3 ?_; refine one_ (i := 4) (N := some 10) (mk_ 8 95) rfl rfl (one_of ay.o (by kernel_rfl)) (by decide) (fun K hK => ?_); refine cS_ E49 rfl rfl rfl (slices_Clone_int_int.calls _ _ aw aq _ (Kd.C_below bf.o HB.o) bd.o A2.o) (by simp only [mA, mB, mC]; rfl) ?_; rintro e w7 ⟨bz, rfl, ho0, hb⟩; refine ⟨_, rfl, ?_⟩; have ar := A_ (Kd.R_lower ho0 (below_size HB.o)); replace ab := bb_ ab hb; replace af := bb_ af hb; replace ae := bb_ ae hb; replace HB := bs_ HB hb
  (try clear hb)
  (try clear hb2)
  (try clear hk)
  (try clear hi)
  (try clear ho0)
  obtain ⟨b6, b8, bT⟩ := Kd.R_slice ar.o
  (first | subst bT | (injection bT with f1_ f2_ f3_; have f4_ := f1_.symm; have f5_ := f3_.symm; clear f1_ f2_ f3_; subst f4_; subst f5_))
  refine hK.out _ _ (bc3 ab) (fun al => ?_); clear hK K; refine nm_ 10 ?_; refine pw_ 5 11 (mk_ 8 127) ay ?_; exact norm_ (by simp only [putAll, Act.put, mD, mE, mF]) (hCont (.slice b6 aq.length b8, aj) _ ⟨al, ar.o, ab.o, af.o, ae.o, aQ.o, ax.o, aa.o, ai.o, ag.o, ak.o, HB.o⟩)
 rintro ⟨bz, aj⟩ w9 ⟨al, h0_, h1_, h2_, h3_, h4_, h5_, h6_, h7_, h8_, h9_, bm⟩
 clear ab af HB; try dsimp only at al h0_ h1_ h2_ h3_ h4_ h5_ h6_ h7_ h8_ h9_ bm
 have ar := A_ h0_; have ab := A_ h1_; have af := A_ h2_; have ae := A_ h3_; have aQ := A_ h4_; have ax := A_ h5_; have aa := A_ h6_; have ai := A_ h7_; have ag := A_ h8_; have ak := A_ h9_; have HB := A_ bm; clear h0_ h1_ h2_ h3_ h4_ h5_ h6_ h7_ h8_ h9_ bm
 obtain ⟨aE, aG, bv⟩ := Kd.R_slice ar.o
 (first | subst bv | (injection bv with f1_ f2_ f3_; have f4_ := f1_.symm; have f5_ := f3_.symm; clear f1_ f2_ f3_; subst f4_; subst f5_))
 refine norm_ (by simp only [putAll, Act.put, mD, mE, mF]; rfl) ?_
 refine one_ (i := 7) (N := none) (mk_ 8 255) rfl rfl (one_of ay.o (by kernel_rfl)) (by decide) (fun K hK => ?_)
 have hs11 : w9.cell? ⟨aj, 0, none⟩ = some (.int .i64 0) := bz0 ae.o
 have hfs11 := blk_frozen ae.o 0; have hns11_0 := aa.o; have hns11_1 := ag.o; have hms11_0 := ai.o; have hms11_1 := ak.o
 have hs12 : w9.cell? ⟨aj, 1, none⟩ = some (.slice none 0 0) := bz1 ae.o
 have hfs12 := blk_frozen ae.o 1; have hns12_0 := aa.o; have hns12_1 := ag.o; have hms12_0 := ai.o; have hms12_1 := ak.o
 have hs13 : w9.cell? ⟨aj, 2, none⟩ = some (.slice none 0 0) := bz2 ae.o
 have hfs13 := blk_frozen ae.o 2; have hns13_0 := aa.o; have hns13_1 := ag.o; have hms13_0 := ai.o; have hms13_1 := ak.o; refine skip_ (w1 := ?_) (by rfl) rfl ?_ ?_; rotate_left
 ·go_simp
  rfl
 refine hK.out _ _ ⟨((cell_far (p := ⟨aj, _, none⟩) aa.o _).trans (((cell_far (p := ⟨aj, _, none⟩) aa.o _).trans (((cell_far (p := ⟨aj, _, none⟩) aa.o _).trans (al.1)))))), ((cell_far (p := ⟨aj, _, none⟩) aa.o _).trans (((cell_far (p := ⟨aj, _, none⟩) aa.o _).trans (((cell_far (p := ⟨aj, _, none⟩) aa.o _).trans (al.2.1)))))), ((cell_far (p := ⟨aj, _, none⟩) aa.o _).trans (((cell_far (p := ⟨aj, _, none⟩) aa.o _).trans (((cell_far (p := ⟨aj, _, none⟩) aa.o _).trans (al.2.2))))))⟩ (fun al => ?_); clear hK K; refine done_ (done_of ay.o (by kernel_rfl)) ?_; have bU := az.o; have bZ := aA.o; have bV := aa.o; have b0 := ai.o; have bc := bq3 ab.o
 try go_wp2
 go_loopg [15] k (fun kq b9 w' => ∃ (ap : Int) (am : List (List Int)) (an : Value), b9 = .int .i64 ap ∧ Aside0 (impl_Sequence_own.l0 kq ao (ao.length : Int) ap av am aq = some (r1, r2, r3)) ∧ Aside0 (kq ≤ k) ∧ Aside0 (Kd.S (Kd.slice 3 (Kd.int .i64)) 23 w' w.heap.size (o1 (.slice aE aq.length aG)) an am) ∧ Aside0 (Kd.R (Kd.int .i64) 3 w' w.heap.size (fun _ => True) (.slice aE aq.length aG) aq) ∧ Aside0 (w'.heap[au]? = some (.cells #[.int .i64 av, (.slice aI ao.length aK), (.slice aJ aw.length aM)] 32 (0, 0))) ∧ Aside0 (w'.heap[aH]? = some (.cells #[.int .i64 0, (.slice none 0 0), (.slice none 0 0)] 32 (0, 0))) ∧ Aside0 (w'.heap[aj]? = some (.cells #[.int .i64 av, an, (.slice aE aq.length aG)] 32 (0, 0))) ∧ Aside0 (Below w.heap.size w w'))
 case atStart => exact ⟨(0), (([] : List (List Int))), (.slice none 0 0), (by rfl), H', ⟨Nat.le_refl _⟩, ⟨by exact Kd.S_nil _ _ _ _ _⟩, ⟨by exact Kd.R_mono (gR3_ (tR_ ar ae)) (fun _ hk => trivial)⟩, ⟨by exact fa_ aa (fa_ aa (fa_ aa ab.o))⟩, ⟨by exact fa_ ag (fa_ ag (fa_ ag af.o))⟩, ⟨by exact pu_ 2 (pu_ 1 (pu_ 0 ae.o rfl) rfl) rfl⟩, ⟨by repeat (first | (with_reducible first | exact HB.o | apply below_alloc | apply pw_below_drewN | apply below_drew1 | refine below_set ?_ aY.o | refine below_set ?_ aZ.o | refine below_set ?_ ax.o) | exact HB.o)⟩⟩
 case round =>
  clear H'
  try clear bc
  obtain ⟨ap, am, an, rfl, HA, bO, ac, ah, ab, af, ae, HB⟩ := hrel
  cases gk with
  | zero => exact nz_ HA.o
  | succ k1 =>
   have H := HA.o; clear HA; simp only [impl_Sequence_own.l0] at H
   by_cases c17 : ap < (ao.length : Int)
   ·rw [if_pos c17] at H; have bt := decide_eq_true c17; clear c17
    by_cases c18 : 0 ≤ ap
    ·rw [if_pos c18] at H; have bQ := decide_eq_true c18; clear c18
     by_cases c19 : ap < (ao.length : Int)
     ·rw [if_pos c19] at H; have bR := decide_eq_true c19; clear c19; replace H := bA_ H; obtain ⟨aN, A20, H⟩ := H
      by_cases c21 : am.length < 5864062014805
      ·rw [if_pos c21] at H; have br := A_ c21; clear c21; obtain ⟨a9, a8⟩ := ex_ ((am ++ [aN]) : List (List Int)); replace H : (impl_Sequence_own.l0 k1 ao (ao.length : Int) (wrap64 (ap + 1)) av a9 aq) = some (r1, r2, r3) := by (rw [a8]; with_reducible exact H)
       have bs := A_ a8; clear a8
       have H' := A_ H
       clear H
       have bn : 0 ≤ (ap : Int) := oa_
       have bo : ap < (ao.length : Int) := oa_
       obtain ⟨bP, bE, bG, bI, aC, aV, aU⟩ := at_L1 bq.o ap bn bo
       cases bI
       replace aC := (HB.o.cell (World.block_lt_of_cell? w _ aC)).trans aC; have bb := A_ aU; have ba := A_ aV; clear aU aV; replace bn := eq_true bn; replace bo := eq_true bo
       try go_wp2
       replace ac := A_ (Kd.S_drew ac.o); replace ah := A_ (Kd.R_drew ah.o); replace ab := A_ (blk_drew ab.o); replace af := A_ (blk_drew af.o); replace ae := A_ (blk_drew ae.o); replace HB := A_ (below_drew1 HB.o); refine start_ (n := 8) (S := fun w' => w'.cell? ⟨aj, 0, none⟩ = some (.int .i64 av) ∧ w'.cell? ⟨aj, 1, none⟩ = some (an) ∧ w'.cell? ⟨aj, 2, none⟩ = some (.slice aE aq.length aG)) (ds := [7]) (mk_ 8 0) (by kernel_rfl) rfl rfl (bc3 ae) (fun al => ?_); refine with_tabW impl_Sequence_own.tab5 impl_Sequence_own.bits5 (fun ay bB => ?_)
       generalize wr.drew = w22 at ac ah ab af ae HB al ⊢
       refine pw_ 0 19 (mk_ 8 1) ay ?_; refine pw_ 2 21 (mk_ 8 5) ay ?_; refine tk_ 1 20 (mk_ 8 7) ay bB al ?_; refine one_ (i := 3) (N := some 22) (mk_ 8 15) rfl rfl (one_of ay.o (by kernel_rfl)) (by decide) (fun K hK => ?_); refine cS_ E49 rfl rfl rfl (slices_Clone_int_int.calls _ _ (rd_L1 ao ap) aN _ (Kd.C_below bb.o HB.o) ba.o A20.o) (by simp only [mA, mB, mC]; rfl) ?_; rintro e w23 ⟨cc, rfl, ho0, hb⟩; refine ⟨_, rfl, ?_⟩; replace ac := A_ (Kd.S_elder' ac.o (Kd.R_base ho0) hb); have aT := A_ (Kd.R_lower (Kd.R_new' ho0 (Kd.R_lt ah.o)) (below_size HB.o)); replace ah := A_ (Kd.R_elder' ah.o (Kd.R_base ho0) hb); replace ab := bb_ ab hb; replace af := bb_ af hb; replace ae := bb_ ae hb; replace HB := bs_ HB hb
       (try clear hb)
       (try clear hb2)
       (try clear hk)
       (try clear hi)
       (try clear ho0)
       obtain ⟨bp, bu, bw⟩ := Kd.R_slice aT.o
       (first | subst bw | (injection bw with f1_ f2_ f3_; have f4_ := f1_.symm; have f5_ := f3_.symm; clear f1_ f2_ f3_; subst f4_; subst f5_))
       refine hK.out _ _ (bc3 ae) (fun al => ?_); clear hK K; refine nm_ 22 ?_; refine one_ (i := 4) (N := some 23) (mk_ 8 31) rfl rfl (one_of ay.o (by kernel_rfl)) (by decide) (fun K hK => ?_); refine value_ (w1 := ?_) (v := ?_) (by rfl) rfl ?_ ?_; rotate_left 2
       ·go_simp
        constructor
        ·rfl
        rfl
       refine hK.out _ _ ⟨(blk_cell (blk_alloc ae.o _) 0).trans rfl, (blk_cell (blk_alloc ae.o _) 1).trans rfl, (blk_cell (blk_alloc ae.o _) 2).trans rfl⟩ (fun al => ?_); clear hK K; refine nm_ 23 ?_; refine one_ (i := 5) (N := some 24) (mk_ 8 63) rfl rfl (one_of ay.o (by kernel_rfl)) (by decide) (fun K hK => ?_); refine Kd.S_append_step (Kd.slice 3 (Kd.int .i64)) (w0 := w) w.heap.size (by rfl) (.tmp 20) (.tmp 23) 22 23 (.slice none 0 0) 24 rfl Try.underlying22 info23 rfl (by decide) (by omega) an am aN [.slice bp aN.length bu] (o1 (.slice aE aq.length aG)) (fun k_ => some k_ = (.slice bp aN.length bu : Value).ownBlock) rfl rfl ?aP (fun k_ hk_ => ((Kd.R_mono (ok' := fun k_ => ((o1 (.slice aE aq.length aG))) k_ ∧ some k_ ≠ (an : Value).ownBlock) (Kd.R_apart' (aT.o) (Kd.S_typed ac.o) (by decide)) (fun k_ hk => ⟨hk.1.2, hk.2⟩))).1 k_ hk_.symm) ?aF ?aO ?aB ?aS ?aL ?_
       (case aP => exact Kd.M_row (Kd.R_mono (Kd.R_tight rfl (Kd.R_mono (ok' := fun k_ => ((o1 (.slice aE aq.length aG))) k_ ∧ some k_ ≠ (an : Value).ownBlock) (Kd.R_apart' (aT.o) (Kd.S_typed ac.o) (by decide)) (fun k_ hk => ⟨hk.1.2, hk.2⟩))) (fun _ h_ => h_)))
       (case aB => exact HB.o)
       (case aF => exact (fun k_ hk => Kd.fresh' (Kd.R_lt ah.o) k_ hk))
       (case aO => exact (by exact Kd.S_mono ac.o (fun k_ hk => ⟨hk.1, fun e_ => hk.2 e_⟩)))
       (case aS => exact (below_size HB.o))
       (case aL => have := br.o; omega)
       intro cd w24 ho hb hg hat; rw [← bs.o] at ho; replace ah := A_ (Kd.R_over' ah.o (Kd.S_typed ac.o) (by decide) hg); replace ab := gS_ ac ab hg; replace af := gS_ ac af hg; replace ae := gS_ ac ae hg; replace HB := A_ (hb); have be := A_ (ho); clear ac aT ho hb hg hat; obtain ⟨bk, bl, bx⟩ := Kd.S_slice be.o
       (first | subst bx | (injection bx with f1_ f2_ f3_; have f4_ := f1_.symm; have f5_ := f3_.symm; clear f1_ f2_ f3_; subst f4_; subst f5_))
       refine hK.out _ _ (bc3 ae) (fun al => ?_); clear hK K; refine nm_ 24 ?_; refine pw_ 6 25 (mk_ 8 127) ay ?_; refine last_ (i := 7) (N := none) (mk_ 8 255) rfl rfl (one_of ay.o (by kernel_rfl)) (by decide) (fun K hK => ?_)
       have hs27 : w24.cell? ⟨aj, 1, none⟩ = some (an) := bz1 ae.o
       have hfs27 := blk_frozen ae.o 1; have hns27_0 := aa.o; have hns27_1 := ag.o; have hms27_0 := ai.o; have hms27_1 := ak.o; refine skip_ (w1 := ?_) (by rfl) rfl ?_ ?_; rotate_left
       ·go_simp
        rfl
       refine hK.out _ _ ?_; clear hK K; refine done_ (done_of ay.o (by kernel_rfl)) ?_
       try go_wp2
       go_roundg k1
       case measure => have := bO.o; omega
       case rel => exact ⟨(wrap64 (ap + 1)), (a9), (.slice bk a9.length bl), (by rfl), H', ⟨by have := bO.o; omega⟩, ⟨by exact Kd.S_mono (Kd.S_far (p := ⟨aj, 1, none⟩) (Kd.S_types be.o ae.o (by decide)) (fun _ hk => hk.2) (.slice bk a9.length bl)) (fun _ hk => hk.1)⟩, ⟨by exact Kd.R_mono (Kd.R_far (p := ⟨aj, 1, none⟩) (Kd.R_types ah.o ae.o (by decide)) (fun _ hk => hk.2) (.slice bk a9.length bl)) (fun _ hk => trivial)⟩, ⟨by exact fa_ aa ab.o⟩, ⟨by exact fa_ ag af.o⟩, ⟨by exact pu_ 1 ae.o rfl⟩, ⟨by repeat (first | (with_reducible first | exact HB.o | apply below_alloc | apply pw_below_drewN | apply below_drew1 | refine below_set ?_ aY.o | refine below_set ?_ aZ.o | refine below_set ?_ ax.o) | exact HB.o)⟩⟩
      rw [if_neg c21] at H
      cases H
     rw [if_neg c19] at H
     cases H
    rw [if_neg c18] at H
    cases H
   rw [if_neg c17] at H; have bt := decide_eq_false c17; clear c17; simp only [Option.some.injEq, Prod.mk.injEq] at H; obtain ⟨rfl, rfl, rfl⟩ := H; have bW := ai.o; have b1 := aa.o; have bX := ak.o; have b2 := ag.o; have bC := bq3 ae.o; have bY := aA.o; have b3 := az.o; have bD := bq3 af.o; obtain ⟨bF, bH, bJ⟩ := Kd.S_slice ac.o; subst bJ
   go_wp2
   refine bodyPost_ret (results_cell_row rfl _ _ aH 32 #[.int .i64 av, .slice bF am.length bH, .slice aE aq.length aG] (0, 0) _ rfl (by exact pu_ 2 (pu_ 1 (pu_ 0 af.o rfl) rfl) rfl) Try.underlying32 rfl (by kernel_rfl)) rfl ?_; exact ⟨_, _, by rfl, by exact Kd.S_mono (gS3_ (tS_ ac af)) (fun _ hk => hk.1), by exact Kd.R_mono (gR3_ (tR_ ah af)) (fun _ hk => trivial), by repeat (first | (with_reducible first | exact HB.o | apply below_alloc | apply pw_below_drewN | apply below_drew1 | refine below_set ?_ aY.o | refine below_set ?_ aZ.o | refine below_set ?_ ax.o) | exact HB.o)⟩

end Go.Proofs.Ytgmfjcckmapkbaa.PFnExactCountingForm

