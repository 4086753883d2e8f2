/- Walks of the functions that the law reaches. -/
import Derived.Test.YtgmfjcckmapkbaaPFnExactPrefixSumx0
import Derived.Test.YtgmfjcckmapkbaaPFnExactPrefixSumx1
import Derived.Test.YtgmfjcckmapkbaaPFnExactPrefixSumx2
import Derived.Test.YtgmfjcckmapkbaaPFnExactPrefixSumx13
import Derived.Test.YtgmfjcckmapkbaaPFnExactPrefixSumx14
import Derived.Test.YtgmfjcckmapkbaaPFnExactPrefixSumx20
import Derived.Test.YtgmfjcckmapkbaaPFnExactPrefixSumx21
import Derived.Test.YtgmfjcckmapkbaaPFnExactPrefixSumx22
namespace Go.Proofs.Ytgmfjcckmapkbaa.PFnExactPrefixSum
open Go.RowKit Go.Proofs.YtgmfjcckmapkbaaW.PrintWords Go.Proofs.YtgmfjcckmapkbaaW.PrintLast Go.Proofs.YtgmfjcckmapkbaaW.PrintMore
attribute [local go_sem] max2_int min2_int max_two min_two max_three min_three max_four min_four
set_option linter.unusedVariables false
set_option maxHeartbeats 8000000
set_option maxRecDepth 100000
set_option linter.unusedSimpArgs false
def spec_PrefixSum.l0 : Nat → Int → Int → Int → Int → List (List Int) → List Int → Option (Int)
 | 0, _, _, _, _, _, _ => none
 | k + 1, x1, x5, x6, aL, aM, aN => if x6 ≤ 3 then ((spec_CountByForm.f k aL aM aN x6 x1).bind fun aI => (if aI < 0 then (some (-1)) else (spec_PrefixSum.l0 k x1 (wrap64 (x5 + (wrap64 (x6 * aI)))) (wrap64 (x6 + 1)) aL aM aN))) else (some x5)
def spec_PrefixSum.f (k : Nat) (aj : Int) (ag : List (List Int)) (ah : List Int) (a1 : Int) : Option (Int) := spec_PrefixSum.l0 k a1 0 1 aj ag ah
theorem spec_PrefixSum.calls (k : Nat) (aj : Int) (am : Option Addr) (ao : Nat) (ag : List (List Int)) (an : Option Addr) (ap : Nat) (ah : List Int) (a1 : Int) (r : Int) (w : World) (aC : Kd.C (Kd.slice 3 (Kd.int .i64)) w am ag.length ag) (aA : ag.length ≤ ao) (aD : Kd.C (Kd.int .i64) w an ah.length ah) (aB : ah.length ≤ ap) (h : spec_PrefixSum.f k aj ag ah a1 = some r) :
  Calls Try.prog 17 #[.agg #[.int .i64 aj, .slice am ag.length ao, .slice an ah.length ap], .int .i64 a1] w fun e w' => e = .returned (.int .i64 r) ∧ Below w.heap.size w w' := by
 have hu32 := Try.underlying32; have aw := A_ aC; have au := A_ aA; clear aC aA; have ax := A_ aD; have av := A_ aB; clear aD aB; have HB := A_ (Below.refl w.heap.size w); unfold spec_PrefixSum.f at h; have H := h; clear h
 have H' := A_ H
 clear H; go_enter Try.func17, Try.ntmps17
 go_wp2_with (first | ((with_reducible refine gate_dst (N := 2) rfl ?_); refine box_event rfl (N := 2) rfl (cs := #[.int .i64 aj, .slice am ag.length ao, .slice an ah.length ap]) (t := 32) (by go_simp; done) ?_; intro a6 hg w3 hbox hb; have al := A_ (hbox); have bA := A_ (lg_ (below_size HB.o) hg); have bz := A_ (lg_ (below_size HB.o) hg); replace HB := bs_ HB hb; clear hb hbox hg))
 go_loopg [5, 6] k (fun kq v5 v6 w' => ∃ (aU : Int) (aF : Int), v5 = .int .i64 aU ∧ v6 = .int .i64 aF ∧ Aside0 (spec_PrefixSum.l0 kq a1 aU aF aj ag ah = some r) ∧ Aside0 (kq ≤ k) ∧ Aside0 (w'.heap[a6]? = some (.cells #[.int .i64 aj, (.slice am ag.length ao), (.slice an ah.length ap)] 32 (0, 0))) ∧ Aside0 (Below w.heap.size w w'))
 case atStart => exact ⟨(0), (1), (by rfl), (by rfl), H', ⟨Nat.le_refl _⟩, ⟨al.o⟩, ⟨HB.o⟩⟩
 case round =>
  clear H'; obtain ⟨aU, aF, rfl, rfl, HA, bB, al, HB⟩ := hrel
  cases gk with
  | zero => exact nz_ HA.o
  | succ k1 =>
   have H := HA.o; clear HA; simp only [spec_PrefixSum.l0] at H
   by_cases c4 : aF ≤ 3
   ·rw [if_pos c4] at H; have bh := decide_eq_true c4; clear c4; replace H := bA_ H; obtain ⟨aI, A5, H⟩ := H
    by_cases c6 : aI < 0
    ·rw [if_pos c6] at H; have aV := decide_eq_true c6; clear c6; obtain rfl := Option.some.inj H; have bu := bq3 al.o
     go_wp2_with (first | ((with_reducible refine gc_ 15 rfl ?_); refine cM_ E15 15 (spec_CountByForm.calls k1 aj _ _ ag _ _ ah aF a1 aI _ (Kd.C_below aw.o HB.o) au.o (Kd.C_below ax.o HB.o) av.o A5.o) ?_; rintro e w8 ⟨rfl, hb⟩; refine ⟨_, rfl, ?_⟩; replace al := bb_ al hb; replace HB := bs_ HB hb; clear hb; (try clear hi)))
     go_ret
     exact ⟨by rfl, HB.o⟩
    rw [if_neg c6] at H; have aV := decide_eq_false c6; clear c6
    have H' := A_ H
    clear H; have bw := bq3 al.o
    go_wp2_with (first | ((with_reducible refine gc_ 15 rfl ?_); refine cM_ E15 15 (spec_CountByForm.calls k1 aj _ _ ag _ _ ah aF a1 aI _ (Kd.C_below aw.o HB.o) au.o (Kd.C_below ax.o HB.o) av.o A5.o) ?_; rintro e w10 ⟨rfl, hb⟩; refine ⟨_, rfl, ?_⟩; replace al := bb_ al hb; replace HB := bs_ HB hb; clear hb; (try clear hi)))
    go_roundg k1
    case measure => have := bB.o; omega
    case rel => exact ⟨(wrap64 (aU + (wrap64 (aF * aI)))), (wrap64 (aF + 1)), (by rfl), (by rfl), H', ⟨by have := bB.o; omega⟩, ⟨al.o⟩, ⟨HB.o⟩⟩
   rw [if_neg c4] at H; have bh := decide_eq_false c4; clear c4; obtain rfl := Option.some.inj H
   go_wp2
   go_ret
   exact ⟨by rfl, HB.o⟩

def impl_PrefixSum.l0 : Nat → Int → Int → Int → Int → List (List Int) → List Int → Option (Int)
 | 0, _, _, _, _, _, _ => none
 | k + 1, x1, x5, x6, br, bs, bt => if x6 ≤ 3 then ((impl_CountByForm.f k br bs bt x6 x1).bind fun bh => (if bh < 0 then (some (-1)) else (impl_PrefixSum.l0 k x1 (wrap64 (x5 + (wrap64 (x6 * bh)))) (wrap64 (x6 + 1)) br bs bt))) else (some x5)
def impl_PrefixSum.f (k : Nat) (aj : Int) (af : List (List Int)) (ac : List Int) (a1 : Int) : Option (Int) := impl_PrefixSum.l0 k a1 0 1 aj af ac
theorem impl_PrefixSum.calls (k : Nat) (aj : Int) (aA : Option Addr) (aB : Nat) (af : List (List Int)) (aD : Option Addr) (aC : Nat) (ac : List Int) (a1 : Int) (r : Int) (w : World) (aO : Kd.C (Kd.slice 3 (Kd.int .i64)) w aA af.length af) (aM : af.length ≤ aB) (aP : Kd.C (Kd.int .i64) w aD ac.length ac) (aN : ac.length ≤ aC) (h : impl_PrefixSum.f k aj af ac a1 = some r) :
  Calls Try.prog 18 #[.agg #[.int .i64 aj, .slice aA af.length aB, .slice aD ac.length aC], .int .i64 a1] w fun e w' => e = .returned (.int .i64 r) ∧ Below w.heap.size w w' := by
 have hu32 := Try.underlying32; have aJ := A_ aO; have aI := A_ aM; clear aO aM; have aK := A_ aP; have aV := A_ aN; clear aP aN; have HB := A_ (Below.refl w.heap.size w); unfold impl_PrefixSum.f at h; have H := h; clear h
 have H' := A_ H
 clear H; go_enter Try.func18, Try.ntmps18
 go_wp2_with (first | ((with_reducible refine gate_dst (N := 2) rfl ?_); refine box_event rfl (N := 2) rfl (cs := #[.int .i64 aj, .slice aA af.length aB, .slice aD ac.length aC]) (t := 32) (by go_simp; done) ?_; intro cL hg w3 hbox hb; have aF := A_ (hbox); have dN := A_ (lg_ (below_size HB.o) hg); have dL := A_ (lg_ (below_size HB.o) hg); replace HB := bs_ HB hb; clear hb hbox hg))
 go_loopg [5, 6] k (fun kq v5 v6 w' => ∃ (ah : Int) (bd : Int), v5 = .int .i64 ah ∧ v6 = .int .i64 bd ∧ Aside0 (impl_PrefixSum.l0 kq a1 ah bd aj af ac = some r) ∧ Aside0 (kq ≤ k) ∧ Aside0 (w'.heap[cL]? = some (.cells #[.int .i64 aj, (.slice aA af.length aB), (.slice aD ac.length aC)] 32 (0, 0))) ∧ Aside0 (Below w.heap.size w w'))
 case atStart => exact ⟨(0), (1), (by rfl), (by rfl), H', ⟨Nat.le_refl _⟩, ⟨aF.o⟩, ⟨HB.o⟩⟩
 case round =>
  clear H'; obtain ⟨ah, bd, rfl, rfl, HA, bx, aF, HB⟩ := hrel
  cases gk with
  | zero => exact nz_ HA.o
  | succ k1 =>
   have H := HA.o; clear HA; simp only [impl_PrefixSum.l0] at H
   by_cases c4 : bd ≤ 3
   ·rw [if_pos c4] at H; have da := decide_eq_true c4; clear c4; replace H := bA_ H; obtain ⟨bh, A5, H⟩ := H
    by_cases c6 : bh < 0
    ·rw [if_pos c6] at H; have db := decide_eq_true c6; clear c6; obtain rfl := Option.some.inj H; have dB := bq3 aF.o
     go_wp2_with (first | ((with_reducible refine gc_ 16 rfl ?_); refine cM_ E16 15 (impl_CountByForm.calls k1 aj _ _ af _ _ ac bd a1 bh _ (Kd.C_below aJ.o HB.o) aI.o (Kd.C_below aK.o HB.o) aV.o A5.o) ?_; rintro e w8 ⟨rfl, hb⟩; refine ⟨_, rfl, ?_⟩; replace aF := bb_ aF hb; replace HB := bs_ HB hb; clear hb; (try clear hi)))
     go_ret
     exact ⟨by rfl, HB.o⟩
    rw [if_neg c6] at H; have db := decide_eq_false c6; clear c6
    have H' := A_ H
    clear H; have dC := bq3 aF.o
    go_wp2_with (first | ((with_reducible refine gc_ 16 rfl ?_); refine cM_ E16 15 (impl_CountByForm.calls k1 aj _ _ af _ _ ac bd a1 bh _ (Kd.C_below aJ.o HB.o) aI.o (Kd.C_below aK.o HB.o) aV.o A5.o) ?_; rintro e w10 ⟨rfl, hb⟩; refine ⟨_, rfl, ?_⟩; replace aF := bb_ aF hb; replace HB := bs_ HB hb; clear hb; (try clear hi)))
    go_roundg k1
    case measure => have := bx.o; omega
    case rel => exact ⟨(wrap64 (ah + (wrap64 (bd * bh)))), (wrap64 (bd + 1)), (by rfl), (by rfl), H', ⟨by have := bx.o; omega⟩, ⟨aF.o⟩, ⟨HB.o⟩⟩
   rw [if_neg c4] at H; have da := decide_eq_false c4; clear c4; obtain rfl := Option.some.inj H
   go_wp2
   go_ret
   exact ⟨by rfl, HB.o⟩


def laws_FnExactPrefixSum.f (k : Nat) (ak : Int) (ai : List (List Int)) (aj : List Int) (a1 : Int) : Option (Bool) := (laws_szSequence.f k ak ai aj 1048576).bind fun aK => (if aK < 0 then (some true) else ((laws_toSequence.f k ak ai aj).bind fun bt755 => ((spec_PrefixSum.f k bt755.1 bt755.2.1 bt755.2.2 a1).bind fun aF => ((laws_toSequence.f k ak ai aj).bind fun bt763 => ((impl_PrefixSum.f k bt763.1 bt763.2.1 bt763.2.2 a1).bind fun aG => (if aG = aF then ((laws_toSequence.f k ak ai aj).bind fun bt772 => ((laws_eqSequence.f k bt763.1 bt763.2.1 bt763.2.2 bt772.1 bt772.2.1 bt772.2.2).bind fun a9 => (if a9 = true then (some true) else (some false)))) else (some false)))))))
theorem laws_FnExactPrefixSum.calls (k : Nat) (ak : Int) (aB : Option Addr) (aD : Nat) (ai : List (List Int)) (aC : Option Addr) (aE : Nat) (aj : List Int) (a1 : Int) (r : Bool) (w : World) (a3 : Kd.C (Kd.slice 3 (Kd.int .i64)) w aB ai.length ai) (aY : ai.length ≤ aD) (a4 : Kd.C (Kd.int .i64) w aC aj.length aj) (aZ : aj.length ≤ aE) (h : laws_FnExactPrefixSum.f k ak ai aj a1 = some r) :
  Calls Try.prog 5 #[.agg #[.int .i64 ak, .slice aB ai.length aD, .slice aC aj.length aE], .int .i64 a1] w fun e w' => e = .returned (.bool r) ∧ Below w.heap.size w w' := by
 have hu25 := Try.underlying25; have hu32 := Try.underlying32; have aq := A_ a3; have ao := A_ aY; clear a3 aY; have ar := A_ a4; have ap := A_ aZ; clear a4 aZ; have HB := A_ (Below.refl w.heap.size w); unfold laws_FnExactPrefixSum.f at h; have H := h; clear h; replace H := bA_ H; obtain ⟨aK, A3, H⟩ := H
 by_cases c4 : aK < 0
 ·rw [if_pos c4] at H; have bH := decide_eq_true c4; clear c4; obtain rfl := Option.some.inj H; go_enter Try.func5, Try.ntmps5
  go_wp2_with (first | ((with_reducible refine gate_dst (N := 2) rfl ?_); refine box_event rfl (N := 2) rfl (cs := #[.int .i64 ak, .slice aB ai.length aD, .slice aC aj.length aE]) (t := 25) (by go_simp; done) ?_; intro au hg w5 hbox hb; have aa := A_ (hbox); have aM := A_ (lg_ (below_size HB.o) hg); have aH := A_ (lg_ (below_size HB.o) hg); replace HB := bs_ HB hb; clear hb hbox hg; have bX := bq3 aa.o) | ((with_reducible refine gc_ 6 rfl ?_); refine cM_ E6 11 (laws_szSequence.calls k ak _ _ ai _ _ aj 1048576 aK _ (Kd.C_below aq.o HB.o) ao.o (Kd.C_below ar.o HB.o) ap.o A3.o) ?_; rintro e w7 ⟨rfl, hb⟩; refine ⟨_, rfl, ?_⟩; replace aa := bb_ aa hb; replace HB := bs_ HB hb; clear hb; (try clear hi)))
  go_ret
  exact ⟨by rfl, HB.o⟩
 rw [if_neg c4] at H; have bH := decide_eq_false c4; clear c4; replace H := bA_ H; obtain ⟨⟨aL, aI, aA⟩, A8, H⟩ := H; dsimp only at H; replace H := bA_ H; obtain ⟨aF, A9, H⟩ := H; replace H := bA_ H; obtain ⟨⟨az, an, al⟩, A10, H⟩ := H; dsimp only at H; replace H := bA_ H; obtain ⟨aG, A11, H⟩ := H
 by_cases c12 : aG = aF
 ·rw [if_pos c12] at H
  have be : (aG == aF) = true := beq_iff_eq.mpr c12
  have bf : (aG != aF) = false := bne_eq_false_iff_eq.mpr c12
  clear c12; replace H := bA_ H; obtain ⟨⟨aU, aV, aW⟩, A13, H⟩ := H; dsimp only at H; replace H := bA_ H; obtain ⟨a9, A14, H⟩ := H
  by_cases c15 : a9 = true
  ·subst c15; rw [if_pos rfl] at H; obtain rfl := Option.some.inj H; go_enter Try.func5, Try.ntmps5
   try go_wp2_with (first | ((with_reducible refine gate_dst (N := 2) rfl ?_); refine box_event rfl (N := 2) rfl (cs := #[.int .i64 ak, .slice aB ai.length aD, .slice aC aj.length aE]) (t := 25) (by go_simp; done) ?_; intro au hg w16 hbox hb; have aa := A_ (hbox); have aM := A_ (lg_ (below_size HB.o) hg); have aH := A_ (lg_ (below_size HB.o) hg); replace HB := bs_ HB hb; clear hb hbox hg; have br := bq3 aa.o) | ((with_reducible refine gc_ 6 rfl ?_); refine cM_ E6 11 (laws_szSequence.calls k ak _ _ ai _ _ aj 1048576 aK _ (Kd.C_below aq.o HB.o) ao.o (Kd.C_below ar.o HB.o) ap.o A3.o) ?_; rintro e w18 ⟨rfl, hb⟩; refine ⟨_, rfl, ?_⟩; replace aa := bb_ aa hb; replace HB := bs_ HB hb; clear hb; have bs := bq3 aa.o) | ((with_reducible refine gc_ 8 rfl ?_); refine cM_ E8 15 (laws_toSequence.calls k ak _ _ ai _ _ aj aL aI aA _ (Kd.C_below aq.o HB.o) ao.o (Kd.C_below ar.o HB.o) ap.o A8.o) ?_; rintro e w20 ⟨bn, bo, rfl, ho0, ho1, hb⟩; refine ⟨_, rfl, ?_⟩; have ae := A_ (Kd.S_lower ho0 (below_size HB.o)); have ac := A_ (Kd.R_lower ho1 (below_size HB.o)); replace aa := bb_ aa hb; replace HB := bs_ HB hb; clear hb ho0 ho1; obtain ⟨bE, bI, bL⟩ := Kd.S_slice ae.o; subst bL; obtain ⟨ba, bg, bM⟩ := Kd.R_slice ac.o; subst bM) | ((with_reducible refine gc_ 17 rfl ?_); refine cM_ E17 17 (spec_PrefixSum.calls k aL _ _ aI _ _ aA a1 aF _ ((Kd.S_reads' ae.o).2.2) ((Kd.S_reads' ae.o).2.1) ((Kd.R_reads' ac.o).2.2) ((Kd.R_reads' ac.o).2.1) A9.o) ?_; rintro e w23 ⟨rfl, hb⟩; refine ⟨_, rfl, ?_⟩; replace ae := A_ (Kd.S_below ae.o hb); replace ac := A_ (Kd.R_below ac.o hb); replace aa := bb_ aa hb; replace HB := bs_ HB hb; clear hb; have bt := bq3 aa.o) | ((with_reducible refine gc_ 8 rfl ?_); refine cM_ E8 19 (laws_toSequence.calls k ak _ _ ai _ _ aj az an al _ (Kd.C_below aq.o HB.o) ao.o (Kd.C_below ar.o HB.o) ap.o A10.o) ?_; rintro e w25 ⟨bp, bq, rfl, ho0, ho1, hb⟩; refine ⟨_, rfl, ?_⟩; have ag := A_ (Kd.S_lower (Kd.S_new' (Kd.S_new' ho0 (Kd.S_lt ae.o)) (Kd.R_lt ac.o)) (below_size HB.o)); replace ae := A_ (Kd.S_mono (Kd.S_told (Kd.S_told (Kd.S_old ae.o hb) (Kd.S_base ho0)) (Kd.R_base ho1)) (fun _ h_ => h_.1)); have af := A_ (Kd.R_lower (Kd.R_new' ho1 (Kd.R_lt ac.o)) (below_size HB.o)); replace ac := A_ (Kd.R_elder' ac.o (Kd.R_base ho1) hb); replace aa := bb_ aa hb; replace HB := bs_ HB hb; clear hb ho0; (try clear ho1)) | ((with_reducible refine gate_dst (N := 7) rfl ?_); refine box_event rfl (N := 7) rfl (cs := #[.int .i64 0, .slice none 0 0, .slice none 0 0]) (t := 32) (by go_simp; done) ?_; intro ax hg w26 hbox hb; replace ae := A_ (Kd.S_below ae.o hb); replace ac := A_ (Kd.R_below ac.o hb); replace ag := A_ (Kd.S_below ag.o hb); replace af := A_ (Kd.R_below af.o hb); have ab := A_ (hbox); have aX := A_ (lg_ (below_size HB.o) hg); have aJ := A_ (lg_ (below_size HB.o) hg); replace HB := bs_ HB hb; have ah := nl_ aa hg; have am := ng_ aa hg; replace aa := bb_ aa hb; clear hb hbox hg; have b0 := am.o; have b3 := ah.o; have bu := bq3 ab.o; obtain ⟨a5, aR, bN⟩ := Kd.S_slice ag.o; subst bN; obtain ⟨aP, aN, bO⟩ := Kd.R_slice af.o; subst bO) | ((with_reducible refine gate_callee (f := 18) rfl ?_); refine goesL_ (some 22) rfl rfl Try.func18 (by kernel_rfl) rfl #[.agg #[.int .i64 az, .slice a5 an.length aR, .slice aP al.length aN], .int .i64 a1] rfl (by simp only [mA, mB, mC]; rfl) ?_; (with_reducible refine (impl_PrefixSum.calls k az _ _ an _ _ al a1 aG _ ?side1 ?side2 ?side3 ?side4 A11.o).mono ?_); (case side1 => refine (Kd.S_reads' (e := 23) (base := w.heap.size) (ok := fun k_ => ((some k_ ≠ (.slice aP al.length aN : Value).ownBlock ∧ some k_ ≠ (.slice bE aI.length bI : Value).ownBlock) ∧ some k_ ≠ (.slice ba aA.length bg : Value).ownBlock)) (n := an.length) (c := aR) ?_).2.2; exact (by exact (Kd.S_mono (gS3_ (tS_ ag ab)) (fun _ h_ => h_.1)))); (case side2 => exact (Kd.S_reads' ag.o).2.1); (case side3 => refine (Kd.R_reads' (e := 3) (base := w.heap.size) (ok := fun k_ => (True ∧ some k_ ≠ (.slice ba aA.length bg : Value).ownBlock)) (n := al.length) (c := aN) ?_).2.2; exact (by exact (Kd.R_mono (gR3_ (tR_ af ab)) (fun _ h_ => h_.1)))); (case side4 => exact (Kd.R_reads' af.o).2.1); rintro e w31 ⟨rfl, hb⟩; refine ⟨_, rfl, ?_⟩; replace ae := A_ (Kd.S_below (by exact (Kd.S_mono (gS3_ (tS_ ae ab)) (fun _ h_ => h_.1))) hb); replace ac := A_ (Kd.R_below (by exact (Kd.R_mono (gR3_ (tR_ ac ab)) (fun _ h_ => h_.1))) hb); replace ag := A_ (Kd.S_below (by exact (Kd.S_mono (gS3_ (tS_ ag ab)) (fun _ h_ => h_.1))) hb); replace af := A_ (Kd.R_below (by exact (Kd.R_mono (gR3_ (tR_ af ab)) (fun _ h_ => h_.1))) hb); replace aa := A_ (blk_below (g := au) (o := .cells #[.int .i64 ak, .slice aB ai.length aD, .slice aC aj.length aE] 25 (0, 0)) (by exact fa_ ah (fa_ ah (fa_ ah aa.o))) hb); replace ab := A_ (blk_below (g := ax) (o := .cells #[.int .i64 az, .slice a5 an.length aR, .slice aP al.length aN] 32 (0, 0)) (by exact pu_ 2 (pu_ 1 (pu_ 0 ab.o rfl) rfl) rfl) hb); replace HB := A_ (below_step (by repeat (first | (with_reducible first | exact HB.o | apply below_alloc | apply pw_below_drewN | apply below_drew1 | refine below_set ?_ aH.o | refine below_set ?_ aJ.o) | exact HB.o)) hb); clear hb; (try clear hi)))
   replace ae := A_ (Kd.S_drew ae.o); replace ac := A_ (Kd.R_drew ac.o); replace ag := A_ (Kd.S_drew ag.o); replace af := A_ (Kd.R_drew af.o); replace aa := A_ (blk_drew aa.o); replace ab := A_ (blk_drew ab.o); replace HB := A_ (below_drew1 HB.o); refine start_ (n := 5) (S := fun w' => w'.cell? ⟨ax, 0, none⟩ = some (.int .i64 az) ∧ w'.cell? ⟨ax, 1, none⟩ = some (.slice a5 an.length aR) ∧ w'.cell? ⟨ax, 2, none⟩ = some (.slice aP al.length aN) ∧ w'.cell? ⟨au, 0, none⟩ = some (.int .i64 ak) ∧ w'.cell? ⟨au, 1, none⟩ = some (.slice aB ai.length aD) ∧ w'.cell? ⟨au, 2, none⟩ = some (.slice aC aj.length aE)) (ds := []) (mk_ 5 0) (by kernel_rfl) rfl rfl ⟨bz0 ab.o, bz1 ab.o, bz2 ab.o, bz0 aa.o, bz1 aa.o, bz2 aa.o⟩ (fun ay => ?_)
   generalize w31.drew = w32 at ae ac ag af aa ab HB ay ⊢
   refine take_ (i := 0) (N := some 26) (v := ?_) (a' := ?_) (mk_ 5 1) rfl rfl (by kernel_rfl) (fun _ _ _ h => h) (Or.inl ⟨by rfl, ?_⟩) ay ?_ ?_; rotate_left
   ·rintro w' ⟨s0, s1, s2, s3, s4, s5⟩; go_simp; with_reducible rfl
   rotate_left
   ·simp only [Act.put, mD, mE, mF, i64_w, i32_w]
    rfl
   refine take_ (i := 1) (N := some 27) (v := ?_) (a' := ?_) (mk_ 5 3) rfl rfl (by kernel_rfl) (fun _ _ _ h => h) (Or.inl ⟨by rfl, ?_⟩) ay ?_ ?_; rotate_left
   ·rintro w' ⟨s0, s1, s2, s3, s4, s5⟩; go_simp; with_reducible rfl
   rotate_left
   ·simp only [Act.put, mD, mE, mF, i64_w, i32_w]
    rfl
   refine one_ (i := 2) (N := some 28) (mk_ 5 7) rfl rfl (by kernel_rfl) (by decide) (fun K hK => ?_); refine cS_ E8 rfl rfl rfl (laws_toSequence.calls k ak _ _ ai _ _ aj aU aV aW _ (Kd.C_below aq.o HB.o) ao.o (Kd.C_below ar.o HB.o) ap.o A13.o) (by simp only [mA, mB, mC]; rfl) ?_; rintro e w33 ⟨bY, bZ, rfl, ho0, ho1, hb⟩; refine ⟨_, rfl, ?_⟩; have av := A_ (Kd.S_lower (Kd.S_new' (Kd.S_new' (Kd.S_new' (Kd.S_new' ho0 (Kd.S_lt ae.o)) (Kd.R_lt ac.o)) (Kd.S_lt ag.o)) (Kd.R_lt af.o)) (below_size HB.o)); replace ae := A_ (Kd.S_mono (Kd.S_told (Kd.S_told (Kd.S_old ae.o hb) (Kd.S_base ho0)) (Kd.R_base ho1)) (fun _ h_ => h_.1)); replace ag := A_ (Kd.S_mono (Kd.S_told (Kd.S_told (Kd.S_old ag.o hb) (Kd.S_base ho0)) (Kd.R_base ho1)) (fun _ h_ => h_.1)); have aw := A_ (Kd.R_lower (Kd.R_new' (Kd.R_new' ho1 (Kd.R_lt ac.o)) (Kd.R_lt af.o)) (below_size HB.o)); replace ac := A_ (Kd.R_elder' ac.o (Kd.R_base ho1) hb); replace af := A_ (Kd.R_elder' af.o (Kd.R_base ho1) hb); replace aa := bb_ aa hb; replace ab := bb_ ab hb; replace HB := bs_ HB hb
   (try clear hb)
   (try clear hb2)
   (try clear hk)
   (try clear hi)
   (try clear ho0)
   (try clear ho1)
   obtain ⟨b6, ca, bj⟩ := Kd.S_slice av.o
   (first | subst bj | (injection bj with f1_ f2_ f3_; have f4_ := f1_.symm; have f5_ := f3_.symm; clear f1_ f2_ f3_; subst f4_; subst f5_))
   obtain ⟨b7, cb, bk⟩ := Kd.R_slice aw.o
   (first | subst bk | (injection bk with f1_ f2_ f3_; have f4_ := f1_.symm; have f5_ := f3_.symm; clear f1_ f2_ f3_; subst f4_; subst f5_))
   refine hK.out _ _ ⟨bz0 ab.o, bz1 ab.o, bz2 ab.o, bz0 aa.o, bz1 aa.o, bz2 aa.o⟩ (fun ay => ?_); clear hK K; refine nm_ 28 ?_; refine one_ (i := 3) (N := some 29) (mk_ 5 15) rfl rfl (by kernel_rfl) (by decide) (fun K hK => ?_); refine cS_ E11 rfl rfl rfl (laws_eqSequence.calls k az _ _ an _ _ al aU _ _ aV _ _ aW true _ ((Kd.S_reads' ag.o).2.2) ((Kd.S_reads' ag.o).2.1) ((Kd.R_reads' af.o).2.2) ((Kd.R_reads' af.o).2.1) ((Kd.S_reads' av.o).2.2) ((Kd.S_reads' av.o).2.1) ((Kd.R_reads' aw.o).2.2) ((Kd.R_reads' aw.o).2.1) A14.o) (by simp only [mA, mB, mC]; rfl) ?_; rintro e w36 ⟨rfl, hb⟩; refine ⟨_, rfl, ?_⟩; replace ae := A_ (Kd.S_below ae.o hb); replace ac := A_ (Kd.R_below ac.o hb); replace ag := A_ (Kd.S_below ag.o hb); replace af := A_ (Kd.R_below af.o hb); replace av := A_ (Kd.S_below av.o hb); replace aw := A_ (Kd.R_below aw.o hb); replace aa := bb_ aa hb; replace ab := bb_ ab hb; replace HB := bs_ HB hb
   (try clear hb)
   (try clear hb2)
   (try clear hk)
   (try clear hi)
   refine hK.out _ _ ⟨bz0 ab.o, bz1 ab.o, bz2 ab.o, bz0 aa.o, bz1 aa.o, bz2 aa.o⟩ (fun ay => ?_); clear hK K; refine nm_ 29 ?_; refine pure_ (i := 4) (N := some 30) (v := ?_) (a' := ?_) (mk_ 5 31) rfl rfl (by kernel_rfl) (fun _ _ _ h => h) (Or.inl ⟨by rfl, ?_⟩) ?_ ?_; rotate_left
   ·intro w'; go_simp; with_reducible rfl
   rotate_left
   ·simp only [Act.put, mD, mE, mF, i64_w, i32_w]
    rfl
   refine done_ (by kernel_rfl) ?_
   try go_wp2
   go_ret
   exact ⟨by rfl, HB.o⟩
  replace c15 := Bool.eq_false_iff.mpr c15; subst c15; rw [if_neg nf_] at H; obtain rfl := Option.some.inj H; go_enter Try.func5, Try.ntmps5
  try go_wp2_with (first | ((with_reducible refine gate_dst (N := 2) rfl ?_); refine box_event rfl (N := 2) rfl (cs := #[.int .i64 ak, .slice aB ai.length aD, .slice aC aj.length aE]) (t := 25) (by go_simp; done) ?_; intro au hg w37 hbox hb; have aa := A_ (hbox); have aM := A_ (lg_ (below_size HB.o) hg); have aH := A_ (lg_ (below_size HB.o) hg); replace HB := bs_ HB hb; clear hb hbox hg; have bv := bq3 aa.o) | ((with_reducible refine gc_ 6 rfl ?_); refine cM_ E6 11 (laws_szSequence.calls k ak _ _ ai _ _ aj 1048576 aK _ (Kd.C_below aq.o HB.o) ao.o (Kd.C_below ar.o HB.o) ap.o A3.o) ?_; rintro e w39 ⟨rfl, hb⟩; refine ⟨_, rfl, ?_⟩; replace aa := bb_ aa hb; replace HB := bs_ HB hb; clear hb; have bw := bq3 aa.o) | ((with_reducible refine gc_ 8 rfl ?_); refine cM_ E8 15 (laws_toSequence.calls k ak _ _ ai _ _ aj aL aI aA _ (Kd.C_below aq.o HB.o) ao.o (Kd.C_below ar.o HB.o) ap.o A8.o) ?_; rintro e w41 ⟨bn, bo, rfl, ho0, ho1, hb⟩; refine ⟨_, rfl, ?_⟩; have ae := A_ (Kd.S_lower ho0 (below_size HB.o)); have ac := A_ (Kd.R_lower ho1 (below_size HB.o)); replace aa := bb_ aa hb; replace HB := bs_ HB hb; clear hb ho0 ho1; obtain ⟨bF, bJ, bP⟩ := Kd.S_slice ae.o; subst bP; obtain ⟨bb, bh, bQ⟩ := Kd.R_slice ac.o; subst bQ) | ((with_reducible refine gc_ 17 rfl ?_); refine cM_ E17 17 (spec_PrefixSum.calls k aL _ _ aI _ _ aA a1 aF _ ((Kd.S_reads' ae.o).2.2) ((Kd.S_reads' ae.o).2.1) ((Kd.R_reads' ac.o).2.2) ((Kd.R_reads' ac.o).2.1) A9.o) ?_; rintro e w44 ⟨rfl, hb⟩; refine ⟨_, rfl, ?_⟩; replace ae := A_ (Kd.S_below ae.o hb); replace ac := A_ (Kd.R_below ac.o hb); replace aa := bb_ aa hb; replace HB := bs_ HB hb; clear hb; have bx := bq3 aa.o) | ((with_reducible refine gc_ 8 rfl ?_); refine cM_ E8 19 (laws_toSequence.calls k ak _ _ ai _ _ aj az an al _ (Kd.C_below aq.o HB.o) ao.o (Kd.C_below ar.o HB.o) ap.o A10.o) ?_; rintro e w46 ⟨bp, bq, rfl, ho0, ho1, hb⟩; refine ⟨_, rfl, ?_⟩; have ag := A_ (Kd.S_lower (Kd.S_new' (Kd.S_new' ho0 (Kd.S_lt ae.o)) (Kd.R_lt ac.o)) (below_size HB.o)); replace ae := A_ (Kd.S_mono (Kd.S_told (Kd.S_told (Kd.S_old ae.o hb) (Kd.S_base ho0)) (Kd.R_base ho1)) (fun _ h_ => h_.1)); have af := A_ (Kd.R_lower (Kd.R_new' ho1 (Kd.R_lt ac.o)) (below_size HB.o)); replace ac := A_ (Kd.R_elder' ac.o (Kd.R_base ho1) hb); replace aa := bb_ aa hb; replace HB := bs_ HB hb; clear hb ho0; (try clear ho1)) | ((with_reducible refine gate_dst (N := 7) rfl ?_); refine box_event rfl (N := 7) rfl (cs := #[.int .i64 0, .slice none 0 0, .slice none 0 0]) (t := 32) (by go_simp; done) ?_; intro ax hg w47 hbox hb; replace ae := A_ (Kd.S_below ae.o hb); replace ac := A_ (Kd.R_below ac.o hb); replace ag := A_ (Kd.S_below ag.o hb); replace af := A_ (Kd.R_below af.o hb); have ab := A_ (hbox); have aX := A_ (lg_ (below_size HB.o) hg); have aJ := A_ (lg_ (below_size HB.o) hg); replace HB := bs_ HB hb; have ah := nl_ aa hg; have am := ng_ aa hg; replace aa := bb_ aa hb; clear hb hbox hg; have b1 := am.o; have b4 := ah.o; have bz := bq3 ab.o; obtain ⟨a6, aS, bR⟩ := Kd.S_slice ag.o; subst bR; obtain ⟨aQ, aO, bS⟩ := Kd.R_slice af.o; subst bS) | ((with_reducible refine gate_callee (f := 18) rfl ?_); refine goesL_ (some 22) rfl rfl Try.func18 (by kernel_rfl) rfl #[.agg #[.int .i64 az, .slice a6 an.length aS, .slice aQ al.length aO], .int .i64 a1] rfl (by simp only [mA, mB, mC]; rfl) ?_; (with_reducible refine (impl_PrefixSum.calls k az _ _ an _ _ al a1 aG _ ?side1 ?side2 ?side3 ?side4 A11.o).mono ?_); (case side1 => refine (Kd.S_reads' (e := 23) (base := w.heap.size) (ok := fun k_ => ((some k_ ≠ (.slice aQ al.length aO : Value).ownBlock ∧ some k_ ≠ (.slice bF aI.length bJ : Value).ownBlock) ∧ some k_ ≠ (.slice bb aA.length bh : Value).ownBlock)) (n := an.length) (c := aS) ?_).2.2; exact (by exact (Kd.S_mono (gS3_ (tS_ ag ab)) (fun _ h_ => h_.1)))); (case side2 => exact (Kd.S_reads' ag.o).2.1); (case side3 => refine (Kd.R_reads' (e := 3) (base := w.heap.size) (ok := fun k_ => (True ∧ some k_ ≠ (.slice bb aA.length bh : Value).ownBlock)) (n := al.length) (c := aO) ?_).2.2; exact (by exact (Kd.R_mono (gR3_ (tR_ af ab)) (fun _ h_ => h_.1)))); (case side4 => exact (Kd.R_reads' af.o).2.1); rintro e w52 ⟨rfl, hb⟩; refine ⟨_, rfl, ?_⟩; replace ae := A_ (Kd.S_below (by exact (Kd.S_mono (gS3_ (tS_ ae ab)) (fun _ h_ => h_.1))) hb); replace ac := A_ (Kd.R_below (by exact (Kd.R_mono (gR3_ (tR_ ac ab)) (fun _ h_ => h_.1))) hb); replace ag := A_ (Kd.S_below (by exact (Kd.S_mono (gS3_ (tS_ ag ab)) (fun _ h_ => h_.1))) hb); replace af := A_ (Kd.R_below (by exact (Kd.R_mono (gR3_ (tR_ af ab)) (fun _ h_ => h_.1))) hb); replace aa := A_ (blk_below (g := au) (o := .cells #[.int .i64 ak, .slice aB ai.length aD, .slice aC aj.length aE] 25 (0, 0)) (by exact fa_ ah (fa_ ah (fa_ ah aa.o))) hb); replace ab := A_ (blk_below (g := ax) (o := .cells #[.int .i64 az, .slice a6 an.length aS, .slice aQ al.length aO] 32 (0, 0)) (by exact pu_ 2 (pu_ 1 (pu_ 0 ab.o rfl) rfl) rfl) hb); replace HB := A_ (below_step (by repeat (first | (with_reducible first | exact HB.o | apply below_alloc | apply pw_below_drewN | apply below_drew1 | refine below_set ?_ aH.o | refine below_set ?_ aJ.o) | exact HB.o)) hb); clear hb; (try clear hi)))
  replace ae := A_ (Kd.S_drew ae.o); replace ac := A_ (Kd.R_drew ac.o); replace ag := A_ (Kd.S_drew ag.o); replace af := A_ (Kd.R_drew af.o); replace aa := A_ (blk_drew aa.o); replace ab := A_ (blk_drew ab.o); replace HB := A_ (below_drew1 HB.o); refine start_ (n := 5) (S := fun w' => w'.cell? ⟨ax, 0, none⟩ = some (.int .i64 az) ∧ w'.cell? ⟨ax, 1, none⟩ = some (.slice a6 an.length aS) ∧ w'.cell? ⟨ax, 2, none⟩ = some (.slice aQ al.length aO) ∧ w'.cell? ⟨au, 0, none⟩ = some (.int .i64 ak) ∧ w'.cell? ⟨au, 1, none⟩ = some (.slice aB ai.length aD) ∧ w'.cell? ⟨au, 2, none⟩ = some (.slice aC aj.length aE)) (ds := []) (mk_ 5 0) (by kernel_rfl) rfl rfl ⟨bz0 ab.o, bz1 ab.o, bz2 ab.o, bz0 aa.o, bz1 aa.o, bz2 aa.o⟩ (fun ay => ?_)
  generalize w52.drew = w53 at ae ac ag af aa ab HB ay ⊢
  refine take_ (i := 0) (N := some 26) (v := ?_) (a' := ?_) (mk_ 5 1) rfl rfl (by kernel_rfl) (fun _ _ _ h => h) (Or.inl ⟨by rfl, ?_⟩) ay ?_ ?_; rotate_left
  ·rintro w' ⟨s0, s1, s2, s3, s4, s5⟩; go_simp; with_reducible rfl
  rotate_left
  ·simp only [Act.put, mD, mE, mF, i64_w, i32_w]
   rfl
  refine take_ (i := 1) (N := some 27) (v := ?_) (a' := ?_) (mk_ 5 3) rfl rfl (by kernel_rfl) (fun _ _ _ h => h) (Or.inl ⟨by rfl, ?_⟩) ay ?_ ?_; rotate_left
  ·rintro w' ⟨s0, s1, s2, s3, s4, s5⟩; go_simp; with_reducible rfl
  rotate_left
  ·simp only [Act.put, mD, mE, mF, i64_w, i32_w]
   rfl
  refine one_ (i := 2) (N := some 28) (mk_ 5 7) rfl rfl (by kernel_rfl) (by decide) (fun K hK => ?_); refine cS_ E8 rfl rfl rfl (laws_toSequence.calls k ak _ _ ai _ _ aj aU aV aW _ (Kd.C_below aq.o HB.o) ao.o (Kd.C_below ar.o HB.o) ap.o A13.o) (by simp only [mA, mB, mC]; rfl) ?_; rintro e w54 ⟨bY, bZ, rfl, ho0, ho1, hb⟩; refine ⟨_, rfl, ?_⟩; have av := A_ (Kd.S_lower (Kd.S_new' (Kd.S_new' (Kd.S_new' (Kd.S_new' ho0 (Kd.S_lt ae.o)) (Kd.R_lt ac.o)) (Kd.S_lt ag.o)) (Kd.R_lt af.o)) (below_size HB.o)); replace ae := A_ (Kd.S_mono (Kd.S_told (Kd.S_told (Kd.S_old ae.o hb) (Kd.S_base ho0)) (Kd.R_base ho1)) (fun _ h_ => h_.1)); replace ag := A_ (Kd.S_mono (Kd.S_told (Kd.S_told (Kd.S_old ag.o hb) (Kd.S_base ho0)) (Kd.R_base ho1)) (fun _ h_ => h_.1)); have aw := A_ (Kd.R_lower (Kd.R_new' (Kd.R_new' ho1 (Kd.R_lt ac.o)) (Kd.R_lt af.o)) (below_size HB.o)); replace ac := A_ (Kd.R_elder' ac.o (Kd.R_base ho1) hb); replace af := A_ (Kd.R_elder' af.o (Kd.R_base ho1) hb); replace aa := bb_ aa hb; replace ab := bb_ ab hb; replace HB := bs_ HB hb
  (try clear hb)
  (try clear hb2)
  (try clear hk)
  (try clear hi)
  (try clear ho0)
  (try clear ho1)
  obtain ⟨b8, cc, bl⟩ := Kd.S_slice av.o
  (first | subst bl | (injection bl with f1_ f2_ f3_; have f4_ := f1_.symm; have f5_ := f3_.symm; clear f1_ f2_ f3_; subst f4_; subst f5_))
  obtain ⟨b9, cd, bm⟩ := Kd.R_slice aw.o
  (first | subst bm | (injection bm with f1_ f2_ f3_; have f4_ := f1_.symm; have f5_ := f3_.symm; clear f1_ f2_ f3_; subst f4_; subst f5_))
  refine hK.out _ _ ⟨bz0 ab.o, bz1 ab.o, bz2 ab.o, bz0 aa.o, bz1 aa.o, bz2 aa.o⟩ (fun ay => ?_); clear hK K; refine nm_ 28 ?_; refine one_ (i := 3) (N := some 29) (mk_ 5 15) rfl rfl (by kernel_rfl) (by decide) (fun K hK => ?_); refine cS_ E11 rfl rfl rfl (laws_eqSequence.calls k az _ _ an _ _ al aU _ _ aV _ _ aW false _ ((Kd.S_reads' ag.o).2.2) ((Kd.S_reads' ag.o).2.1) ((Kd.R_reads' af.o).2.2) ((Kd.R_reads' af.o).2.1) ((Kd.S_reads' av.o).2.2) ((Kd.S_reads' av.o).2.1) ((Kd.R_reads' aw.o).2.2) ((Kd.R_reads' aw.o).2.1) A14.o) (by simp only [mA, mB, mC]; rfl) ?_; rintro e w57 ⟨rfl, hb⟩; refine ⟨_, rfl, ?_⟩; replace ae := A_ (Kd.S_below ae.o hb); replace ac := A_ (Kd.R_below ac.o hb); replace ag := A_ (Kd.S_below ag.o hb); replace af := A_ (Kd.R_below af.o hb); replace av := A_ (Kd.S_below av.o hb); replace aw := A_ (Kd.R_below aw.o hb); replace aa := bb_ aa hb; replace ab := bb_ ab hb; replace HB := bs_ HB hb
  (try clear hb)
  (try clear hb2)
  (try clear hk)
  (try clear hi)
  refine hK.out _ _ ⟨bz0 ab.o, bz1 ab.o, bz2 ab.o, bz0 aa.o, bz1 aa.o, bz2 aa.o⟩ (fun ay => ?_); clear hK K; refine nm_ 29 ?_; refine pure_ (i := 4) (N := some 30) (v := ?_) (a' := ?_) (mk_ 5 31) rfl rfl (by kernel_rfl) (fun _ _ _ h => h) (Or.inl ⟨by rfl, ?_⟩) ?_ ?_; rotate_left
  ·intro w'; go_simp; with_reducible rfl
  rotate_left
  ·simp only [Act.put, mD, mE, mF, i64_w, i32_w]
   rfl
  refine done_ (by kernel_rfl) ?_
  try go_wp2
  go_ret
  exact ⟨by rfl, HB.o⟩
 rw [if_neg c12] at H
 have be : (aG == aF) = false := beq_eq_false_iff_ne.mpr c12
 have bf : (aG != aF) = true := bne_iff_ne.mpr c12
 obtain rfl := Option.some.inj H; go_enter Try.func5, Try.ntmps5
 go_wp2_with (first | ((with_reducible refine gate_dst (N := 2) rfl ?_); refine box_event rfl (N := 2) rfl (cs := #[.int .i64 ak, .slice aB ai.length aD, .slice aC aj.length aE]) (t := 25) (by go_simp; done) ?_; intro au hg w58 hbox hb; have aa := A_ (hbox); have aM := A_ (lg_ (below_size HB.o) hg); have aH := A_ (lg_ (below_size HB.o) hg); replace HB := bs_ HB hb; clear hb hbox hg; have bA := bq3 aa.o) | ((with_reducible refine gc_ 6 rfl ?_); refine cM_ E6 11 (laws_szSequence.calls k ak _ _ ai _ _ aj 1048576 aK _ (Kd.C_below aq.o HB.o) ao.o (Kd.C_below ar.o HB.o) ap.o A3.o) ?_; rintro e w60 ⟨rfl, hb⟩; refine ⟨_, rfl, ?_⟩; replace aa := bb_ aa hb; replace HB := bs_ HB hb; clear hb; have bB := bq3 aa.o) | ((with_reducible refine gc_ 8 rfl ?_); refine cM_ E8 15 (laws_toSequence.calls k ak _ _ ai _ _ aj aL aI aA _ (Kd.C_below aq.o HB.o) ao.o (Kd.C_below ar.o HB.o) ap.o A8.o) ?_; rintro e w62 ⟨bn, bo, rfl, ho0, ho1, hb⟩; refine ⟨_, rfl, ?_⟩; have ae := A_ (Kd.S_lower ho0 (below_size HB.o)); have ac := A_ (Kd.R_lower ho1 (below_size HB.o)); replace aa := bb_ aa hb; replace HB := bs_ HB hb; clear hb ho0 ho1; obtain ⟨bG, bK, bT⟩ := Kd.S_slice ae.o; subst bT; obtain ⟨bc, bi, bU⟩ := Kd.R_slice ac.o; subst bU) | ((with_reducible refine gc_ 17 rfl ?_); refine cM_ E17 17 (spec_PrefixSum.calls k aL _ _ aI _ _ aA a1 aF _ ((Kd.S_reads' ae.o).2.2) ((Kd.S_reads' ae.o).2.1) ((Kd.R_reads' ac.o).2.2) ((Kd.R_reads' ac.o).2.1) A9.o) ?_; rintro e w65 ⟨rfl, hb⟩; refine ⟨_, rfl, ?_⟩; replace ae := A_ (Kd.S_below ae.o hb); replace ac := A_ (Kd.R_below ac.o hb); replace aa := bb_ aa hb; replace HB := bs_ HB hb; clear hb; have bC := bq3 aa.o) | ((with_reducible refine gc_ 8 rfl ?_); refine cM_ E8 19 (laws_toSequence.calls k ak _ _ ai _ _ aj az an al _ (Kd.C_below aq.o HB.o) ao.o (Kd.C_below ar.o HB.o) ap.o A10.o) ?_; rintro e w67 ⟨bp, bq, rfl, ho0, ho1, hb⟩; refine ⟨_, rfl, ?_⟩; have ag := A_ (Kd.S_lower (Kd.S_new' (Kd.S_new' ho0 (Kd.S_lt ae.o)) (Kd.R_lt ac.o)) (below_size HB.o)); replace ae := A_ (Kd.S_mono (Kd.S_told (Kd.S_told (Kd.S_old ae.o hb) (Kd.S_base ho0)) (Kd.R_base ho1)) (fun _ h_ => h_.1)); have af := A_ (Kd.R_lower (Kd.R_new' ho1 (Kd.R_lt ac.o)) (below_size HB.o)); replace ac := A_ (Kd.R_elder' ac.o (Kd.R_base ho1) hb); replace aa := bb_ aa hb; replace HB := bs_ HB hb; clear hb ho0; (try clear ho1)) | ((with_reducible refine gate_dst (N := 7) rfl ?_); refine box_event rfl (N := 7) rfl (cs := #[.int .i64 0, .slice none 0 0, .slice none 0 0]) (t := 32) (by go_simp; done) ?_; intro ax hg w68 hbox hb; replace ae := A_ (Kd.S_below ae.o hb); replace ac := A_ (Kd.R_below ac.o hb); replace ag := A_ (Kd.S_below ag.o hb); replace af := A_ (Kd.R_below af.o hb); have ab := A_ (hbox); have aX := A_ (lg_ (below_size HB.o) hg); have aJ := A_ (lg_ (below_size HB.o) hg); replace HB := bs_ HB hb; have ah := nl_ aa hg; have am := ng_ aa hg; replace aa := bb_ aa hb; clear hb hbox hg; have b2 := am.o; have b5 := ah.o; have bD := bq3 ab.o; obtain ⟨bd, a8, bV⟩ := Kd.S_slice ag.o; subst bV; obtain ⟨a7, aT, bW⟩ := Kd.R_slice af.o; subst bW) | ((with_reducible refine gate_callee (f := 18) rfl ?_); refine goesL_ (some 22) rfl rfl Try.func18 (by kernel_rfl) rfl #[.agg #[.int .i64 az, .slice bd an.length a8, .slice a7 al.length aT], .int .i64 a1] rfl (by simp only [mA, mB, mC]; rfl) ?_; (with_reducible refine (impl_PrefixSum.calls k az _ _ an _ _ al a1 aG _ ?side1 ?side2 ?side3 ?side4 A11.o).mono ?_); (case side1 => refine (Kd.S_reads' (e := 23) (base := w.heap.size) (ok := fun k_ => ((some k_ ≠ (.slice a7 al.length aT : Value).ownBlock ∧ some k_ ≠ (.slice bG aI.length bK : Value).ownBlock) ∧ some k_ ≠ (.slice bc aA.length bi : Value).ownBlock)) (n := an.length) (c := a8) ?_).2.2; exact (by exact (Kd.S_mono (gS3_ (tS_ ag ab)) (fun _ h_ => h_.1)))); (case side2 => exact (Kd.S_reads' ag.o).2.1); (case side3 => refine (Kd.R_reads' (e := 3) (base := w.heap.size) (ok := fun k_ => (True ∧ some k_ ≠ (.slice bc aA.length bi : Value).ownBlock)) (n := al.length) (c := aT) ?_).2.2; exact (by exact (Kd.R_mono (gR3_ (tR_ af ab)) (fun _ h_ => h_.1)))); (case side4 => exact (Kd.R_reads' af.o).2.1); rintro e w73 ⟨rfl, hb⟩; refine ⟨_, rfl, ?_⟩; replace ae := A_ (Kd.S_below (by exact (Kd.S_mono (gS3_ (tS_ ae ab)) (fun _ h_ => h_.1))) hb); replace ac := A_ (Kd.R_below (by exact (Kd.R_mono (gR3_ (tR_ ac ab)) (fun _ h_ => h_.1))) hb); replace ag := A_ (Kd.S_below (by exact (Kd.S_mono (gS3_ (tS_ ag ab)) (fun _ h_ => h_.1))) hb); replace af := A_ (Kd.R_below (by exact (Kd.R_mono (gR3_ (tR_ af ab)) (fun _ h_ => h_.1))) hb); replace aa := A_ (blk_below (g := au) (o := .cells #[.int .i64 ak, .slice aB ai.length aD, .slice aC aj.length aE] 25 (0, 0)) (by exact fa_ ah (fa_ ah (fa_ ah aa.o))) hb); replace ab := A_ (blk_below (g := ax) (o := .cells #[.int .i64 az, .slice bd an.length a8, .slice a7 al.length aT] 32 (0, 0)) (by exact pu_ 2 (pu_ 1 (pu_ 0 ab.o rfl) rfl) rfl) hb); replace HB := A_ (below_step (by repeat (first | (with_reducible first | exact HB.o | apply below_alloc | apply pw_below_drewN | apply below_drew1 | refine below_set ?_ aH.o | refine below_set ?_ aJ.o) | exact HB.o)) hb); clear hb; (try clear hi)))
 go_ret
 exact ⟨by rfl, HB.o⟩

end Go.Proofs.Ytgmfjcckmapkbaa.PFnExactPrefixSum

