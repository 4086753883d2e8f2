/- Walks of the functions that the law reaches. -/
import Derived.Test.YtgmfjcckmapkbaaPFnExactPrefixSumx8
import Derived.Test.YtgmfjcckmapkbaaPFnExactPrefixSumx12
namespace Go.Proofs.Ytgmfjcckmapkbaa.PFnExactPrefixSum
open Go.RowKit Go.Proofs.YtgmfjcckmapkbaaW.PrintWords Go.Proofs.YtgmfjcckmapkbaaW.PrintLast Go.Proofs.YtgmfjcckmapkbaaW.PrintMore
attribute [local go_sem] max2_int min2_int max_two min_two max_three min_three max_four min_four
set_option linter.unusedVariables false
set_option maxHeartbeats 8000000
set_option maxRecDepth 100000
set_option linter.unusedSimpArgs false

def spec_CountByForm.f (k : Nat) (af : Int) (aa : List (List Int)) (ae : List Int) (a1 : Int) (a2 : Int) : Option (Int) := (spec_CountingForm.f k af aa ae a1).bind fun bt411 => (if bt411.2.2.2.2 = true then (if a2 < 0 then (some (-1)) else ((spec_PowerOf.f k af 16).bind fun a6 => (if a2 ≥ a6 then (some (-1)) else ((spec_EvaluateLinear.f k bt411.1 bt411.2.1 bt411.2.2.1 bt411.2.2.2.1 a2).bind fun bH => (some bH))))) else (some (-1)))
theorem spec_CountByForm.calls (k : Nat) (af : Int) (ay : Option Addr) (aw : Nat) (aa : List (List Int)) (av : Option Addr) (ax : Nat) (ae : List Int) (a1 : Int) (a2 : Int) (r : Int) (w : World) (aX : Kd.C (Kd.slice 3 (Kd.int .i64)) w ay aa.length aa) (aV : aa.length ≤ aw) (aY : Kd.C (Kd.int .i64) w av ae.length ae) (aW : ae.length ≤ ax) (h : spec_CountByForm.f k af aa ae a1 a2 = some r) :
  Calls Try.prog 15 #[.agg #[.int .i64 af, .slice ay aa.length aw, .slice av ae.length ax], .int .i64 a1, .int .i64 a2] w fun e w' => e = .returned (.int .i64 r) ∧ Below w.heap.size w w' := by
 have hu32 := Try.underlying32; have hu29 := Try.underlying29; have aJ := A_ aX; have aT := A_ aV; clear aX aV; have az := A_ aY; have aU := A_ aW; clear aY aW; have HB := A_ (Below.refl w.heap.size w); unfold spec_CountByForm.f at h; have H := h; clear h; replace H := bA_ H; obtain ⟨⟨a5, aH, aZ, aI, cB⟩, A4, H⟩ := H; dsimp only at H
 by_cases c5 : cB = true
 ·subst c5; rw [if_pos rfl] at H
  by_cases c6 : a2 < 0
  ·rw [if_pos c6] at H; have cd := decide_eq_true c6; clear c6; obtain rfl := Option.some.inj H; go_enter Try.func15, Try.ntmps15
   go_wp2_with (first | ((with_reducible refine gate_dst (N := 3) rfl ?_); refine box_event rfl (N := 3) rfl (cs := #[.int .i64 af, .slice ay aa.length aw, .slice av ae.length ax]) (t := 32) (by go_simp; done) ?_; intro a8 hg w7 hbox hb; have ac := A_ (hbox); have bf := A_ (lg_ (below_size HB.o) hg); have aC := A_ (lg_ (below_size HB.o) hg); replace HB := bs_ HB hb; clear hb hbox hg; have bE := bq3 ac.o) | ((with_reducible refine gc_ 7 rfl ?_); refine cM_ E7 12 (spec_CountingForm.calls k af _ _ aa _ _ ae a1 a5 aH aZ aI true _ (Kd.C_below aJ.o HB.o) aT.o (Kd.C_below az.o HB.o) aU.o A4.o) ?_; rintro e w9 ⟨bJ, bK, bL, rfl, ho0, ho1, ho2, hb⟩; refine ⟨_, rfl, ?_⟩; have al := A_ (Kd.R_lower ho0 (below_size HB.o)); have am := A_ (Kd.R_lower ho1 (below_size HB.o)); have an := A_ (Kd.R_lower ho2 (below_size HB.o)); replace ac := bb_ ac hb; replace HB := bs_ HB hb; clear hb ho0 ho1; (try clear ho2)) | ((with_reducible refine gate_dst (N := 7) rfl ?_); refine box_event rfl (N := 7) rfl (cs := #[.int .i64 0, .slice none 0 0, .slice none 0 0, .slice none 0 0]) (t := 29) (by go_simp; done) ?_; intro a9 hg w10 hbox hb; replace al := A_ (Kd.R_below al.o hb); replace am := A_ (Kd.R_below am.o hb); replace an := A_ (Kd.R_below an.o hb); have ar := A_ (hbox); have bg := A_ (lg_ (below_size HB.o) hg); have aD := A_ (lg_ (below_size HB.o) hg); replace HB := bs_ HB hb; have ag := nl_ ac hg; have aq := ng_ ac hg; replace ac := bb_ ac hb; clear hb hbox hg; have cG := aq.o; have cK := ag.o; have bo := bq4 ar.o; obtain ⟨cQ, db, ck⟩ := Kd.R_slice al.o; subst ck; obtain ⟨cS, dc, cm⟩ := Kd.R_slice am.o; subst cm; obtain ⟨cU, dd, cn⟩ := Kd.R_slice an.o; subst cn))
   go_ret
   exact ⟨by rfl, by repeat (first | (with_reducible first | exact HB.o | apply below_alloc | apply pw_below_drewN | apply below_drew1 | refine below_set ?_ aC.o | refine below_set ?_ aD.o) | exact HB.o)⟩
  rw [if_neg c6] at H; have cd := decide_eq_false c6; clear c6; replace H := bA_ H; obtain ⟨a6, A16, H⟩ := H
  by_cases c17 : a2 ≥ a6
  ·rw [if_pos c17] at H
   have bh : decide (a6 ≤ a2) = true := decide_eq_true c17
   clear c17; obtain rfl := Option.some.inj H; go_enter Try.func15, Try.ntmps15
   go_wp2_with (first | ((with_reducible refine gate_dst (N := 3) rfl ?_); refine box_event rfl (N := 3) rfl (cs := #[.int .i64 af, .slice ay aa.length aw, .slice av ae.length ax]) (t := 32) (by go_simp; done) ?_; intro a8 hg w18 hbox hb; have ac := A_ (hbox); have bf := A_ (lg_ (below_size HB.o) hg); have aC := A_ (lg_ (below_size HB.o) hg); replace HB := bs_ HB hb; clear hb hbox hg; have b0 := bq3 ac.o) | ((with_reducible refine gc_ 7 rfl ?_); refine cM_ E7 12 (spec_CountingForm.calls k af _ _ aa _ _ ae a1 a5 aH aZ aI true _ (Kd.C_below aJ.o HB.o) aT.o (Kd.C_below az.o HB.o) aU.o A4.o) ?_; rintro e w20 ⟨bJ, bK, bL, rfl, ho0, ho1, ho2, hb⟩; refine ⟨_, rfl, ?_⟩; have al := A_ (Kd.R_lower ho0 (below_size HB.o)); have am := A_ (Kd.R_lower ho1 (below_size HB.o)); have an := A_ (Kd.R_lower ho2 (below_size HB.o)); replace ac := bb_ ac hb; replace HB := bs_ HB hb; clear hb ho0 ho1; (try clear ho2)) | ((with_reducible refine gate_dst (N := 7) rfl ?_); refine box_event rfl (N := 7) rfl (cs := #[.int .i64 0, .slice none 0 0, .slice none 0 0, .slice none 0 0]) (t := 29) (by go_simp; done) ?_; intro a9 hg w21 hbox hb; replace al := A_ (Kd.R_below al.o hb); replace am := A_ (Kd.R_below am.o hb); replace an := A_ (Kd.R_below an.o hb); have ar := A_ (hbox); have bg := A_ (lg_ (below_size HB.o) hg); have aD := A_ (lg_ (below_size HB.o) hg); replace HB := bs_ HB hb; have ag := nl_ ac hg; have aq := ng_ ac hg; replace ac := bb_ ac hb; clear hb hbox hg; have cH := aq.o; have cL := ag.o; have bq := bq4 ar.o; obtain ⟨cV, de, co⟩ := Kd.R_slice al.o; subst co; obtain ⟨cW, df, cp⟩ := Kd.R_slice am.o; subst cp; obtain ⟨cX, dg, cq⟩ := Kd.R_slice an.o; subst cq; have b3 := bq3 ac.o) | (go_at_call 37; (with_reducible refine (spec_PowerOf.calls k af 16 a6 _ A16.o).mono ?_); rintro e w' ⟨rfl, ⟨nd, rfl⟩⟩))
   go_ret
   exact ⟨by rfl, by repeat (first | (with_reducible first | exact HB.o | apply below_alloc | apply pw_below_drewN | apply below_drew1 | refine below_set ?_ aC.o | refine below_set ?_ aD.o) | exact HB.o)⟩
  rw [if_neg c17] at H
  have bh : decide (a6 ≤ a2) = false := decide_eq_false c17
  clear c17; replace H := bA_ H; obtain ⟨bH, A28, H⟩ := H; obtain rfl := Option.some.inj H; go_enter Try.func15, Try.ntmps15
  go_wp2_with (first | ((with_reducible refine gate_dst (N := 3) rfl ?_); refine box_event rfl (N := 3) rfl (cs := #[.int .i64 af, .slice ay aa.length aw, .slice av ae.length ax]) (t := 32) (by go_simp; done) ?_; intro a8 hg w29 hbox hb; have ac := A_ (hbox); have bf := A_ (lg_ (below_size HB.o) hg); have aC := A_ (lg_ (below_size HB.o) hg); replace HB := bs_ HB hb; clear hb hbox hg; have b4 := bq3 ac.o) | ((with_reducible refine gc_ 7 rfl ?_); refine cM_ E7 12 (spec_CountingForm.calls k af _ _ aa _ _ ae a1 a5 aH aZ aI true _ (Kd.C_below aJ.o HB.o) aT.o (Kd.C_below az.o HB.o) aU.o A4.o) ?_; rintro e w31 ⟨bJ, bK, bL, rfl, ho0, ho1, ho2, hb⟩; refine ⟨_, rfl, ?_⟩; have al := A_ (Kd.R_lower ho0 (below_size HB.o)); have am := A_ (Kd.R_lower ho1 (below_size HB.o)); have an := A_ (Kd.R_lower ho2 (below_size HB.o)); replace ac := bb_ ac hb; replace HB := bs_ HB hb; clear hb ho0 ho1; (try clear ho2)) | ((with_reducible refine gate_dst (N := 7) rfl ?_); refine box_event rfl (N := 7) rfl (cs := #[.int .i64 0, .slice none 0 0, .slice none 0 0, .slice none 0 0]) (t := 29) (by go_simp; done) ?_; intro a9 hg w32 hbox hb; replace al := A_ (Kd.R_below al.o hb); replace am := A_ (Kd.R_below am.o hb); replace an := A_ (Kd.R_below an.o hb); have ar := A_ (hbox); have bg := A_ (lg_ (below_size HB.o) hg); have aD := A_ (lg_ (below_size HB.o) hg); replace HB := bs_ HB hb; have ag := nl_ ac hg; have aq := ng_ ac hg; replace ac := bb_ ac hb; clear hb hbox hg; have cI := aq.o; have cN := ag.o; have b5 := bq4 ar.o; obtain ⟨bl, bi, cr⟩ := Kd.R_slice al.o; subst cr; obtain ⟨bN, bB, cv⟩ := Kd.R_slice am.o; subst cv; obtain ⟨bm, bj, cw⟩ := Kd.R_slice an.o; subst cw; have b6 := bq3 ac.o) | (go_at_call 37; (with_reducible refine (spec_PowerOf.calls k af 16 a6 _ A16.o).mono ?_); rintro e w' ⟨rfl, ⟨nd, rfl⟩⟩) | ((with_reducible refine gate_callee (f := 38) rfl ?_); refine goesL_ (some 30) rfl rfl Try.func38 (by kernel_rfl) rfl #[.agg #[.int .i64 a5, .slice bl aH.length bi, .slice bN aZ.length bB, .slice bm aI.length bj], .int .i64 a2] rfl (by simp only [mA, mB, mC]; rfl) ?_; (with_reducible refine (spec_EvaluateLinear.calls k a5 _ _ aH _ _ aZ _ _ aI a2 bH _ ?side1 ?side2 ?side3 ?side4 ?side5 ?side6 A28.o).mono ?_); (case side1 => refine (Kd.R_reads' (e := 3) (base := w.heap.size) (ok := fun k_ => some k_ ≠ (.slice bm aI.length bj : Value).ownBlock) (n := aH.length) (c := bi) ?_).2.2; exact (by (with_reducible repeat (first | apply Kd.R_alloc | apply Kd.R_drewN | apply Kd.R_drew)); exact (Kd.R_mono (gR4_ (tR_ al ar)) (fun _ h_ => h_.1)))); (case side2 => exact (Kd.R_reads' al.o).2.1); (case side3 => refine (Kd.R_reads' (e := 22) (base := w.heap.size) (ok := fun k_ => (some k_ ≠ (.slice bl aH.length bi : Value).ownBlock ∧ some k_ ≠ (.slice bm aI.length bj : Value).ownBlock)) (n := aZ.length) (c := bB) ?_).2.2; exact (by (with_reducible repeat (first | apply Kd.R_alloc | apply Kd.R_drewN | apply Kd.R_drew)); exact (Kd.R_mono (gR4_ (tR_ am ar)) (fun _ h_ => h_.1)))); (case side4 => exact (Kd.R_reads' am.o).2.1); (case side5 => refine (Kd.R_reads' (e := 3) (base := w.heap.size) (ok := fun k_ => some k_ ≠ (.slice bl aH.length bi : Value).ownBlock) (n := aI.length) (c := bj) ?_).2.2; exact (by (with_reducible repeat (first | apply Kd.R_alloc | apply Kd.R_drewN | apply Kd.R_drew)); exact (Kd.R_mono (gR4_ (tR_ an ar)) (fun _ h_ => h_.1)))); (case side6 => exact (Kd.R_reads' an.o).2.1); rintro e w39 ⟨rfl, hb⟩; refine ⟨_, rfl, ?_⟩; replace al := A_ (Kd.R_below (by (with_reducible repeat (first | apply Kd.R_alloc | apply Kd.R_drewN | apply Kd.R_drew)); exact (Kd.R_mono (gR4_ (tR_ al ar)) (fun _ h_ => h_.1))) hb); replace am := A_ (Kd.R_below (by (with_reducible repeat (first | apply Kd.R_alloc | apply Kd.R_drewN | apply Kd.R_drew)); exact (Kd.R_mono (gR4_ (tR_ am ar)) (fun _ h_ => h_.1))) hb); replace an := A_ (Kd.R_below (by (with_reducible repeat (first | apply Kd.R_alloc | apply Kd.R_drewN | apply Kd.R_drew)); exact (Kd.R_mono (gR4_ (tR_ an ar)) (fun _ h_ => h_.1))) hb); replace ac := A_ (blk_below (g := a8) (o := .cells #[.int .i64 af, .slice ay aa.length aw, .slice av ae.length ax] 32 (0, 0)) (by (with_reducible repeat (first | refine blk_drewN ?_ _ | refine blk_drew ?_ | refine blk_alloc ?_ _)); exact fa_ ag (fa_ ag (fa_ ag (fa_ ag ac.o)))) hb); replace ar := A_ (blk_below (g := a9) (o := .cells #[.int .i64 a5, .slice bl aH.length bi, .slice bN aZ.length bB, .slice bm aI.length bj] 29 (0, 0)) (by (with_reducible repeat (first | refine blk_drewN ?_ _ | refine blk_drew ?_ | refine blk_alloc ?_ _)); exact pu_ 3 (pu_ 2 (pu_ 1 (pu_ 0 ar.o rfl) rfl) rfl) rfl) hb); replace HB := A_ (below_step (by repeat (first | (with_reducible first | exact HB.o | apply below_alloc | apply pw_below_drewN | apply below_drew1 | refine below_set ?_ aC.o | refine below_set ?_ aD.o) | exact HB.o)) hb); clear hb; (try clear hi)))
  go_ret
  exact ⟨by rfl, HB.o⟩
 replace c5 := Bool.eq_false_iff.mpr c5; subst c5; rw [if_neg nf_] at H; obtain rfl := Option.some.inj H; go_enter Try.func15, Try.ntmps15
 go_wp2_with (first | ((with_reducible refine gate_dst (N := 3) rfl ?_); refine box_event rfl (N := 3) rfl (cs := #[.int .i64 af, .slice ay aa.length aw, .slice av ae.length ax]) (t := 32) (by go_simp; done) ?_; intro a8 hg w40 hbox hb; have ac := A_ (hbox); have bf := A_ (lg_ (below_size HB.o) hg); have aC := A_ (lg_ (below_size HB.o) hg); replace HB := bs_ HB hb; clear hb hbox hg; have b7 := bq3 ac.o) | ((with_reducible refine gc_ 7 rfl ?_); refine cM_ E7 12 (spec_CountingForm.calls k af _ _ aa _ _ ae a1 a5 aH aZ aI false _ (Kd.C_below aJ.o HB.o) aT.o (Kd.C_below az.o HB.o) aU.o A4.o) ?_; rintro e w42 ⟨bJ, bK, bL, rfl, ho0, ho1, ho2, hb⟩; refine ⟨_, rfl, ?_⟩; have al := A_ (Kd.R_lower ho0 (below_size HB.o)); have am := A_ (Kd.R_lower ho1 (below_size HB.o)); have an := A_ (Kd.R_lower ho2 (below_size HB.o)); replace ac := bb_ ac hb; replace HB := bs_ HB hb; clear hb ho0 ho1; (try clear ho2)) | ((with_reducible refine gate_dst (N := 7) rfl ?_); refine box_event rfl (N := 7) rfl (cs := #[.int .i64 0, .slice none 0 0, .slice none 0 0, .slice none 0 0]) (t := 29) (by go_simp; done) ?_; intro a9 hg w43 hbox hb; replace al := A_ (Kd.R_below al.o hb); replace am := A_ (Kd.R_below am.o hb); replace an := A_ (Kd.R_below an.o hb); have ar := A_ (hbox); have bg := A_ (lg_ (below_size HB.o) hg); have aD := A_ (lg_ (below_size HB.o) hg); replace HB := bs_ HB hb; have ag := nl_ ac hg; have aq := ng_ ac hg; replace ac := bb_ ac hb; clear hb hbox hg; have cJ := aq.o; have cO := ag.o; have b8 := bq4 ar.o; obtain ⟨cY, dh, cx⟩ := Kd.R_slice al.o; subst cx; obtain ⟨cZ, di, cy⟩ := Kd.R_slice am.o; subst cy; obtain ⟨da, dj, cA⟩ := Kd.R_slice an.o; subst cA))
 go_ret
 exact ⟨by rfl, by repeat (first | (with_reducible first | exact HB.o | apply below_alloc | apply pw_below_drewN | apply below_drew1 | refine below_set ?_ aC.o | refine below_set ?_ aD.o) | exact HB.o)⟩

def impl_isBase.f (a0 : Int) : Option (Bool) := if a0 ≥ 2 then (some (decide (a0 ≤ 4))) else (some false)
theorem impl_isBase.calls (a0 : Int) (r : Bool) (w : World) (h : impl_isBase.f a0 = some r) :
  Calls Try.prog 62 #[.int .i64 a0] w fun e w' => e = .returned (.bool r) ∧ Drawn0 w w' := by
 unfold impl_isBase.f at h; have H := h; clear h
 by_cases c2 : a0 ≥ 2
 ·rw [if_pos c2] at H
  have cb : decide (2 ≤ a0) = true := decide_eq_true c2
  clear c2; obtain rfl := Option.some.inj H; go_enter Try.func62, Try.ntmps62
  go_wp2
  go_ret
  exact ⟨by rfl, by repeat (first | exact Drawn0.refl _ | apply Drawn0.step)⟩
 rw [if_neg c2] at H
 have cb : decide (2 ≤ a0) = false := decide_eq_false c2
 clear c2; obtain rfl := Option.some.inj H; go_enter Try.func62, Try.ntmps62
 go_wp2
 go_ret
 exact ⟨by rfl, by repeat (first | exact Drawn0.refl _ | apply Drawn0.step)⟩

mutual
def impl_IsSequence.j0 : Nat → Int → Bool → Int → List (List Int) → List Int → Option (Bool)
 | 0, _, _, _, _, _ => none
 | k + 1, x3, dp, ap, aj, ai => if dp = true then (some false) else (impl_IsSequence.l0 k x3 aj (aj.length : Int) 0 ap aj ai)
def impl_IsSequence.l0 : Nat → Int → List (List Int) → Int → Int → Int → List (List Int) → List Int → Option (Bool)
 | 0, _, _, _, _, _, _, _ => none
 | k + 1, x3, be, bt, aQ, ap, aj, ai => if aQ < bt then (if 0 ≤ aQ then (if aQ < (be.length : Int) then (if ((rd_L1 be aQ).length : Int) = ap then (if aQ < (ai.length : Int) then (if (rd ai aQ) < 0 then (impl_IsSequence.j2 k x3 (rd_L1 be aQ) be bt aQ true ap aj ai) else (impl_IsSequence.j2 k x3 (rd_L1 be aQ) be bt aQ (decide ((rd ai aQ) > 3)) ap aj ai)) else (none)) else (impl_IsSequence.j2 k x3 (rd_L1 be aQ) be bt aQ true ap aj ai)) else (none)) else (none)) else (some true)
def impl_IsSequence.j2 : Nat → Int → List Int → List (List Int) → Int → Int → Bool → Int → List (List Int) → List Int → Option (Bool)
 | 0, _, _, _, _, _, _, _, _, _ => none
 | k + 1, x3, x5, be, bt, aQ, dq, ap, aj, ai => if dq = true then (some false) else (impl_IsSequence.l1 k x3 be bt aQ x5 (x5.length : Int) 0 ap aj ai)
def impl_IsSequence.l1 : Nat → Int → List (List Int) → Int → Int → List Int → Int → Int → Int → List (List Int) → List Int → Option (Bool)
 | 0, _, _, _, _, _, _, _, _, _, _ => none
 | k + 1, x3, be, bt, aQ, b9, cP, bM, ap, aj, ai => if bM < cP then (if 0 ≤ bM then (if bM < (b9.length : Int) then (if (rd b9 bM) < 0 then (some false) else (if (rd b9 bM) ≥ x3 then (some false) else (impl_IsSequence.l1 k x3 be bt aQ b9 cP (wrap64 (bM + 1)) ap aj ai))) else (none)) else (none)) else (impl_IsSequence.l0 k x3 be bt (wrap64 (aQ + 1)) ap aj ai)
end
def impl_IsSequence.f (k : Nat) (af : Int) (aa : List (List Int)) (ae : List Int) : Option (Bool) := (impl_isBase.f af).bind fun bI => (if bI = true then (if (aa.length : Int) < 1 then (impl_IsSequence.j0 k (aa.length : Int) true af aa ae) else (if (aa.length : Int) > 16 then (impl_IsSequence.j0 k (aa.length : Int) true af aa ae) else (impl_IsSequence.j0 k (aa.length : Int) ((ae.length : Int) != (aa.length : Int)) af aa ae))) else (impl_IsSequence.j0 k (aa.length : Int) true af aa ae))
theorem impl_IsSequence.calls (k : Nat) (af : Int) (ay : Option Addr) (aw : Nat) (aa : List (List Int)) (av : Option Addr) (ax : Nat) (ae : List Int) (r : Bool) (w : World) (aX : Kd.C (Kd.slice 3 (Kd.int .i64)) w ay aa.length aa) (aV : aa.length ≤ aw) (aY : Kd.C (Kd.int .i64) w av ae.length ae) (aW : ae.length ≤ ax) (h : impl_IsSequence.f k af aa ae = some r) :
  Calls Try.prog 55 #[.agg #[.int .i64 af, .slice ay aa.length aw, .slice av ae.length ax]] w fun e w' => e = .returned (.bool r) ∧ Below w.heap.size w w' := by
 have hu32 := Try.underlying32; have aJ := A_ aX; have aT := A_ aV; clear aX aV; have az := A_ aY; have aU := A_ aW; clear aY aW; have HB := A_ (Below.refl w.heap.size w); unfold impl_IsSequence.f at h; have H := h; clear h; have HC2 := A_ H; clear H; go_enter Try.func55, Try.ntmps55
 go_upto_region 2 with (first | ((with_reducible refine gate_dst (N := 1) rfl ?_); (try (refine gate_guard (by rfl) ?_; dsimp only)); refine box_event rfl (N := 1) rfl (cs := #[.int .i64 af, .slice ay aa.length aw, .slice av ae.length ax]) (t := 32) (by go_simp; done) ?_; intro ba hg w3 hbox hb; have ah := A_ (hbox); have cC := A_ (lg_ (below_size HB.o) hg); have a7 := A_ (lg_ (below_size HB.o) hg); replace HB := bs_ HB hb; clear hb hbox hg; have bD := bq3 ah.o))
 (try simp only [Act.put, mD, mE, mF])
 go_cut [29] (fun dk wc => ∃ (kq : Nat) (bd : Bool), dk = .bool bd ∧ Aside0 (impl_IsSequence.j0 kq (aa.length : Int) bd af aa ae = some r) ∧ Aside0 (kq ≤ k) ∧ Aside0 (wc.heap[ba]? = some (.cells #[.int .i64 af, (.slice ay aa.length aw), (.slice av ae.length ax)] 32 (0, 0))) ∧ Aside0 (Below w.heap.size w wc))
 case first =>
  have H := HC2.o; clear HC2; replace H := bA_ H; obtain ⟨bI, A5, H⟩ := H
  by_cases c6 : bI = true
  ·subst c6; rw [if_pos rfl] at H
   by_cases c7 : (aa.length : Int) < 1
   ·rw [if_pos c7] at H; have ce := decide_eq_true c7
    have cf : decide (aa.length < 1) = true := decide_eq_true (by omega)
    clear c7
    (skip)
    have H' := A_ H
    clear H; have bE := bq3 ah.o
    go_wp2_with (first | ((with_reducible refine gc_ 62 rfl ?_); refine cM_ E62 13 (impl_isBase.calls af true _ A5.o) ?_; rintro e w' ⟨rfl, ⟨nd, rfl⟩⟩; refine ⟨_, rfl, ?_⟩))
    go_meet
    case rel => exact ⟨_, (true), (by rfl), H', ⟨by omega⟩, ⟨by (with_reducible repeat (first | refine blk_drewN ?_ _ | refine blk_drew ?_ | refine blk_alloc ?_ _)); exact ah.o⟩, ⟨by repeat (first | (with_reducible first | exact HB.o | apply below_alloc | apply pw_below_drewN | apply below_drew1 | refine below_set ?_ a7.o) | exact HB.o)⟩⟩
   rw [if_neg c7] at H; have ce := decide_eq_false c7
   have cf : decide (aa.length < 1) = false := decide_eq_false (by omega)
   clear c7
   (skip)
   by_cases c9 : (aa.length : Int) > 16
   ·rw [if_pos c9] at H
    have cg : decide (16 < (aa.length : Int)) = true := decide_eq_true c9
    have ch : decide (16 < aa.length) = true := decide_eq_true (by omega)
    clear c9
    have H' := A_ H
    clear H; have bY := bq3 ah.o
    go_wp2_with (first | ((with_reducible refine gc_ 62 rfl ?_); refine cM_ E62 13 (impl_isBase.calls af true _ A5.o) ?_; rintro e w' ⟨rfl, ⟨nd, rfl⟩⟩; refine ⟨_, rfl, ?_⟩))
    go_meet
    case rel => exact ⟨_, (true), (by rfl), H', ⟨by omega⟩, ⟨by (with_reducible repeat (first | refine blk_drewN ?_ _ | refine blk_drew ?_ | refine blk_alloc ?_ _)); exact ah.o⟩, ⟨by repeat (first | (with_reducible first | exact HB.o | apply below_alloc | apply pw_below_drewN | apply below_drew1 | refine below_set ?_ a7.o) | exact HB.o)⟩⟩
   rw [if_neg c9] at H
   have cg : decide (16 < (aa.length : Int)) = false := decide_eq_false c9
   have ch : decide (16 < aa.length) = false := decide_eq_false (by omega)
   clear c9
   have H' := A_ H
   clear H; have bZ := bq3 ah.o
   go_wp2_with (first | ((with_reducible refine gc_ 62 rfl ?_); refine cM_ E62 13 (impl_isBase.calls af true _ A5.o) ?_; rintro e w' ⟨rfl, ⟨nd, rfl⟩⟩; refine ⟨_, rfl, ?_⟩))
   go_meet
   case rel => exact ⟨_, (((ae.length : Int) != (aa.length : Int))), (by rfl), H', ⟨by omega⟩, ⟨by (with_reducible repeat (first | refine blk_drewN ?_ _ | refine blk_drew ?_ | refine blk_alloc ?_ _)); exact ah.o⟩, ⟨by repeat (first | (with_reducible first | exact HB.o | apply below_alloc | apply pw_below_drewN | apply below_drew1 | refine below_set ?_ a7.o) | exact HB.o)⟩⟩
  replace c6 := Bool.eq_false_iff.mpr c6; subst c6; rw [if_neg nf_] at H
  have H' := A_ H
  clear H; have bo := bq3 ah.o
  go_wp2_with (first | ((with_reducible refine gc_ 62 rfl ?_); refine cM_ E62 13 (impl_isBase.calls af false _ A5.o) ?_; rintro e w' ⟨rfl, ⟨nd, rfl⟩⟩; refine ⟨_, rfl, ?_⟩))
  go_meet
  case rel => exact ⟨_, (true), (by rfl), H', ⟨by omega⟩, ⟨by (with_reducible repeat (first | refine blk_drewN ?_ _ | refine blk_drew ?_ | refine blk_alloc ?_ _)); exact ah.o⟩, ⟨by repeat (first | (with_reducible first | exact HB.o | apply below_alloc | apply pw_below_drewN | apply below_drew1 | refine below_set ?_ a7.o) | exact HB.o)⟩⟩
 case rest =>
  clear HC2
  try clear bD
  obtain ⟨kq, bd, rfl, HA, bz, ah, HB⟩ := hcut
  cases kq with
  | zero => exact nz_ HA.o
  | succ kj1 =>
   have H := HA.o; clear HA; simp only [impl_IsSequence.j0] at H
   by_cases c13 : bd = true
   ·subst c13; rw [if_pos rfl] at H; obtain rfl := Option.some.inj H
    go_wp2
    go_ret
    exact ⟨by rfl, HB.o⟩
   replace c13 := Bool.eq_false_iff.mpr c13; subst c13; rw [if_neg nf_] at H
   have H' := A_ H
   clear H; have bp := bq3 ah.o
   go_wp2
   go_loopg [33] kj1 (fun kq dl w' => ∃ (ab : Int), dl = .int .i64 ab ∧ Aside0 (impl_IsSequence.l0 kq (aa.length : Int) aa (aa.length : Int) ab af aa ae = some r) ∧ Aside0 (kq ≤ kj1) ∧ Aside0 (w'.heap[ba]? = some (.cells #[.int .i64 af, (.slice ay aa.length aw), (.slice av ae.length ax)] 32 (0, 0))) ∧ Aside0 (Below w.heap.size w w'))
   case atStart => exact ⟨(0), (by rfl), H', ⟨Nat.le_refl _⟩, ⟨ah.o⟩, ⟨HB.o⟩⟩
   case round =>
    clear H'
    try clear bp
    obtain ⟨ab, rfl, HA, bA, ah, HB⟩ := hrel
    cases gk with
    | zero => exact nz_ HA.o
    | succ k2 =>
     have H := HA.o; clear HA; simp only [impl_IsSequence.l0] at H
     by_cases c15 : ab < (aa.length : Int)
     ·rw [if_pos c15] at H; have bx := decide_eq_true c15; clear c15
      by_cases c16 : 0 ≤ ab
      ·rw [if_pos c16] at H; have bP := decide_eq_true c16; clear c16
       by_cases c17 : ab < (aa.length : Int)
       ·rw [if_pos c17] at H; have bh := decide_eq_true c17; clear c17; have HC18 := A_ H; clear H
        have br : 0 ≤ (ab : Int) := oa_
        have bs : ab < (aa.length : Int) := oa_
        obtain ⟨bu, ca, cc, ci, aA, bc, bb⟩ := at_L1 aJ.o ab br bs
        cases ci
        replace aA := (HB.o.cell (World.block_lt_of_cell? w _ aA)).trans aA; have aK := A_ bb; have bW := A_ bc; clear bb bc; replace br := eq_true br; replace bs := eq_true bs
        go_upto_region 7 with (fail)
        go_cut [58] (fun dm wc => ∃ (kq : Nat) (aN : Bool), dm = .bool aN ∧ Aside0 (impl_IsSequence.j2 kq (aa.length : Int) (rd_L1 aa ab) aa (aa.length : Int) ab aN af aa ae = some r) ∧ Aside0 (kq ≤ k2) ∧ Aside0 (wc.heap[ba]? = some (.cells #[.int .i64 af, (.slice (some bu) aa.length aw), (.slice av ae.length ax)] 32 (0, 0))) ∧ Aside0 (Below w.heap.size w wc))
        case first =>
         have H := HC18.o; clear HC18
         by_cases c19 : ((rd_L1 aa ab).length : Int) = af
         ·rw [if_pos c19] at H
          have bQ : (((rd_L1 aa ab).length : Int) == af) = true := beq_iff_eq.mpr c19
          have bR : (((rd_L1 aa ab).length : Int) != af) = false := bne_eq_false_iff_eq.mpr c19
          clear c19
          (skip)
          by_cases c20 : ab < (ae.length : Int)
          ·rw [if_pos c20] at H; have cD := decide_eq_true c20; clear c20
           by_cases c21 : (rd ae ab) < 0
           ·rw [if_pos c21] at H; have bS := decide_eq_true c21; clear c21
            have H' := A_ H
            clear H; have b1 := bq3 ah.o
            have a3 : 0 ≤ (ab : Int) := oa_
            have a4 : ab < (ae.length : Int) := oa_
            obtain ⟨bv, bC, au⟩ := Kd.at_int az.o ab a3 a4
            cases bC
            replace au := (HB.o.cell (World.block_lt_of_cell? w _ au)).trans au; replace a3 := eq_true a3; replace a4 := eq_true a4
            go_wp2
            go_meet
            case rel => exact ⟨_, (true), (by rfl), H', ⟨by have := bz.o; have := bA.o; omega⟩, ⟨ah.o⟩, ⟨HB.o⟩⟩
           rw [if_neg c21] at H; have bS := decide_eq_false c21; clear c21
           have H' := A_ H
           clear H; have bq := bq3 ah.o
           have a3 : 0 ≤ (ab : Int) := oa_
           have a4 : ab < (ae.length : Int) := oa_
           obtain ⟨bv, bC, au⟩ := Kd.at_int az.o ab a3 a4
           cases bC
           replace au := (HB.o.cell (World.block_lt_of_cell? w _ au)).trans au; replace a3 := eq_true a3; replace a4 := eq_true a4
           have bF : 0 ≤ (ab : Int) := oa_
           have bG : ab < (ae.length : Int) := oa_
           obtain ⟨bO, cj, aM⟩ := Kd.at_int az.o ab bF bG; obtain rfl : bv = bO := (by injection cj); replace aM := (HB.o.cell (World.block_lt_of_cell? w _ aM)).trans aM; replace bF := eq_true bF; replace bG := eq_true bG
           go_wp2
           go_meet
           case rel => exact ⟨_, (decide ((rd ae ab) > 3)), (by rfl), H', ⟨by have := bz.o; have := bA.o; omega⟩, ⟨ah.o⟩, ⟨HB.o⟩⟩
          rw [if_neg c20] at H
          cases H
         rw [if_neg c19] at H
         have bQ : (((rd_L1 aa ab).length : Int) == af) = false := beq_eq_false_iff_ne.mpr c19
         have bR : (((rd_L1 aa ab).length : Int) != af) = true := bne_iff_ne.mpr c19
         (skip)
         have H' := A_ H
         clear H; have b2 := bq3 ah.o
         go_wp2
         go_meet
         case rel => exact ⟨_, (true), (by rfl), H', ⟨by have := bz.o; have := bA.o; omega⟩, ⟨ah.o⟩, ⟨HB.o⟩⟩
        case rest =>
         clear HC18
         clear bx bP bh aA br bs
         obtain ⟨kq, aN, rfl, HA, bn, ah, HB⟩ := hcut
         cases kq with
         | zero => exact nz_ HA.o
         | succ kj17 =>
          have H := HA.o; clear HA; simp only [impl_IsSequence.j2] at H
          by_cases c25 : aN = true
          ·subst c25; rw [if_pos rfl] at H; obtain rfl := Option.some.inj H
           go_wp2
           go_ret
           exact ⟨by rfl, HB.o⟩
          replace c25 := Bool.eq_false_iff.mpr c25; subst c25; rw [if_neg nf_] at H
          have H' := A_ H
          clear H
          go_wp2
          go_loopg [61] kj17 (fun kq dn w' => ∃ (ak : Int), dn = .int .i64 ak ∧ Aside0 (impl_IsSequence.l1 kq (aa.length : Int) aa (aa.length : Int) ab (rd_L1 aa ab) ((rd_L1 aa ab).length : Int) ak af aa ae = some r) ∧ Aside0 (kq ≤ kj17) ∧ Aside0 (w'.heap[ba]? = some (.cells #[.int .i64 af, (.slice (some bu) aa.length aw), (.slice av ae.length ax)] 32 (0, 0))) ∧ Aside0 (Below w.heap.size w w'))
          case atStart => exact ⟨(0), (by rfl), H', ⟨Nat.le_refl _⟩, ⟨ah.o⟩, ⟨HB.o⟩⟩
          case round =>
           clear H'; obtain ⟨ak, rfl, HA, bX, ah, HB⟩ := hrel
           cases gk with
           | zero => exact nz_ HA.o
           | succ k4 =>
            have H := HA.o; clear HA; simp only [impl_IsSequence.l1] at H
            by_cases c26 : ak < ((rd_L1 aa ab).length : Int)
            ·rw [if_pos c26] at H; have bT := decide_eq_true c26; clear c26
             by_cases c27 : 0 ≤ ak
             ·rw [if_pos c27] at H; have cE := decide_eq_true c27; clear c27
              by_cases c28 : ak < ((rd_L1 aa ab).length : Int)
              ·rw [if_pos c28] at H; have cF := decide_eq_true c28; clear c28
               by_cases c29 : (rd (rd_L1 aa ab) ak) < 0
               ·rw [if_pos c29] at H; have bU := decide_eq_true c29; clear c29; obtain rfl := Option.some.inj H
                have aE : 0 ≤ (ak : Int) := oa_
                have aG : ak < ((rd_L1 aa ab).length : Int) := oa_
                obtain ⟨bw, bk, ao⟩ := Kd.at_int aK.o ak aE aG
                cases bk
                replace ao := (HB.o.cell (World.block_lt_of_cell? w _ ao)).trans ao; replace aE := eq_true aE; replace aG := eq_true aG
                go_wp2
                go_ret
                exact ⟨by rfl, HB.o⟩
               rw [if_neg c29] at H; have bU := decide_eq_false c29; clear c29
               by_cases c30 : (rd (rd_L1 aa ab) ak) ≥ (aa.length : Int)
               ·rw [if_pos c30] at H
                have bV : decide ((aa.length : Int) ≤ (rd (rd_L1 aa ab) ak)) = true := decide_eq_true c30
                clear c30; obtain rfl := Option.some.inj H
                have aE : 0 ≤ (ak : Int) := oa_
                have aG : ak < ((rd_L1 aa ab).length : Int) := oa_
                obtain ⟨bw, bk, ao⟩ := Kd.at_int aK.o ak aE aG
                cases bk
                replace ao := (HB.o.cell (World.block_lt_of_cell? w _ ao)).trans ao; replace aE := eq_true aE; replace aG := eq_true aG
                go_wp2
                go_ret
                exact ⟨by rfl, HB.o⟩
               rw [if_neg c30] at H
               have bV : decide ((aa.length : Int) ≤ (rd (rd_L1 aa ab) ak)) = false := decide_eq_false c30
               clear c30
               have H' := A_ H
               clear H
               have aE : 0 ≤ (ak : Int) := oa_
               have aG : ak < ((rd_L1 aa ab).length : Int) := oa_
               obtain ⟨bw, bk, ao⟩ := Kd.at_int aK.o ak aE aG
               cases bk
               replace ao := (HB.o.cell (World.block_lt_of_cell? w _ ao)).trans ao; replace aE := eq_true aE; replace aG := eq_true aG
               go_wp2
               go_roundg k4
               case measure => have := bz.o; have := bA.o; have := bn.o; have := bX.o; omega
               case rel => exact ⟨(wrap64 (ak + 1)), (by rfl), H', ⟨by have := bz.o; have := bA.o; have := bn.o; have := bX.o; omega⟩, ⟨ah.o⟩, ⟨HB.o⟩⟩
              rw [if_neg c28] at H
              cases H
             rw [if_neg c27] at H
             cases H
            rw [if_neg c26] at H; have bT := decide_eq_false c26; clear c26
            have H' := A_ H
            clear H
            go_wp2
            go_roundg k4
            case measure => have := bz.o; have := bA.o; have := bn.o; have := bX.o; omega
            case rel => exact ⟨(wrap64 (ab + 1)), (by rfl), H', ⟨by have := bz.o; have := bA.o; have := bn.o; have := bX.o; omega⟩, ⟨ah.o⟩, ⟨HB.o⟩⟩
       rw [if_neg c17] at H
       cases H
      rw [if_neg c16] at H
      cases H
     rw [if_neg c15] at H; have bx := decide_eq_false c15; clear c15; obtain rfl := Option.some.inj H
     go_wp2
     go_ret
     exact ⟨by rfl, HB.o⟩

end Go.Proofs.Ytgmfjcckmapkbaa.PFnExactPrefixSum

