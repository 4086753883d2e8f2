/- Walks of the functions that the law reaches. -/
import Derived.Test.YtgmfjcckmapkbaaPFnExactCountingFormx2
import Derived.Test.YtgmfjcckmapkbaaPFnExactCountingFormx5
namespace Go.Proofs.Ytgmfjcckmapkbaa.PFnExactCountingForm
open Go.RowKit Go.Proofs.YtgmfjcckmapkbaaW.PrintWords Go.Proofs.YtgmfjcckmapkbaaW.PrintLast Go.Proofs.YtgmfjcckmapkbaaW.PrintMore
attribute [local go_sem] max2_int min2_int max_two min_two max_three min_three max_four min_four
set_option linter.unusedVariables false
set_option maxHeartbeats 8000000
set_option maxRecDepth 100000
set_option linter.unusedSimpArgs false

mutual
def spec_StateClasses.l0 : Nat → List (List Int) → Int → Int → List (List Int) → List Int → Option (List Int)
 | 0, _, _, _, _, _ => none
 | k + 1, x3, x4, aj, ab, ag => if x4 < (ag.length : Int) then (if 0 ≤ x4 then (if x3.length < 5864062014805 then (spec_StateClasses.l0 k (x3 ++ [(([rd ag x4] : List Int))]) (wrap64 (x4 + 1)) aj ab ag) else (none)) else (none)) else ((spec_l4Number.f k x3).bind fun bh => (spec_StateClasses.l1 k bh 0 aj ab ag))
def spec_StateClasses.l1 : Nat → List Int → Int → Int → List (List Int) → List Int → Option (List Int)
 | 0, _, _, _, _, _ => none
 | k + 1, x5, x6, aj, ab, ag => if x6 < (ab.length : Int) then (spec_StateClasses.l2 k (([] : List (List Int))) x5 x6 0 aj ab ag) else (some x5)
def spec_StateClasses.l2 : Nat → List (List Int) → List Int → Int → Int → Int → List (List Int) → List Int → Option (List Int)
 | 0, _, _, _, _, _, _, _ => none
 | k + 1, x3, x5, x6, x7, aj, ab, ag => if x7 < (ab.length : Int) then (if 0 ≤ x7 then (if x7 < (x5.length : Int) then (spec_StateClasses.l3 k x3 x5 x6 x7 (([rd x5 x7] : List Int)) 0 aj ab ag) else (none)) else (none)) else ((spec_l4Number.f k x3).bind fun bi => (spec_StateClasses.l1 k bi (wrap64 (x6 + 1)) aj ab ag))
def spec_StateClasses.l3 : Nat → List (List Int) → List Int → Int → Int → List Int → Int → Int → List (List Int) → List Int → Option (List Int)
 | 0, _, _, _, _, _, _, _, _, _ => none
 | k + 1, x3, x5, x6, x7, x8, x9, aj, ab, ag => if x9 < aj then (if 0 ≤ x7 then (if x7 < (ab.length : Int) then (if 0 ≤ x9 then (if x9 < ((rd_L1 ab x7).length : Int) then (if 0 ≤ (rd (rd_L1 ab x7) x9) then (if (rd (rd_L1 ab x7) x9) < (x5.length : Int) then (if x8.length < 17592186044416 then (spec_StateClasses.l3 k x3 x5 x6 x7 (x8 ++ [rd x5 (rd (rd_L1 ab x7) x9)]) (wrap64 (x9 + 1)) aj ab ag) else (none)) else (none)) else (none)) else (none)) else (none)) else (none)) else (none)) else (if x3.length < 5864062014805 then (spec_StateClasses.l2 k (x3 ++ [x8]) x5 x6 (wrap64 (x7 + 1)) aj ab ag) else (none))
end
def spec_StateClasses.f (k : Nat) (al : Int) (ac : List (List Int)) (ae : List Int) : Option (List Int) := (spec_IsSequence.f k al ac ae).bind fun bE => (if bE = true then (spec_StateClasses.l0 k (([] : List (List Int))) 0 al ac ae) else (some (([] : List Int))))
theorem spec_StateClasses.calls (k : Nat) (al : Int) (ay : Option Addr) (aA : Nat) (ac : List (List Int)) (az : Option Addr) (aC : Nat) (ae : List Int) (r : List Int) (w : World) (bq : Kd.C (Kd.slice 3 (Kd.int .i64)) w ay ac.length ac) (bo : ac.length ≤ aA) (br : Kd.C (Kd.int .i64) w az ae.length ae) (bp : ae.length ≤ aC) (h : spec_StateClasses.f k al ac ae = some r) :
  Calls Try.prog 42 #[.agg #[.int .i64 al, .slice ay ac.length aA, .slice az ae.length aC]] w fun e w' => ∃ v0_ : Value, e = .returned (v0_) ∧ Kd.R (Kd.int .i64) 3 w' w.heap.size (fun _ => True) v0_ r ∧ Below w.heap.size w w' := by
 have hu32 := Try.underlying32; have aK := A_ bq; have bj := A_ bo; clear bq bo; have aM := A_ br; have bk := A_ bp; clear br bp; have HB := A_ (Below.refl w.heap.size w); unfold spec_StateClasses.f at h; have H := h; clear h; replace H := bA_ H; obtain ⟨bE, A2, H⟩ := H
 by_cases c3 : bE = true
 ·subst c3; rw [if_pos rfl] at H; obtain ⟨ce, aT⟩ := ex_ ((([] : List (List Int))) : List (List Int)); replace H : (spec_StateClasses.l0 k ce 0 al ac ae) = some r := by (rw [aT]; with_reducible exact H)
  have bY := A_ aT; clear aT
  have H' := A_ H
  clear H; go_enter Try.func42, Try.ntmps42
  go_wp2_with (first | ((with_reducible refine gate_dst (N := 1) rfl ?_); refine box_event rfl (N := 1) rfl (cs := #[.int .i64 al, .slice ay ac.length aA, .slice az ae.length aC]) (t := 32) (by go_simp; done) ?_; intro aE hg w4 hbox hb; have aa := A_ (hbox); have bK := A_ (lg_ (below_size HB.o) hg); have bJ := A_ (lg_ (below_size HB.o) hg); replace HB := bs_ HB hb; clear hb hbox hg; have bs := bq3 aa.o) | ((with_reducible refine gc_ 51 rfl ?_); refine cM_ E51 11 (spec_IsSequence.calls k al _ _ ac _ _ ae true _ (Kd.C_below aK.o HB.o) bj.o (Kd.C_below aM.o HB.o) bk.o A2.o) ?_; rintro e w6 ⟨rfl, hb⟩; refine ⟨_, rfl, ?_⟩; replace aa := bb_ aa hb; replace HB := bs_ HB hb; clear hb; (try clear hi)) | ((with_reducible refine gate_dst (N := 14) rfl ?_); refine Kd.S_lit (Kd.slice 3 (Kd.int .i64)) _ 23 ?hg (N := 14) ?hd (xs := ([] : List (List Int))) (inner := []) (ok := fun _ => True) (okp := fun _ => True) ?hr ?hp (fun _ hk => hk) trivial (Below.refl _ _) (Nat.le_refl _) (by simp) ?_; (case hd | hg => rfl); (case hr => go_simp; done); (case hp => exact (Reps.none _ _)); rintro dg w7 ho8 hb - -; (rw [← bY.o] at ho8); have bM := A_ (Kd.S_lower ho8 (below_size HB.o)); replace aa := bb_ aa hb; replace HB := bs_ HB hb; clear hb ho8))
  go_loopg [3, 4] k (fun kq v3 v4 w' => ∃ (ax : List (List Int)) (an : Int), v4 = .int .i64 an ∧ Aside0 (spec_StateClasses.l0 kq ax an al ac ae = some r) ∧ Aside0 (kq ≤ k) ∧ Aside0 (Kd.S (Kd.slice 3 (Kd.int .i64)) 23 w' w.heap.size (fun _ => True) v3 ax) ∧ Aside0 (w'.heap[aE]? = some (.cells #[.int .i64 al, (.slice ay ac.length aA), (.slice az ae.length aC)] 32 (0, 0))) ∧ Aside0 (Below w.heap.size w w'))
  case atStart => exact ⟨(ce), (0), (by rfl), H', ⟨Nat.le_refl _⟩, ⟨bM.o⟩, ⟨aa.o⟩, ⟨HB.o⟩⟩
  case round =>
   clear H'
   try clear bs
   obtain ⟨ax, an, rfl, HA, bl, ah, aa, HB⟩ := hrel
   cases gk with
   | zero => exact nz_ HA.o
   | succ k1 =>
    have H := HA.o; clear HA; simp only [spec_StateClasses.l0] at H
    by_cases c9 : an < (ae.length : Int)
    ·rw [if_pos c9] at H; have b9 := decide_eq_true c9; clear c9
     by_cases c10 : 0 ≤ an
     ·rw [if_pos c10] at H; have cS := decide_eq_true c10; clear c10; obtain ⟨a8, aU⟩ := ex_ ((([rd ae an] : List Int)) : List Int); replace H : (if ax.length < 5864062014805 then (spec_StateClasses.l0 k1 (ax ++ [a8]) (wrap64 (an + 1)) al ac ae) else (none)) = some r := by (rw [aU]; with_reducible exact H)
      have bZ := A_ aU; clear aU
      by_cases c11 : ax.length < 5864062014805
      ·rw [if_pos c11] at H; have bU := A_ c11; clear c11; obtain ⟨cf, aV⟩ := ex_ ((ax ++ [a8]) : List (List Int)); replace H : (spec_StateClasses.l0 k1 cf (wrap64 (an + 1)) al ac ae) = some r := by (rw [aV]; with_reducible exact H)
       have b0 := A_ aV; clear aV
       have H' := A_ H
       clear H; have co := bq3 aa.o
       have bv : 0 ≤ (an : Int) := oa_
       have bA : an < (ae.length : Int) := oa_
       obtain ⟨cO, cC, au⟩ := Kd.at_int aM.o an bv bA
       cases cC
       replace au := (HB.o.cell (World.block_lt_of_cell? w _ au)).trans au; replace bv := eq_true bv; replace bA := eq_true bA
       go_wp2_with (first | ((with_reducible refine gate_dst (N := 28) rfl ?_); refine Kd.R_lit (Kd.int .i64) _ 3 ?hg (N := 28) ?hd (xs := ([rd ae an] : List Int)) (inner := [.int .i64 (rd ae an)]) (ok := fun _ => True) (okp := fun _ => True) ?hr ?hp (fun _ hk => hk) trivial (Below.refl _ _) (Nat.le_refl _) (by simp) ?_; (case hd | hg => rfl); (case hr => go_simp; done); (case hp => exact (Reps.one (show Kd.M (Kd.int .i64) _ _ _ (rd ae an) [.int .i64 (rd ae an)] from rfl) (Reps.none _ _))); rintro dh w13 bd hb - -; (rw [← bZ.o] at bd); replace ah := A_ (Kd.S_elder' ah.o (Kd.R_base bd) hb); have aH := A_ (Kd.R_lower bd (below_size HB.o)); replace aa := bb_ aa hb; replace HB := bs_ HB hb; clear hb bd; obtain ⟨bH, cc, cH⟩ := Kd.R_slice aH.o; subst cH) | ((with_reducible refine gate_builtin (b := .append) (xs := #[.tmp 22, .tmp 29]) rfl ?_); at_builtin; refine Kd.S_append (Kd.slice 3 (Kd.int .i64)) (w0 := w) w.heap.size rfl (.tmp 22) (.tmp 29) 22 23 (.slice none 0 0) 24 rfl Try.underlying22 info23 rfl (by decide) (by omega) u3 ax a8 [.slice bH a8.length cc] (fun _ => True) (fun k_ => some k_ = (.slice bH a8.length cc : Value).ownBlock) rfl rfl ?aP (fun k_ hk_ => ((Kd.R_mono (ok' := fun k_ => ((fun _ => True)) k_ ∧ some k_ ≠ (u3 : Value).ownBlock) (Kd.R_apart' (aH.o) (Kd.S_typed ah.o) (by decide)) (fun k_ hk => ⟨trivial, hk.2⟩))).1 k_ hk_.symm) ?aF ?aO ?aB ?aS ?aL ?_; (case aP => exact Kd.M_row (Kd.R_mono (Kd.R_tight rfl (Kd.R_mono (ok' := fun k_ => ((fun _ => True)) k_ ∧ some k_ ≠ (u3 : Value).ownBlock) (Kd.R_apart' (aH.o) (Kd.S_typed ah.o) (by decide)) (fun k_ hk => ⟨trivial, hk.2⟩))) (fun _ h_ => h_))); (case aB => exact HB.o); (case aF => exact (fun _ _ => trivial)); (case aO => exact (by exact Kd.S_mono ah.o (fun k_ hk => ⟨trivial, fun e_ => hk.2 e_⟩))); (case aS => exact (below_size HB.o)); (case aL => have := bU.o; omega); intro di w15 ho hb hg hat; rw [← b0.o] at ho; replace aa := gS_ ah aa hg; replace HB := A_ (hb); have bN := A_ (ho); clear ah aH; clear ho hb hg hat))
       go_roundg k1
       case measure => have := bl.o; omega
       case rel => exact ⟨(cf), (wrap64 (an + 1)), (by rfl), H', ⟨by have := bl.o; omega⟩, ⟨bN.o⟩, ⟨aa.o⟩, ⟨HB.o⟩⟩
      rw [if_neg c11] at H
      cases H
     rw [if_neg c10] at H
     cases H
    rw [if_neg c9] at H; have b9 := decide_eq_false c9; clear c9; replace H := bA_ H; obtain ⟨bh, A17, H⟩ := H
    have H' := A_ H
    clear H; have ba := bq3 aa.o; obtain ⟨da, dd, cI⟩ := Kd.S_slice ah.o; subst cI
    go_wp2_with (first | ((with_reducible refine gc_ 54 rfl ?_); refine cM_ E54 32 (spec_l4Number.calls k1 _ _ ax bh _ ((Kd.S_reads' ah.o).2.2) ((Kd.S_reads' ah.o).2.1) A17.o) ?_; rintro e w20 ⟨dj, rfl, ho0, hb⟩; refine ⟨_, rfl, ?_⟩; replace ah := A_ (Kd.S_elder' ah.o (Kd.R_base ho0) hb); have bO := A_ (Kd.R_lower ho0 (below_size HB.o)); replace aa := bb_ aa hb; replace HB := bs_ HB hb; clear hb; (try clear ho0)))
    go_loopg [5, 6] k1 (fun kq v5 v6 w' => ∃ (ai : List Int) (aq : Int), v6 = .int .i64 aq ∧ Aside0 (spec_StateClasses.l1 kq ai aq al ac ae = some r) ∧ Aside0 (kq ≤ k1) ∧ Aside0 (Kd.R (Kd.int .i64) 3 w' w.heap.size (fun _ => True) v5 ai) ∧ Aside0 (w'.heap[aE]? = some (.cells #[.int .i64 al, (.slice ay ac.length aA), (.slice az ae.length aC)] 32 (0, 0))) ∧ Aside0 (Below w.heap.size w w'))
    case atStart => exact ⟨(bh), (0), (by rfl), H', ⟨Nat.le_refl _⟩, ⟨bO.o⟩, ⟨aa.o⟩, ⟨HB.o⟩⟩
    case round =>
     clear H'
     clear b9 ba
     obtain ⟨ai, aq, rfl, HA, bF, ak, aa, HB⟩ := hrel
     cases gk with
     | zero => exact nz_ HA.o
     | succ k2 =>
      have H := HA.o; clear HA; simp only [spec_StateClasses.l1] at H
      by_cases c21 : aq < (ac.length : Int)
      ·rw [if_pos c21] at H; have bm := decide_eq_true c21; clear c21; obtain ⟨cg, aW⟩ := ex_ ((([] : List (List Int))) : List (List Int)); replace H : (spec_StateClasses.l2 k2 cg ai aq 0 al ac ae) = some r := by (rw [aW]; with_reducible exact H)
       have b1 := A_ aW; clear aW
       have H' := A_ H
       clear H; have bb := bq3 aa.o
       go_wp2_with (first | ((with_reducible refine gate_dst (N := 40) rfl ?_); refine Kd.S_lit (Kd.slice 3 (Kd.int .i64)) _ 23 ?hg (N := 40) ?hd (xs := ([] : List (List Int))) (inner := []) (ok := fun _ => True) (okp := fun _ => True) ?hr ?hp (fun _ hk => hk) trivial (Below.refl _ _) (Nat.le_refl _) (by simp) ?_; (case hd | hg => rfl); (case hr => go_simp; done); (case hp => exact (Reps.none _ _)); rintro dk w23 bt hb - -; (rw [← b1.o] at bt); have bP := A_ (Kd.S_lower (Kd.S_new' bt (Kd.R_lt ak.o)) (below_size HB.o)); replace ak := A_ (Kd.R_below ak.o hb); replace aa := bb_ aa hb; replace HB := bs_ HB hb; clear hb bt))
       go_loopg [3, 7] k2 (fun kq v3 v7 w' => ∃ (ap : List (List Int)) (af : Int), v7 = .int .i64 af ∧ Aside0 (spec_StateClasses.l2 kq ap ai aq af al ac ae = some r) ∧ Aside0 (kq ≤ k2) ∧ Aside0 (Kd.S (Kd.slice 3 (Kd.int .i64)) 23 w' w.heap.size (o1 u5) v3 ap) ∧ Aside0 (Kd.R (Kd.int .i64) 3 w' w.heap.size (fun _ => True) u5 ai) ∧ Aside0 (w'.heap[aE]? = some (.cells #[.int .i64 al, (.slice ay ac.length aA), (.slice az ae.length aC)] 32 (0, 0))) ∧ Aside0 (Below w.heap.size w w'))
       case atStart => exact ⟨(cg), (0), (by rfl), H', ⟨Nat.le_refl _⟩, ⟨by exact Kd.S_mono bP.o (fun _ hk => hk.2)⟩, ⟨ak.o⟩, ⟨aa.o⟩, ⟨HB.o⟩⟩
       case round =>
        clear H'
        clear bm bb
        obtain ⟨ap, af, rfl, HA, bG, ah, ak, aa, HB⟩ := hrel
        cases gk with
        | zero => exact nz_ HA.o
        | succ k3 =>
         have H := HA.o; clear HA; simp only [spec_StateClasses.l2] at H
         by_cases c25 : af < (ac.length : Int)
         ·rw [if_pos c25] at H; have bn := decide_eq_true c25; clear c25
          by_cases c26 : 0 ≤ af
          ·rw [if_pos c26] at H; have b6 := decide_eq_true c26; clear c26
           by_cases c27 : af < (ai.length : Int)
           ·rw [if_pos c27] at H; have b7 := decide_eq_true c27; clear c27; obtain ⟨ch, aX⟩ := ex_ ((([rd ai af] : List Int)) : List Int); replace H : (spec_StateClasses.l3 k3 ap ai aq af ch 0 al ac ae) = some r := by (rw [aX]; with_reducible exact H)
            have b2 := A_ aX; clear aX
            have H' := A_ H
            clear H; have bc := bq3 aa.o; obtain ⟨db, aD, cJ⟩ := Kd.R_slice ak.o; subst cJ
            have bf : 0 ≤ (af : Int) := oa_
            have bg : af < (ai.length : Int) := oa_
            obtain ⟨ao, cD, be⟩ := Kd.at_int (Kd.R_reads' ak.o).2.2 af bf bg
            cases cD
            replace bf := eq_true bf; replace bg := eq_true bg
            go_wp2_with (first | ((with_reducible refine gate_dst (N := 52) rfl ?_); refine Kd.R_lit (Kd.int .i64) _ 3 ?hg (N := 52) ?hd (xs := ([rd ai af] : List Int)) (inner := [.int .i64 (rd ai af)]) (ok := fun _ => True) (okp := fun _ => True) ?hr ?hp (fun _ hk => hk) trivial (Below.refl _ _) (Nat.le_refl _) (by simp) ?_; (case hd | hg => rfl); (case hr => go_simp; done); (case hp => exact (Reps.one (show Kd.M (Kd.int .i64) _ _ _ (rd ai af) [.int .i64 (rd ai af)] from rfl) (Reps.none _ _))); rintro dm w30 aN hb - -; (rw [← b2.o] at aN); replace ah := A_ (Kd.S_elder' ah.o (Kd.R_base aN) hb); have bR := A_ (Kd.R_lower (Kd.R_new' aN (Kd.R_lt ak.o)) (below_size HB.o)); replace ak := A_ (Kd.R_elder' ak.o (Kd.R_base aN) hb); replace aa := bb_ aa hb; replace HB := bs_ HB hb; clear hb aN))
            go_loopg [8, 9] k3 (fun kq v8 v9 w' => ∃ (ar : List Int) (am : Int), v9 = .int .i64 am ∧ Aside0 (spec_StateClasses.l3 kq ap ai aq af ar am al ac ae = some r) ∧ Aside0 (kq ≤ k3) ∧ Aside0 (Kd.S (Kd.slice 3 (Kd.int .i64)) 23 w' w.heap.size (o2 (.slice (some ao) ai.length aD) v8) u3 ap) ∧ Aside0 (Kd.R (Kd.int .i64) 3 w' w.heap.size (o1 v8) (.slice (some ao) ai.length aD) ai) ∧ Aside0 (Kd.R (Kd.int .i64) 3 w' w.heap.size (o1 (.slice (some ao) ai.length aD)) v8 ar) ∧ Aside0 (w'.heap[aE]? = some (.cells #[.int .i64 al, (.slice ay ac.length aA), (.slice az ae.length aC)] 32 (0, 0))) ∧ Aside0 (Below w.heap.size w w'))
            case atStart => exact ⟨(ch), (0), (by rfl), H', ⟨Nat.le_refl _⟩, ⟨ah.o⟩, ⟨by exact Kd.R_mono ak.o (fun _ hk => hk.2)⟩, ⟨by exact Kd.R_mono bR.o (fun _ hk => hk.2)⟩, ⟨aa.o⟩, ⟨HB.o⟩⟩
            case round =>
             clear H'
             clear bn b6 b7 bc be bf bg
             obtain ⟨ar, am, rfl, HA, cm, ah, ak, aG, aa, HB⟩ := hrel
             cases gk with
             | zero => exact nz_ HA.o
             | succ k4 =>
              have H := HA.o; clear HA; simp only [spec_StateClasses.l3] at H
              by_cases c32 : am < al
              ·rw [if_pos c32] at H; have b8 := decide_eq_true c32; clear c32
               by_cases c33 : 0 ≤ af
               ·rw [if_pos c33] at H; have cU := decide_eq_true c33; clear c33
                by_cases c34 : af < (ac.length : Int)
                ·rw [if_pos c34] at H; have cV := decide_eq_true c34; clear c34
                 by_cases c35 : 0 ≤ am
                 ·rw [if_pos c35] at H; have cW := decide_eq_true c35; clear c35
                  by_cases c36 : am < ((rd_L1 ac af).length : Int)
                  ·rw [if_pos c36] at H; have cX := decide_eq_true c36; clear c36
                   by_cases c37 : 0 ≤ (rd (rd_L1 ac af) am)
                   ·rw [if_pos c37] at H; have cY := decide_eq_true c37; clear c37
                    by_cases c38 : (rd (rd_L1 ac af) am) < (ai.length : Int)
                    ·rw [if_pos c38] at H; have cZ := decide_eq_true c38; clear c38
                     by_cases c39 : ar.length < 17592186044416
                     ·rw [if_pos c39] at H; have bV := A_ c39; clear c39; obtain ⟨ci, aY⟩ := ex_ ((ar ++ [rd ai (rd (rd_L1 ac af) am)]) : List Int); replace H : (spec_StateClasses.l3 k4 ap ai aq af ci (wrap64 (am + 1)) al ac ae) = some r := by (rw [aY]; with_reducible exact H)
                      have b3 := A_ aY; clear aY
                      have H' := A_ H
                      clear H; have cq := bq3 aa.o
                      have bw : 0 ≤ (af : Int) := oa_
                      have bB : af < (ac.length : Int) := oa_
                      obtain ⟨cP, cA, cB, cE, av, aJ, aI⟩ := at_L1 aK.o af bw bB
                      cases cE
                      replace av := (HB.o.cell (World.block_lt_of_cell? w _ av)).trans av; have a9 := A_ aI; have ck := A_ aJ; clear aI aJ; replace bw := eq_true bw; replace bB := eq_true bB
                      have bx : 0 ≤ (am : Int) := oa_
                      have bC : am < ((rd_L1 ac af).length : Int) := oa_
                      obtain ⟨cQ, cF, aw⟩ := Kd.at_int a9.o am bx bC
                      cases cF
                      replace aw := (HB.o.cell (World.block_lt_of_cell? w _ aw)).trans aw; replace bx := eq_true bx; replace bC := eq_true bC
                      have bz : 0 ≤ ((rd (rd_L1 ac af) am) : Int) := oa_
                      have bD : (rd (rd_L1 ac af) am) < (ai.length : Int) := oa_
                      obtain ⟨b5, cG, cy⟩ := Kd.at_int (Kd.R_reads' ak.o).2.2 (rd (rd_L1 ac af) am) bz bD; obtain rfl : ao = b5 := (by injection cG); replace bz := eq_true bz; replace bD := eq_true bD
                      go_wp2_with (first | ((with_reducible refine gate_builtin (b := .append) (xs := #[.tmp 59, .tmp 71]) rfl ?_); at_builtin; refine Kd.R_append (Kd.int .i64) (w0 := w) w.heap.size rfl (.tmp 59) (.tmp 71) 23 3 (.int .i64 0) 8 rfl Try.underlying23 info3 rfl (by decide) (by omega) u8 ar (rd ai (rd (rd_L1 ac af) am)) [.int .i64 (rd ai (rd (rd_L1 ac af) am))] (o1 (.slice (some ao) ai.length aD)) (fun _ => False) rfl rfl ?aP (fun _ hk => hk.elim) ?aF ?aO ?aB ?aS ?aL ?_; (case aP => exact rfl); (case aB => exact HB.o); (case aF => exact (fun k_ hk => Kd.fresh' (Kd.R_lt ak.o) k_ hk)); (case aO => exact aG.o); (case aS => exact (below_size HB.o)); (case aL => have := bV.o; omega); intro dn w41 ho hb hg hat; rw [← b3.o] at ho; replace ah := A_ (Kd.S_after (ok := (o1 (.slice (some ao) ai.length aD))) ah.o hg hat); replace ak := A_ (Kd.R_after (ok := (fun _ => True)) (by exact Kd.R_mono ak.o (fun _ hk => ⟨trivial, hk⟩)) hg hat); replace aa := gR_ aG aa hg; replace HB := A_ (hb); have bS := A_ (ho); clear aG; clear ho hb hg hat))
                      go_roundg k4
                      case measure => have := bl.o; have := bF.o; have := bG.o; have := cm.o; omega
                      case rel => exact ⟨(ci), (wrap64 (am + 1)), (by rfl), H', ⟨by have := bl.o; have := bF.o; have := bG.o; have := cm.o; omega⟩, ⟨ah.o⟩, ⟨by exact Kd.R_mono ak.o (fun _ hk => hk.2)⟩, ⟨bS.o⟩, ⟨aa.o⟩, ⟨HB.o⟩⟩
                     rw [if_neg c39] at H
                     cases H
                    rw [if_neg c38] at H
                    cases H
                   rw [if_neg c37] at H
                   cases H
                  rw [if_neg c36] at H
                  cases H
                 rw [if_neg c35] at H
                 cases H
                rw [if_neg c34] at H
                cases H
               rw [if_neg c33] at H
               cases H
              rw [if_neg c32] at H; have b8 := decide_eq_false c32; clear c32
              by_cases c42 : ap.length < 5864062014805
              ·rw [if_pos c42] at H; have bW := A_ c42; clear c42; obtain ⟨cj, aZ⟩ := ex_ ((ap ++ [ar]) : List (List Int)); replace H : (spec_StateClasses.l2 k4 cj ai aq (wrap64 (af + 1)) al ac ae) = some r := by (rw [aZ]; with_reducible exact H)
               have b4 := A_ aZ; clear aZ
               have H' := A_ H
               clear H; have cr := bq3 aa.o; obtain ⟨bI, cd, cK⟩ := Kd.R_slice aG.o; subst cK
               go_wp2_with (first | ((with_reducible refine gate_builtin (b := .append) (xs := #[.tmp 73, .tmp 75]) rfl ?_); at_builtin; refine Kd.S_append (Kd.slice 3 (Kd.int .i64)) (w0 := w) w.heap.size rfl (.tmp 73) (.tmp 75) 22 23 (.slice none 0 0) 24 rfl Try.underlying22 info23 rfl (by decide) (by omega) u3 ap ar [.slice bI ar.length cd] (o1 (.slice (some ao) ai.length aD)) (fun k_ => some k_ = (.slice bI ar.length cd : Value).ownBlock) rfl rfl ?aP (fun k_ hk_ => ((Kd.R_mono (ok' := fun k_ => ((o1 (.slice (some ao) ai.length aD))) k_ ∧ some k_ ≠ (u3 : Value).ownBlock) (Kd.R_apart' (aG.o) (Kd.S_typed ah.o) (by decide)) (fun k_ hk => ⟨hk.1, hk.2⟩))).1 k_ hk_.symm) ?aF ?aO ?aB ?aS ?aL ?_; (case aP => exact Kd.M_row (Kd.R_mono (Kd.R_tight rfl (Kd.R_mono (ok' := fun k_ => ((o1 (.slice (some ao) ai.length aD))) k_ ∧ some k_ ≠ (u3 : Value).ownBlock) (Kd.R_apart' (aG.o) (Kd.S_typed ah.o) (by decide)) (fun k_ hk => ⟨hk.1, hk.2⟩))) (fun _ h_ => h_))); (case aB => exact HB.o); (case aF => exact (fun k_ hk => Kd.fresh' (Kd.R_lt ak.o) k_ hk)); (case aO => exact (by exact Kd.S_mono ah.o (fun k_ hk => ⟨hk.1, fun e_ => hk.2 e_⟩))); (case aS => exact (below_size HB.o)); (case aL => have := bW.o; omega); intro dp w44 ho hb hg hat; rw [← b4.o] at ho; replace ak := A_ (Kd.R_over' ak.o (Kd.S_typed ah.o) (by decide) hg); replace aa := gS_ ah aa hg; replace HB := A_ (hb); have bT := A_ (ho); clear ah aG; clear ho hb hg hat))
               go_roundg k4
               case measure => have := bl.o; have := bF.o; have := bG.o; have := cm.o; omega
               case rel => exact ⟨(cj), (wrap64 (af + 1)), (by rfl), H', ⟨by have := bl.o; have := bF.o; have := bG.o; have := cm.o; omega⟩, ⟨bT.o⟩, ⟨by exact Kd.R_mono ak.o (fun _ hk => trivial)⟩, ⟨aa.o⟩, ⟨HB.o⟩⟩
              rw [if_neg c42] at H
              cases H
           rw [if_neg c27] at H
           cases H
          rw [if_neg c26] at H
          cases H
         rw [if_neg c25] at H; have bn := decide_eq_false c25; clear c25; replace H := bA_ H; obtain ⟨bi, A46, H⟩ := H
         have H' := A_ H
         clear H; have cv := bq3 aa.o; obtain ⟨dc, de, cL⟩ := Kd.S_slice ah.o; subst cL
         go_wp2_with (first | ((with_reducible refine gc_ 54 rfl ?_); refine cM_ E54 78 (spec_l4Number.calls k3 _ _ ap bi _ ((Kd.S_reads' ah.o).2.2) ((Kd.S_reads' ah.o).2.1) A46.o) ?_; rintro e w49 ⟨dl, rfl, ho0, hb⟩; refine ⟨_, rfl, ?_⟩; replace ah := A_ (Kd.S_elder' ah.o (Kd.R_base ho0) hb); have bQ := A_ (Kd.R_lower (Kd.R_new' ho0 (Kd.R_lt ak.o)) (below_size HB.o)); replace ak := A_ (Kd.R_elder' ak.o (Kd.R_base ho0) hb); replace aa := bb_ aa hb; replace HB := bs_ HB hb; clear hb; (try clear ho0)))
         go_roundg k3
         case measure => have := bl.o; have := bF.o; have := bG.o; omega
         case rel => exact ⟨(bi), (wrap64 (aq + 1)), (by rfl), H', ⟨by have := bl.o; have := bF.o; have := bG.o; omega⟩, ⟨by exact Kd.R_mono bQ.o (fun _ hk => trivial)⟩, ⟨aa.o⟩, ⟨HB.o⟩⟩
      rw [if_neg c21] at H; have bm := decide_eq_false c21; clear c21; obtain rfl := Option.some.inj H; have cw := bq3 aa.o
      go_wp2
      go_ret
      exact ⟨_, by rfl, ak.o, HB.o⟩
 replace c3 := Bool.eq_false_iff.mpr c3; subst c3; rw [if_neg nf_] at H; obtain ⟨cN, aQ⟩ := ex_ ((([] : List Int)) : List Int); replace H : (some cN) = some r := by (rw [aQ]; with_reducible exact H)
 have bX := A_ aQ; clear aQ; obtain rfl := Option.some.inj H; go_enter Try.func42, Try.ntmps42
 go_wp2_with (first | ((with_reducible refine gate_dst (N := 1) rfl ?_); refine box_event rfl (N := 1) rfl (cs := #[.int .i64 al, .slice ay ac.length aA, .slice az ae.length aC]) (t := 32) (by go_simp; done) ?_; intro aE hg w51 hbox hb; have aa := A_ (hbox); have bK := A_ (lg_ (below_size HB.o) hg); have bJ := A_ (lg_ (below_size HB.o) hg); replace HB := bs_ HB hb; clear hb hbox hg; have cx := bq3 aa.o) | ((with_reducible refine gc_ 51 rfl ?_); refine cM_ E51 11 (spec_IsSequence.calls k al _ _ ac _ _ ae false _ (Kd.C_below aK.o HB.o) bj.o (Kd.C_below aM.o HB.o) bk.o A2.o) ?_; rintro e w53 ⟨rfl, hb⟩; refine ⟨_, rfl, ?_⟩; replace aa := bb_ aa hb; replace HB := bs_ HB hb; clear hb; (try clear hi)) | ((with_reducible refine gd_ 13 rfl ?_); refine RL_ 13 3 [] [] rfl rfl (by go_simp; done) rfl rfl ?_; rintro df w54 bu hb - -; (rw [← bX.o] at bu); have bL := A_ (Kd.R_lower bu (below_size HB.o)); replace aa := bb_ aa hb; replace HB := bs_ HB hb; clear hb bu))
 go_ret
 exact ⟨_, by rfl, bL.o, HB.o⟩

end Go.Proofs.Ytgmfjcckmapkbaa.PFnExactCountingForm

