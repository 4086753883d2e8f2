/- Walks of the functions that the law reaches. -/
import Derived.Test.YtgmfjcckmapkbaaPFnExactPrefixSumx10
import Derived.Test.YtgmfjcckmapkbaaPFnExactPrefixSumx11
namespace Go.Proofs.Ytgmfjcckmapkbaa.PFnExactPrefixSum
open Go.RowKit Go.Proofs.YtgmfjcckmapkbaaW.PrintWords Go.Proofs.YtgmfjcckmapkbaaW.PrintLast Go.Proofs.YtgmfjcckmapkbaaW.PrintMore
attribute [local go_sem] max2_int min2_int max_two min_two max_three min_three max_four min_four
set_option linter.unusedVariables false
set_option maxHeartbeats 8000000
set_option maxRecDepth 100000
set_option linter.unusedSimpArgs false

mutual
def spec_EvaluateLinear.j0 : Nat → Int → Bool → Int → List Int → List (List (List Int)) → List Int → Option (Int)
 | 0, _, _, _, _, _, _ => none
 | k + 1, x1, dO, al, ag, ae, ah => if dO = true then (some 0) else ((some (([] : List Int) : List Int)).bind fun aQ => (if aQ.length + ag.length < 17592186044416 then ((spec_DigitsOf.f k x1 al).bind fun aN => (spec_EvaluateLinear.l0 k (aQ ++ ag) aN 0 al ag ae ah)) else (none)))
def spec_EvaluateLinear.l0 : Nat → List Int → List Int → Int → Int → List Int → List (List (List Int)) → List Int → Option (Int)
 | 0, _, _, _, _, _, _, _ => none
 | k + 1, x5, x6, x7, al, ag, ae, ah => if x7 < (x6.length : Int) then (if 0 ≤ (x5.length : Int) then (if ((x5.length : Int) : Int).toNat ≤ 35184372088832 then (spec_EvaluateLinear.l1 k x5 x6 x7 (List.replicate ((x5.length : Int) : Int).toNat 0) 0 al ag ae ah) else (none)) else (none)) else (spec_EvaluateLinear.l3 k x5 0 0 al ag ae ah)
def spec_EvaluateLinear.l1 : Nat → List Int → List Int → Int → List Int → Int → Int → List Int → List (List (List Int)) → List Int → Option (Int)
 | 0, _, _, _, _, _, _, _, _, _ => none
 | k + 1, x5, x6, x7, x8, x9, al, ag, ae, ah => if x9 < (x5.length : Int) then (spec_EvaluateLinear.l2 k x5 x6 x7 x8 x9 0 al ag ae ah) else (spec_EvaluateLinear.l0 k x8 x6 (wrap64 (x7 + 1)) al ag ae ah)
def spec_EvaluateLinear.l2 : Nat → List Int → List Int → Int → List Int → Int → Int → Int → List Int → List (List (List Int)) → List Int → Option (Int)
 | 0, _, _, _, _, _, _, _, _, _, _ => none
 | k + 1, x5, x6, x7, x8, x9, cd, al, ag, ae, ah => if cd < (x5.length : Int) then (if 0 ≤ x9 then (if x9 < (x8.length : Int) then (if 0 ≤ cd then (if 0 ≤ x7 then (if x7 < (x6.length : Int) then (if 0 ≤ (rd x6 x7) then (if (rd x6 x7) < (ae.length : Int) then (if cd < ((rd_L2 ae (rd x6 x7)).length : Int) then (if x9 < ((rd_L1 (rd_L2 ae (rd x6 x7)) cd).length : Int) then (spec_EvaluateLinear.l2 k x5 x6 x7 (x8.set (x9 : Int).toNat (wrap64 ((rd x8 x9) + (wrap64 ((rd x5 cd) * (rd (rd_L1 (rd_L2 ae (rd x6 x7)) cd) x9)))))) x9 (wrap64 (cd + 1)) al ag ae ah) else (none)) else (none)) else (none)) else (none)) else (none)) else (none)) else (none)) else (none)) else (none)) else (spec_EvaluateLinear.l1 k x5 x6 x7 x8 (wrap64 (x9 + 1)) al ag ae ah)
def spec_EvaluateLinear.l3 : Nat → List Int → Int → Int → Int → List Int → List (List (List Int)) → List Int → Option (Int)
 | 0, _, _, _, _, _, _, _ => none
 | k + 1, x5, dz, ce, al, ag, ae, ah => if ce < (x5.length : Int) then (if 0 ≤ ce then (if ce < (ah.length : Int) then (spec_EvaluateLinear.l3 k x5 (wrap64 (dz + (wrap64 ((rd x5 ce) * (rd ah ce))))) (wrap64 (ce + 1)) al ag ae ah) else (none)) else (none)) else (some dz)
end
def spec_EvaluateLinear.f (k : Nat) (ao : Int) (ai : List Int) (ac : List (List (List Int))) (ak : List Int) (a1 : Int) : Option (Int) := (spec_IsLinear.f k ao ai ac ak).bind fun cc => (if cc = true then (if a1 < 0 then (spec_EvaluateLinear.j0 k a1 true ao ai ac ak) else ((spec_PowerOf.f k ao 16).bind fun bB => (spec_EvaluateLinear.j0 k a1 (decide (a1 ≥ bB)) ao ai ac ak))) else (spec_EvaluateLinear.j0 k a1 true ao ai ac ak))
def spec_EvaluateLinear.T15 : Bool × List (List Nat × List Nat) := (true, [([], []), ([], []), ([], []), ([], []), ([2, 3], [2, 3]), ([4], [4]), ([], []), ([], []), ([6, 7], [6, 7]), ([8], [8]), ([], []), ([10], [10]), ([], []), ([], []), ([12, 13], [12, 13]), ([14], [14]), ([11, 15], [11, 15]), ([16], [16]), ([], []), ([17, 18], [17, 18]), ([19], [19]), ([], []), ([20, 21], [20, 21]), ([22], [22]), ([9, 23], [9, 23]), ([5, 24], [5, 24]), ([0, 1, 0, 1, 2, 3, 4, 5, 6, 7, 8, 9, 10, 11, 12, 13, 14, 15, 16, 17, 18, 19, 20, 21, 22, 23, 24, 25], [0, 1]), ([26, 25, 0, 1, 2, 3, 4, 5, 6, 7, 8, 9, 10, 11, 12, 13, 14, 15, 16, 17, 18, 19, 20, 21, 22, 23, 24, 25], [25, 26])])
def spec_EvaluateLinear.B15 : List Nat := [0, 0, 0, 0, 12, 28, 0, 0, 192, 448, 0, 1024, 0, 0, 12288, 28672, 64512, 130048, 0, 523264, 1047552, 0, 4193280, 8387584, 16777152, 33554428, 67108863, 134217727]
theorem spec_EvaluateLinear.tab15 : rtab .any (opsOf Try.f38 15) = spec_EvaluateLinear.T15 := by kernel_rfl
theorem spec_EvaluateLinear.bits15 : waitsOk spec_EvaluateLinear.T15.2 spec_EvaluateLinear.B15 = true := by kernel_rfl
def spec_EvaluateLinear.T21 : Bool × List (List Nat × List Nat) := (true, [([], []), ([], []), ([], []), ([1, 2], [1, 2]), ([3], [3]), ([], []), ([5], [5]), ([], []), ([6, 7], [6, 7]), ([8], [8]), ([4, 9], [4, 9]), ([0, 10], [0, 10]), ([11, 0, 1, 2, 3, 4, 5, 6, 7, 8, 9, 10, 11], [0, 11])])
def spec_EvaluateLinear.B21 : List Nat := [0, 0, 0, 6, 14, 0, 32, 0, 224, 480, 1022, 2047, 4095]
theorem spec_EvaluateLinear.tab21 : rtab .any (opsOf Try.f38 21) = spec_EvaluateLinear.T21 := by kernel_rfl
theorem spec_EvaluateLinear.bits21 : waitsOk spec_EvaluateLinear.T21.2 spec_EvaluateLinear.B21 = true := by kernel_rfl
theorem spec_EvaluateLinear.calls (k : Nat) (ao : Int) (aE : Option Addr) (aG : Nat) (ai : List Int) (aJ : Option Addr) (aH : Nat) (ac : List (List (List Int))) (aK : Option Addr) (aI : Nat) (ak : List Int) (a1 : Int) (r : Int) (w : World) (bN : Kd.C (Kd.int .i64) w aE ai.length ai) (bK : ai.length ≤ aG) (bO : Kd.C (Kd.slice 23 (Kd.slice 3 (Kd.int .i64))) w aJ ac.length ac) (bL : ac.length ≤ aH) (bP : Kd.C (Kd.int .i64) w aK ak.length ak) (bM : ak.length ≤ aI) (h : spec_EvaluateLinear.f k ao ai ac ak a1 = some r) :
  Calls Try.prog 38 #[.agg #[.int .i64 ao, .slice aE ai.length aG, .slice aJ ac.length aH, .slice aK ak.length aI], .int .i64 a1] w fun e w' => e = .returned (.int .i64 r) ∧ Below w.heap.size w w' := by
 have hu29 := Try.underlying29; have aU := A_ bN; have bk := A_ bK; clear bN bK; have aV := A_ bO; have bl := A_ bL; clear bO bL; have aW := A_ bP; have bm := A_ bM; clear bP bM; have HB := A_ (Below.refl w.heap.size w); unfold spec_EvaluateLinear.f at h; have H := h; clear h; have HC3 := A_ H; clear H; go_enter Try.func38, Try.ntmps38
 go_upto_region 1 with (first | ((with_reducible refine gate_dst (N := 2) rfl ?_); refine box_event rfl (N := 2) rfl (cs := #[.int .i64 ao, .slice aE ai.length aG, .slice aJ ac.length aH, .slice aK ak.length aI]) (t := 29) (by go_simp; done) ?_; intro au hg w4 hbox hb; have aa := A_ (hbox); have dk := A_ (lg_ (below_size HB.o) hg); have bC := A_ (lg_ (below_size HB.o) hg); replace HB := bs_ HB hb; clear hb hbox hg))
 (try simp only [Act.put, mD, mE, mF])
 go_cut [26] (fun dM wc => ∃ (kq : Nat) (be : Bool), dM = .bool be ∧ Aside0 (spec_EvaluateLinear.j0 kq a1 be ao ai ac ak = some r) ∧ Aside0 (kq ≤ k) ∧ Aside0 (wc.heap[au]? = some (.cells #[.int .i64 ao, (.slice aE ai.length aG), (.slice aJ ac.length aH), (.slice aK ak.length aI)] 29 (0, 0))) ∧ Aside0 (Below w.heap.size w wc))
 case first =>
  have H := HC3.o; clear HC3; replace H := bA_ H; obtain ⟨cc, A5, H⟩ := H
  by_cases c6 : cc = true
  ·subst c6; rw [if_pos rfl] at H
   by_cases c7 : a1 < 0
   ·rw [if_pos c7] at H; have cQ := decide_eq_true c7; clear c7
    (skip)
    have H' := A_ H
    clear H; have dg := bq4 aa.o
    go_wp2_with (first | ((with_reducible refine gc_ 46 rfl ?_); refine cM_ E46 14 (spec_IsLinear.calls k ao _ _ ai _ _ ac _ _ ak true _ (Kd.C_below aU.o HB.o) bk.o (Kd.C_below aV.o HB.o) bl.o (Kd.C_below aW.o HB.o) bm.o A5.o) ?_; rintro e w9 ⟨rfl, hb⟩; refine ⟨_, rfl, ?_⟩; replace aa := bb_ aa hb; replace HB := bs_ HB hb; clear hb; (try clear hi)))
    go_meet
    case rel => exact ⟨_, (true), (by rfl), H', ⟨by omega⟩, ⟨aa.o⟩, ⟨HB.o⟩⟩
   rw [if_neg c7] at H; have cQ := decide_eq_false c7; clear c7
   (skip)
   replace H := bA_ H; obtain ⟨bB, A10, H⟩ := H
   have H' := A_ H
   clear H; have cK := bq4 aa.o
   go_wp2_with (first | ((with_reducible refine gc_ 46 rfl ?_); refine cM_ E46 14 (spec_IsLinear.calls k ao _ _ ai _ _ ac _ _ ak true _ (Kd.C_below aU.o HB.o) bk.o (Kd.C_below aV.o HB.o) bl.o (Kd.C_below aW.o HB.o) bm.o A5.o) ?_; rintro e w12 ⟨rfl, hb⟩; refine ⟨_, rfl, ?_⟩; replace aa := bb_ aa hb; replace HB := bs_ HB hb; clear hb; have cL := bq4 aa.o) | (go_at_call 37; (with_reducible refine (spec_PowerOf.calls k ao 16 bB _ A10.o).mono ?_); rintro e w' ⟨rfl, ⟨nd, rfl⟩⟩))
   go_meet
   case rel => exact ⟨_, (decide (a1 ≥ bB)), (by rfl), H', ⟨by omega⟩, ⟨by (with_reducible repeat (first | refine blk_drewN ?_ _ | refine blk_drew ?_ | refine blk_alloc ?_ _)); exact aa.o⟩, ⟨by repeat (first | (with_reducible first | exact HB.o | apply below_alloc | apply pw_below_drewN | apply below_drew1 | refine below_set ?_ bC.o) | exact HB.o)⟩⟩
  replace c6 := Bool.eq_false_iff.mpr c6; subst c6; rw [if_neg nf_] at H
  have H' := A_ H
  clear H; have cN := bq4 aa.o
  go_wp2_with (first | ((with_reducible refine gc_ 46 rfl ?_); refine cM_ E46 14 (spec_IsLinear.calls k ao _ _ ai _ _ ac _ _ ak false _ (Kd.C_below aU.o HB.o) bk.o (Kd.C_below aV.o HB.o) bl.o (Kd.C_below aW.o HB.o) bm.o A5.o) ?_; rintro e w15 ⟨rfl, hb⟩; refine ⟨_, rfl, ?_⟩; replace aa := bb_ aa hb; replace HB := bs_ HB hb; clear hb; (try clear hi)))
  go_meet
  case rel => exact ⟨_, (true), (by rfl), H', ⟨by omega⟩, ⟨aa.o⟩, ⟨HB.o⟩⟩
 case rest =>
  clear HC3; obtain ⟨kq, be, rfl, HA, bD, aa, HB⟩ := hcut
  cases kq with
  | zero => exact nz_ HA.o
  | succ kj2 =>
   have H := HA.o; clear HA; simp only [spec_EvaluateLinear.j0] at H
   by_cases c16 : be = true
   ·subst c16; rw [if_pos rfl] at H; obtain rfl := Option.some.inj H
    go_wp2
    go_ret
    exact ⟨by rfl, HB.o⟩
   replace c16 := Bool.eq_false_iff.mpr c16; subst c16; rw [if_neg nf_] at H; obtain ⟨aQ, bs⟩ := ex_ ((([] : List Int)) : List Int); replace H : (if aQ.length + ai.length < 17592186044416 then ((spec_DigitsOf.f kj2 a1 ao).bind fun aN => (spec_EvaluateLinear.l0 kj2 (aQ ++ ai) aN 0 ao ai ac ak)) else (none)) = some r := by (have H2_ := (Option.bind_some _ _).symm.trans H; rw [bs]; with_reducible exact H2_)
   have ci := A_ bs; clear bs
   by_cases c17 : aQ.length + ai.length < 17592186044416
   ·rw [if_pos c17] at H; have ch := A_ c17; clear c17; obtain ⟨cE, bt⟩ := ex_ ((aQ ++ ai) : List Int); replace H : ((spec_DigitsOf.f kj2 a1 ao).bind fun aN => (spec_EvaluateLinear.l0 kj2 cE aN 0 ao ai ac ak)) = some r := by (rw [bt]; with_reducible exact H)
    have cj := A_ bt; clear bt; replace H := bA_ H; obtain ⟨aN, A18, H⟩ := H
    have H' := A_ H
    clear H
    go_wp2_with (first | ((with_reducible refine gd_ 27 rfl ?_); refine RL_ 27 3 [] [] rfl rfl (by go_simp; done) rfl rfl ?_; rintro dj w19 bU hb - -; (rw [← ci.o] at bU); have bn := A_ (Kd.R_lower bU (below_size HB.o)); replace aa := bb_ aa hb; replace HB := bs_ HB hb; clear hb bU; have bz := bq4 aa.o) | ((with_reducible refine gate_builtin (b := .append) (xs := #[.tmp 27, .tmp 29]) rfl ?_); at_builtin; refine Kd.R_append_rows (Kd.int .i64) (w0 := w) w.heap.size rfl (.tmp 27) (.tmp 29) 23 3 (.int .i64 0) 8 rfl Try.underlying23 info3 rfl (by decide) (by omega) dj aQ ai _ _ _ (fun _ => True) (fun _ => False) rfl rfl ?aO ?aR (fun _ _ h => h) (fun _ h => h.elim) ?aF ?aB ?aS ?aL ?_; (case aR => exact (Kd.C_below aU.o HB.o)); (case aB => exact HB.o); (case aF => exact (fun _ _ => trivial)); (case aO => exact bn.o); (case aS => exact (below_size HB.o)); (case aL => have := ch.o; omega); intro dN w22 ho hb hg hat; rw [← cj.o] at ho; replace aa := gR_ bn aa hg; replace HB := A_ (hb); have aT := A_ (ho); clear bn; clear ho hb hg hat; have bA := bq4 aa.o) | ((with_reducible refine gc_ 47 rfl ?_); refine cM_ E47 34 (spec_DigitsOf.calls kj2 a1 ao aN _ A18.o) ?_; rintro e w24 ⟨cD, rfl, ho0, hb⟩; refine ⟨_, rfl, ?_⟩; have cf := A_ (Kd.R_lower (Kd.R_new' ho0 (Kd.R_lt aT.o)) (below_size HB.o)); replace aT := A_ (Kd.R_elder' aT.o (Kd.R_base ho0) hb); replace aa := bb_ aa hb; replace HB := bs_ HB hb; clear hb; (try clear ho0)))
    go_loopg [5, 7] kj2 (fun kq v5 v7 w' => ∃ (am : List Int) (af : List Int) (an : Int), v7 = .int .i64 an ∧ Aside0 (spec_EvaluateLinear.l0 kq am af an ao ai ac ak = some r) ∧ Aside0 (kq ≤ kj2) ∧ Aside0 (Kd.R (Kd.int .i64) 3 w' w.heap.size (o1 cD) v5 am) ∧ Aside0 (Kd.R (Kd.int .i64) 3 w' w.heap.size (o1 v5) cD af) ∧ Aside0 (w'.heap[au]? = some (.cells #[.int .i64 ao, (.slice aE ai.length aG), (.slice aJ ac.length aH), (.slice aK ak.length aI)] 29 (0, 0))) ∧ Aside0 (Below w.heap.size w w'))
    case atStart => exact ⟨(cE), (aN), (0), (by rfl), H', ⟨Nat.le_refl _⟩, ⟨by exact Kd.R_mono aT.o (fun _ hk => hk.2)⟩, ⟨by exact Kd.R_mono cf.o (fun _ hk => hk.2)⟩, ⟨aa.o⟩, ⟨HB.o⟩⟩
    case round =>
     clear H'
     clear bz bA
     obtain ⟨am, af, an, rfl, HA, bE, aq, aw, aa, HB⟩ := hrel
     cases gk with
     | zero => exact nz_ HA.o
     | succ k2 =>
      have H := HA.o; clear HA; simp only [spec_EvaluateLinear.l0] at H
      by_cases c25 : an < (af.length : Int)
      ·rw [if_pos c25] at H; have bp := decide_eq_true c25; clear c25
       by_cases c26 : 0 ≤ (am.length : Int)
       ·rw [if_pos c26] at H; have cq := eq_true c26; have cr := decide_eq_true c26; clear c26
        by_cases c27 : ((am.length : Int) : Int).toNat ≤ 35184372088832
        ·rw [if_pos c27] at H; have cv := eq_true c27; have cw := decide_eq_true c27; clear c27; obtain ⟨cF, bu⟩ := ex_ ((List.replicate ((am.length : Int) : Int).toNat 0) : List Int); replace H : (spec_EvaluateLinear.l1 k2 am af an cF 0 ao ai ac ak) = some r := by (rw [bu]; with_reducible exact H)
         have ck := A_ bu; clear bu
         have H' := A_ H
         clear H; obtain ⟨bf, bh, db⟩ := Kd.R_slice aw.o; subst db; obtain ⟨bg, bi, dc⟩ := Kd.R_slice aq.o; subst dc
         go_wp2_with (first | ((with_reducible refine gate_dst (N := 43) rfl ?_); refine Kd.R_make (Kd.int .i64) _ 3 rfl (N := 43) rfl 23 _ _ rfl (am.length : Int) rfl rfl Try.underlying23 (.int .i64 0) 8 info3 rfl (by decide) (by omega) 0 (ok := fun _ => True) (okp := fun _ => True) rfl (fun _ hk => hk) trivial oa_ (Nat.le_trans (Nat.mul_le_mul_right _ (oa_ : (am.length : Int).toNat ≤ 35184372088832)) (by omega)) (Below.refl _ _) (Nat.le_refl _) ?_; rintro bj w30 br hb - -; (rw [← ck.o] at br); have cg := A_ (Kd.R_lower (Kd.R_new' (Kd.R_new' br (Kd.R_lt aq.o)) (Kd.R_lt aw.o)) (below_size HB.o)); replace aq := A_ (Kd.R_elder' aq.o (Kd.R_base br) hb); replace aw := A_ (Kd.R_elder' aw.o (Kd.R_base br) hb); replace aa := bb_ aa hb; replace HB := bs_ HB hb; clear hb br))
         go_loopg [9] k2 (fun kq v9 w' => ∃ (bw : List Int) (aj : Int), v9 = .int .i64 aj ∧ Aside0 (spec_EvaluateLinear.l1 kq am af an bw aj ao ai ac ak = some r) ∧ Aside0 (kq ≤ k2) ∧ Aside0 (Kd.R (Kd.int .i64) 3 w' w.heap.size (o2 (.slice bf af.length bh) bj) (.slice bg am.length bi) am) ∧ Aside0 (Kd.R (Kd.int .i64) 3 w' w.heap.size (o2 (.slice bg am.length bi) bj) (.slice bf af.length bh) af) ∧ Aside0 (Kd.R (Kd.int .i64) 3 w' w.heap.size (o2 (.slice bg am.length bi) (.slice bf af.length bh)) bj bw) ∧ Aside0 (w'.heap[au]? = some (.cells #[.int .i64 ao, (.slice aE ai.length aG), (.slice aJ ac.length aH), (.slice aK ak.length aI)] 29 (0, 0))) ∧ Aside0 (Below w.heap.size w w'))
         case atStart => exact ⟨(cF), (0), (by rfl), H', ⟨Nat.le_refl _⟩, ⟨aq.o⟩, ⟨aw.o⟩, ⟨by exact Kd.R_mono cg.o (fun _ hk => ⟨hk.1.2, hk.2⟩)⟩, ⟨aa.o⟩, ⟨HB.o⟩⟩
         case round =>
          clear H'
          clear bp cq cr cv cw
          obtain ⟨bw, aj, rfl, HA, bx, aq, aw, aC, aa, HB⟩ := hrel
          cases gk with
          | zero => exact nz_ HA.o
          | succ k3 =>
           have H := HA.o; clear HA; simp only [spec_EvaluateLinear.l1] at H
           by_cases c32 : aj < (am.length : Int)
           ·rw [if_pos c32] at H; have bJ := decide_eq_true c32; clear c32
            have H' := A_ H
            clear H
            go_wp2
            go_loopg [10] k3 (fun kq dJ w' => ∃ (aD : List Int) (ab : Int), dJ = .int .i64 ab ∧ Aside0 (spec_EvaluateLinear.l2 kq am af an aD aj ab ao ai ac ak = some r) ∧ Aside0 (kq ≤ k3) ∧ Aside0 (Kd.R (Kd.int .i64) 3 w' w.heap.size (o2 (.slice bf af.length bh) bj) (.slice bg am.length bi) am) ∧ Aside0 (Kd.R (Kd.int .i64) 3 w' w.heap.size (o2 (.slice bg am.length bi) bj) (.slice bf af.length bh) af) ∧ Aside0 (Kd.R (Kd.int .i64) 3 w' w.heap.size (o2 (.slice bg am.length bi) (.slice bf af.length bh)) bj aD) ∧ Aside0 (w'.heap[au]? = some (.cells #[.int .i64 ao, (.slice aE ai.length aG), (.slice aJ ac.length aH), (.slice aK ak.length aI)] 29 (0, 0))) ∧ Aside0 (Below w.heap.size w w'))
            case atStart => exact ⟨(bw), (0), (by rfl), H', ⟨Nat.le_refl _⟩, ⟨aq.o⟩, ⟨aw.o⟩, ⟨aC.o⟩, ⟨aa.o⟩, ⟨HB.o⟩⟩
            case round =>
             clear H'
             try clear bJ
             obtain ⟨aD, ab, rfl, HA, cJ, aq, aw, aC, aa, HB⟩ := hrel
             cases gk with
             | zero => exact nz_ HA.o
             | succ k4 =>
              have H := HA.o; clear HA; simp only [spec_EvaluateLinear.l2] at H
              by_cases c33 : ab < (am.length : Int)
              ·rw [if_pos c33] at H; have cx := decide_eq_true c33; clear c33
               by_cases c34 : 0 ≤ aj
               ·rw [if_pos c34] at H; have dm := decide_eq_true c34; clear c34
                by_cases c35 : aj < (aD.length : Int)
                ·rw [if_pos c35] at H; have dn := decide_eq_true c35; clear c35
                 by_cases c36 : 0 ≤ ab
                 ·rw [if_pos c36] at H; have dp := decide_eq_true c36; clear c36
                  by_cases c37 : 0 ≤ an
                  ·rw [if_pos c37] at H; have dq := decide_eq_true c37; clear c37
                   by_cases c38 : an < (af.length : Int)
                   ·rw [if_pos c38] at H; have dr := decide_eq_true c38; clear c38
                    by_cases c39 : 0 ≤ (rd af an)
                    ·rw [if_pos c39] at H; have dt := decide_eq_true c39; clear c39
                     by_cases c40 : (rd af an) < (ac.length : Int)
                     ·rw [if_pos c40] at H; have du := decide_eq_true c40; clear c40
                      by_cases c41 : ab < ((rd_L2 ac (rd af an)).length : Int)
                      ·rw [if_pos c41] at H; have dv := decide_eq_true c41; clear c41
                       by_cases c42 : aj < ((rd_L1 (rd_L2 ac (rd af an)) ab).length : Int)
                       ·rw [if_pos c42] at H; have dw := decide_eq_true c42; clear c42; obtain ⟨cG, bv⟩ := ex_ ((aD.set (aj : Int).toNat (wrap64 ((rd aD aj) + (wrap64 ((rd am ab) * (rd (rd_L1 (rd_L2 ac (rd af an)) ab) aj)))))) : List Int); replace H : (spec_EvaluateLinear.l2 k4 am af an cG aj (wrap64 (ab + 1)) ao ai ac ak) = some r := by (rw [bv]; with_reducible exact H)
                        have cm := A_ bv; clear bv
                        have H' := A_ H
                        clear H
                        try go_wp2
                        replace aq := A_ (Kd.R_drew aq.o); replace aw := A_ (Kd.R_drew aw.o); replace aC := A_ (Kd.R_drew aC.o); replace aa := A_ (blk_drew aa.o); replace HB := A_ (below_drew1 HB.o); obtain ⟨dA, dF, cB⟩ := Kd.R_slice aC.o
                        (first | subst cB | (injection cB with f1_ f2_ f3_; have f4_ := f1_.symm; have f5_ := f3_.symm; clear f1_ f2_ f3_; subst f4_; subst f5_))
                        have bW : 0 ≤ (aj : Int) := oa_
                        have b4 : aj < (aD.length : Int) := oa_
                        obtain ⟨dl, cS, aM⟩ := Kd.at_int (Kd.R_reads' aC.o).2.2 aj bW b4
                        cases cS
                        replace bW := eq_true bW; replace b4 := eq_true b4
                        have bX : 0 ≤ (ab : Int) := oa_
                        have b5 : ab < (am.length : Int) := oa_
                        obtain ⟨cn, cU, ba⟩ := Kd.at_int (Kd.R_reads' aq.o).2.2 ab bX b5
                        cases cU
                        replace bX := eq_true bX; replace b5 := eq_true b5
                        have bY : 0 ≤ (an : Int) := oa_
                        have b6 : an < (af.length : Int) := oa_
                        obtain ⟨co, cV, bb⟩ := Kd.at_int (Kd.R_reads' aw.o).2.2 an bY b6
                        cases cV
                        replace bY := eq_true bY; replace b6 := eq_true b6
                        have bZ : 0 ≤ ((rd af an) : Int) := oa_
                        have b7 : (rd af an) < (ac.length : Int) := oa_
                        obtain ⟨bF, cO, bR, cW, ax, a4, aZ⟩ := at_L2 aV.o (rd af an) bZ b7; have a6 := ax
                        cases cW
                        replace ax := (HB.o.cell (World.block_lt_of_cell? w _ ax)).trans ax; have aX := A_ aZ; have cH := A_ a4; clear aZ a4; replace bZ := eq_true bZ; replace b7 := eq_true b7
                        have b0 : 0 ≤ (ab : Int) := oa_
                        have b8 : ab < ((rd_L2 ac (rd af an)).length : Int) := oa_
                        obtain ⟨bG, cP, bS, cX, ay, a5, a3⟩ := at_L1 aX.o ab b0 b8; have a7 := ay
                        cases cX
                        replace ay := (HB.o.cell (World.block_lt_of_cell? w _ ay)).trans ay; have aY := A_ a3; have cI := A_ a5; clear a3 a5; replace b0 := eq_true b0; replace b8 := eq_true b8
                        have b1 : 0 ≤ (aj : Int) := oa_
                        have b9 : aj < ((rd_L1 (rd_L2 ac (rd af an)) ab).length : Int) := oa_
                        obtain ⟨bH, cY, az⟩ := Kd.at_int aY.o aj b1 b9; have a8 := az
                        cases cY
                        replace az := (HB.o.cell (World.block_lt_of_cell? w _ az)).trans az; replace b1 := eq_true b1; replace b9 := eq_true b9
                        have dh : 0 ≤ (aj : Int) := oa_
                        have di : (aj : Int) < ((aD.length : Int) : Int) := oa_
                        obtain ⟨bq, dE, cA, cC, gl43, cl43, HG43⟩ := Kd.R_form aC.o (by omega)
                        (first | cases cA | (injection cA with ea_ en_ ec_; (first | subst ea_ | (injection ea_ with ea_; subst ea_)); subst ec_; clear en_))
                        have GB43 := A_ cC; have GG43 := A_ HG43; clear cC gl43 HG43
                        (first | simp only [add_plain] at aM | skip)
                        obtain ⟨bV, bT⟩ := Kd.R_celln 0 aC.o (aj : Int) dh di; replace dh := eq_true dh; replace di := eq_true di; have bQ := Kd.R_putn aC.o (aj : Int) (wrap64 ((rd aD aj) + (wrap64 ((rd am ab) * (rd (rd_L1 (rd_L2 ac (rd af an)) ab) aj))))); rw [← cm.o] at bQ; have HQ46 := A_ bQ; clear bQ; refine start_ (n := 28) (S := fun w' => w'.cell? ⟨au, 0, none⟩ = some (.int .i64 ao) ∧ w'.cell? ⟨au, 1, none⟩ = some (.slice aE ai.length aG) ∧ w'.cell? ⟨au, 2, none⟩ = some (.slice (some bF) ac.length aH) ∧ w'.cell? ⟨au, 3, none⟩ = some (.slice aK ak.length aI) ∧ w'.cell? ⟨bq, (aj).toNat, none⟩ = some (.int .i64 (rd aD aj)) ∧ w'.cell? (cn.add (ab).toNat) = some (.int .i64 (rd am ab)) ∧ w'.cell? (co.add (an).toNat) = some (.int .i64 (rd af an)) ∧ w'.cell? (bF.add ((rd af an)).toNat) = some (.slice (some bG) (rd_L2 ac (rd af an)).length bR) ∧ w'.cell? (bG.add (ab).toNat) = some (.slice (some bH) (rd_L1 (rd_L2 ac (rd af an)) ab).length bS) ∧ w'.cell? (bH.add (aj).toNat) = some (.int .i64 (rd (rd_L1 (rd_L2 ac (rd af an)) ab) aj))) (ds := [27]) (mk_ 28 0) (by kernel_rfl) rfl rfl ⟨bz0 aa.o, bz1 aa.o, bz2 aa.o, bz3 aa.o, aM, ba, bb, ((HB.o.cell (World.block_lt_of_cell? w _ a6)).trans a6), ((HB.o.cell (World.block_lt_of_cell? w _ a7)).trans a7), ((HB.o.cell (World.block_lt_of_cell? w _ a8)).trans a8)⟩ (fun av => ?_); refine with_tabW spec_EvaluateLinear.tab15 spec_EvaluateLinear.bits15 (fun ar bo => ?_)
                        generalize wr.drew = w44 at aq aw aC aa HB GG43 HQ46 aX aY bT aM ba bb ax ay az bV av ⊢
                        refine pw_ 0 56 (mk_ 28 1) ar ?_; refine pw_ 1 57 (mk_ 28 3) ar ?_; refine pw_ 2 58 (mk_ 28 7) ar ?_; refine pw_ 3 59 (mk_ 28 15) ar ?_; refine pw_ 4 60 (mk_ 28 31) ar ?_; refine pw_ 6 62 (mk_ 28 95) ar ?_; refine pw_ 7 63 (mk_ 28 223) ar ?_; refine pw_ 8 64 (mk_ 28 479) ar ?_; refine pw_ 10 66 (mk_ 28 1503) ar ?_; refine pw_ 12 68 (mk_ 28 5599) ar ?_; refine pw_ 13 69 (mk_ 28 13791) ar ?_; refine pw_ 14 70 (mk_ 28 30175) ar ?_; refine pw_ 18 74 (mk_ 28 292319) ar ?_; refine pw_ 21 77 (mk_ 28 2389471) ar ?_; refine tk_ 5 61 (mk_ 28 2389503) ar bo av ?_; refine tk_ 9 65 (mk_ 28 2390015) ar bo av ?_; refine tk_ 11 67 (mk_ 28 2392063) ar bo av ?_; refine tk_ 15 71 (mk_ 28 2424831) ar bo av ?_; refine pw_ 16 72 (mk_ 28 2490367) ar ?_; refine tk_ 17 73 (mk_ 28 2621439) ar bo av ?_; refine pw_ 19 75 (mk_ 28 3145727) ar ?_; refine tk_ 20 76 (mk_ 28 4194303) ar bo av ?_; refine pw_ 22 78 (mk_ 28 8388607) ar ?_; refine tk_ 23 79 (mk_ 28 16777215) ar bo av ?_; refine pw_ 24 80 (mk_ 28 33554431) ar ?_; refine pw_ 25 81 (mk_ 28 67108863) ar ?_; refine pw_ 26 82 (mk_ 28 134217727) ar ?_; refine last_ (i := 27) (N := none) (mk_ 28 268435455) rfl rfl (one_of ar.o (by kernel_rfl)) (by decide) (fun K hK => ?_); refine skip_ (w1 := ?_) (by rfl) rfl ?_ ?_; rotate_left
                        ·go_simp
                         rfl
                        refine hK.out _ _ ?_; clear hK K; refine done_ (done_of ar.o (by kernel_rfl)) ?_
                        try go_wp2
                        go_roundg k4
                        case measure => have := bD.o; have := bE.o; have := bx.o; have := cJ.o; omega
                        case rel => exact ⟨(cG), (wrap64 (ab + 1)), (by rfl), H', ⟨by have := bD.o; have := bE.o; have := bx.o; have := cJ.o; omega⟩, ⟨by exact Kd.R_mono (Kd.R_far (p := ⟨bq, (aj : Int).toNat, none⟩) (Kd.R_mono aq.o (fun k_ hk => (⟨hk, fun e_ => hk.2 (by rw [e_]; rfl)⟩ : _ ∧ k_ ≠ bq))) (fun _ hk => hk.2) (.int .i64 (wrap64 ((rd aD aj) + (wrap64 ((rd am ab) * (rd (rd_L1 (rd_L2 ac (rd af an)) ab) aj))))))) (fun _ hk => ⟨hk.1.1, hk.1.2⟩)⟩, ⟨by exact Kd.R_mono (Kd.R_far (p := ⟨bq, (aj : Int).toNat, none⟩) (Kd.R_mono aw.o (fun k_ hk => (⟨hk, fun e_ => hk.2 (by rw [e_]; rfl)⟩ : _ ∧ k_ ≠ bq))) (fun _ hk => hk.2) (.int .i64 (wrap64 ((rd aD aj) + (wrap64 ((rd am ab) * (rd (rd_L1 (rd_L2 ac (rd af an)) ab) aj))))))) (fun _ hk => ⟨hk.1.1, hk.1.2⟩)⟩, ⟨HQ46.o⟩, ⟨by refine blk_far ?_ (by have h_ := Kd.R_ne aC.o aa.o (by decide); intro e_; exact h_ (by rw [e_]; rfl)) _; exact aa.o⟩, ⟨by repeat (first | (with_reducible first | exact HB.o | apply below_alloc | apply pw_below_drewN | apply below_drew1 | refine below_set ?_ GB43.o | refine below_set ?_ bC.o) | exact HB.o)⟩⟩
                       rw [if_neg c42] at H
                       cases H
                      rw [if_neg c41] at H
                      cases H
                     rw [if_neg c40] at H
                     cases H
                    rw [if_neg c39] at H
                    cases H
                   rw [if_neg c38] at H
                   cases H
                  rw [if_neg c37] at H
                  cases H
                 rw [if_neg c36] at H
                 cases H
                rw [if_neg c35] at H
                cases H
               rw [if_neg c34] at H
               cases H
              rw [if_neg c33] at H; have cx := decide_eq_false c33; clear c33
              have H' := A_ H
              clear H
              go_wp2
              go_roundg k4
              case measure => have := bD.o; have := bE.o; have := bx.o; have := cJ.o; omega
              case rel => exact ⟨(aD), (wrap64 (aj + 1)), (by rfl), H', ⟨by have := bD.o; have := bE.o; have := bx.o; have := cJ.o; omega⟩, ⟨aq.o⟩, ⟨aw.o⟩, ⟨aC.o⟩, ⟨aa.o⟩, ⟨HB.o⟩⟩
           rw [if_neg c32] at H; have bJ := decide_eq_false c32; clear c32
           have H' := A_ H
           clear H
           go_wp2
           go_roundg k3
           case measure => have := bD.o; have := bE.o; have := bx.o; omega
           case rel => exact ⟨(bw), (af), (wrap64 (an + 1)), (by rfl), H', ⟨by have := bD.o; have := bE.o; have := bx.o; omega⟩, ⟨by exact Kd.R_mono aC.o (fun _ hk => hk.2)⟩, ⟨by exact Kd.R_mono aw.o (fun _ hk => hk.2)⟩, ⟨aa.o⟩, ⟨HB.o⟩⟩
        rw [if_neg c27] at H
        cases H
       rw [if_neg c26] at H
       cases H
      rw [if_neg c25] at H; have bp := decide_eq_false c25; clear c25
      have H' := A_ H
      clear H; obtain ⟨dB, dG, dd⟩ := Kd.R_slice aw.o; subst dd
      go_wp2
      go_loopg [11, 12] k2 (fun kq dK dL w' => ∃ (bd : Int) (ap : Int), dK = .int .i64 bd ∧ dL = .int .i64 ap ∧ Aside0 (spec_EvaluateLinear.l3 kq am bd ap ao ai ac ak = some r) ∧ Aside0 (kq ≤ k2) ∧ Aside0 (Kd.R (Kd.int .i64) 3 w' w.heap.size (fun _ => True) u5 am) ∧ Aside0 (w'.heap[au]? = some (.cells #[.int .i64 ao, (.slice aE ai.length aG), (.slice aJ ac.length aH), (.slice aK ak.length aI)] 29 (0, 0))) ∧ Aside0 (Below w.heap.size w w'))
      case atStart => exact ⟨(0), (0), (by rfl), (by rfl), H', ⟨Nat.le_refl _⟩, ⟨by exact Kd.R_mono aq.o (fun _ hk => trivial)⟩, ⟨aa.o⟩, ⟨HB.o⟩⟩
      case round =>
       clear H'
       try clear bp
       obtain ⟨bd, ap, rfl, rfl, HA, bx, aq, aa, HB⟩ := hrel
       cases gk with
       | zero => exact nz_ HA.o
       | succ k3 =>
        have H := HA.o; clear HA; simp only [spec_EvaluateLinear.l3] at H
        by_cases c48 : ap < (am.length : Int)
        ·rw [if_pos c48] at H; have cy := decide_eq_true c48; clear c48
         by_cases c49 : 0 ≤ ap
         ·rw [if_pos c49] at H; have dx := decide_eq_true c49; clear c49
          by_cases c50 : ap < (ak.length : Int)
          ·rw [if_pos c50] at H; have dy := decide_eq_true c50; clear c50
           have H' := A_ H
           clear H; obtain ⟨dC, dH, de⟩ := Kd.R_slice aq.o; subst de
           try go_wp2
           replace aq := A_ (Kd.R_drew aq.o); replace aa := A_ (blk_drew aa.o); replace HB := A_ (below_drew1 HB.o)
           have b2 : 0 ≤ (ap : Int) := oa_
           have ca : ap < (am.length : Int) := oa_
           obtain ⟨cp, cZ, bc⟩ := Kd.at_int (Kd.R_reads' aq.o).2.2 ap b2 ca
           cases cZ
           replace b2 := eq_true b2; replace ca := eq_true ca
           have b3 : 0 ≤ (ap : Int) := oa_
           have cb : ap < (ak.length : Int) := oa_
           obtain ⟨bI, da, aA⟩ := Kd.at_int aW.o ap b3 cb; have a9 := aA
           cases da
           replace aA := (HB.o.cell (World.block_lt_of_cell? w _ aA)).trans aA; replace b3 := eq_true b3; replace cb := eq_true cb; refine start_ (n := 13) (S := fun w' => w'.cell? ⟨au, 0, none⟩ = some (.int .i64 ao) ∧ w'.cell? ⟨au, 1, none⟩ = some (.slice aE ai.length aG) ∧ w'.cell? ⟨au, 2, none⟩ = some (.slice aJ ac.length aH) ∧ w'.cell? ⟨au, 3, none⟩ = some (.slice (some bI) ak.length aI) ∧ w'.cell? (cp.add (ap).toNat) = some (.int .i64 (rd am ap)) ∧ w'.cell? (bI.add (ap).toNat) = some (.int .i64 (rd ak ap))) (ds := []) (mk_ 13 0) (by kernel_rfl) rfl rfl ⟨bz0 aa.o, bz1 aa.o, bz2 aa.o, bz3 aa.o, bc, ((HB.o.cell (World.block_lt_of_cell? w _ a9)).trans a9)⟩ (fun av => ?_); refine with_tabW spec_EvaluateLinear.tab21 spec_EvaluateLinear.bits21 (fun ar bo => ?_)
           generalize wr.drew = w52 at aq aa HB bc aA av ⊢
           refine pw_ 0 90 (mk_ 13 1) ar ?_; refine pw_ 1 91 (mk_ 13 3) ar ?_; refine pw_ 2 92 (mk_ 13 7) ar ?_; refine pw_ 3 93 (mk_ 13 15) ar ?_; refine pw_ 5 95 (mk_ 13 47) ar ?_; refine pw_ 7 97 (mk_ 13 175) ar ?_; refine tk_ 4 94 (mk_ 13 191) ar bo av ?_; refine tk_ 6 96 (mk_ 13 255) ar bo av ?_; refine pw_ 8 98 (mk_ 13 511) ar ?_; refine tk_ 9 99 (mk_ 13 1023) ar bo av ?_; refine pw_ 10 100 (mk_ 13 2047) ar ?_; refine pw_ 11 101 (mk_ 13 4095) ar ?_; refine pw_ 12 11 (mk_ 13 8191) ar ?_; refine done_ (done_of ar.o (by kernel_rfl)) ?_
           try go_wp2
           go_roundg k3
           case measure => have := bD.o; have := bE.o; have := bx.o; omega
           case rel => exact ⟨(wrap64 (bd + (wrap64 ((rd am ap) * (rd ak ap))))), (wrap64 (ap + 1)), (by rfl), (by rfl), H', ⟨by have := bD.o; have := bE.o; have := bx.o; omega⟩, ⟨aq.o⟩, ⟨aa.o⟩, ⟨HB.o⟩⟩
          rw [if_neg c50] at H
          cases H
         rw [if_neg c49] at H
         cases H
        rw [if_neg c48] at H; have cy := decide_eq_false c48; clear c48; obtain rfl := Option.some.inj H; obtain ⟨dD, dI, df⟩ := Kd.R_slice aq.o; subst df
        go_wp2
        go_ret
        exact ⟨by rfl, HB.o⟩
   rw [if_neg c17] at H
   cases H

end Go.Proofs.Ytgmfjcckmapkbaa.PFnExactPrefixSum

