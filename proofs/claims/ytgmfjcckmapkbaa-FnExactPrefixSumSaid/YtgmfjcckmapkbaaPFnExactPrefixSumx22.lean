/- Walks of the functions that the law reaches. -/
import Derived.Test.YtgmfjcckmapkbaaPFnExactPrefixSumx20
import Derived.Test.YtgmfjcckmapkbaaPFnExactPrefixSumx21
namespace Go.Proofs.Ytgmfjcckmapkbaa.PFnExactPrefixSum
open Go.RowKit Go.Proofs.YtgmfjcckmapkbaaW.PrintWords Go.Proofs.YtgmfjcckmapkbaaW.PrintLast Go.Proofs.YtgmfjcckmapkbaaW.PrintMore
attribute [local go_sem] max2_int min2_int max_two min_two max_three min_three max_four min_four
set_option linter.unusedVariables false
set_option maxHeartbeats 8000000
set_option maxRecDepth 100000
set_option linter.unusedSimpArgs false

mutual
def impl_Linear_evaluate.l0 : Nat → List Int → List Int → Int → Int → Int → List Int → List (List (List Int)) → List Int → Option (Int)
 | 0, _, _, _, _, _, _, _, _ => none
 | k + 1, x5, bZ, b7, bF, ap, aq, ak, ao => if bF < b7 then (if 0 ≤ bF then (if bF < (bZ.length : Int) then (if 0 ≤ (x5.length : Int) then (if ((x5.length : Int) : Int).toNat ≤ 35184372088832 then (impl_Linear_evaluate.l1 k (rd bZ bF) (List.replicate ((x5.length : Int) : Int).toNat 0) bZ b7 bF x5 (x5.length : Int) 0 ap aq ak ao) else (none)) else (none)) else (none)) else (none)) else (impl_Linear_evaluate.l3 k 0 x5 (x5.length : Int) 0 ap aq ak ao)
def impl_Linear_evaluate.l1 : Nat → Int → List Int → List Int → Int → Int → List Int → Int → Int → Int → List Int → List (List (List Int)) → List Int → Option (Int)
 | 0, _, _, _, _, _, _, _, _, _, _, _, _ => none
 | k + 1, x7, x8, bZ, b7, bF, cr, cU, bG, ap, aq, ak, ao => if bG < cU then (if 0 ≤ bG then (if bG < (cr.length : Int) then (if 0 ≤ x7 then (if x7 < (ak.length : Int) then (if bG < ((rd_L2 ak x7).length : Int) then (impl_Linear_evaluate.l2 k x7 x8 (rd cr bG) bZ b7 bF cr cU bG (rd_L1 (rd_L2 ak x7) bG) ((rd_L1 (rd_L2 ak x7) bG).length : Int) 0 ap aq ak ao) else (none)) else (none)) else (none)) else (none)) else (none)) else (impl_Linear_evaluate.l0 k x8 bZ b7 (wrap64 (bF + 1)) ap aq ak ao)
def impl_Linear_evaluate.l2 : Nat → Int → List Int → Int → List Int → Int → Int → List Int → Int → Int → List Int → Int → Int → Int → List Int → List (List (List Int)) → List Int → Option (Int)
 | 0, _, _, _, _, _, _, _, _, _, _, _, _, _, _, _, _ => none
 | k + 1, x7, x8, eb, bZ, b7, bF, cr, cU, bG, dP, ed, b8, ap, aq, ak, ao => if b8 < ed then (if 0 ≤ b8 then (if b8 < (dP.length : Int) then (if b8 < (x8.length : Int) then (impl_Linear_evaluate.l2 k x7 (x8.set (b8 : Int).toNat (wrap64 ((rd x8 b8) + (wrap64 (eb * (rd dP b8)))))) eb bZ b7 bF cr cU bG dP ed (wrap64 (b8 + 1)) ap aq ak ao) else (none)) else (none)) else (none)) else (impl_Linear_evaluate.l1 k x7 x8 bZ b7 bF cr cU (wrap64 (bG + 1)) ap aq ak ao)
def impl_Linear_evaluate.l3 : Nat → Int → List Int → Int → Int → Int → List Int → List (List (List Int)) → List Int → Option (Int)
 | 0, _, _, _, _, _, _, _, _ => none
 | k + 1, ec, dQ, ee, cp, ap, aq, ak, ao => if cp < ee then (if 0 ≤ cp then (if cp < (dQ.length : Int) then (if cp < (ao.length : Int) then (impl_Linear_evaluate.l3 k (wrap64 (ec + (wrap64 ((rd dQ cp) * (rd ao cp))))) dQ ee (wrap64 (cp + 1)) ap aq ak ao) else (none)) else (none)) else (none)) else (some ec)
end
def impl_Linear_evaluate.f (k : Nat) (an : Int) (al : List Int) (ae : List (List (List Int))) (ay : List Int) (a1 : Int) : Option (Int) := (slices_Clone_int_int.f al).bind fun bY => ((impl_digits.f k a1 an).bind fun aI => (impl_Linear_evaluate.l0 k bY aI (aI.length : Int) 0 an al ae ay))
theorem impl_Linear_evaluate.calls (k : Nat) (an : Int) (aC : Option Addr) (aD : Nat) (al : List Int) (aH : Option Addr) (aE : Nat) (ae : List (List (List Int))) (bi : Option Addr) (bj : Nat) (ay : List Int) (a1 : Int) (r : Int) (w : World) (be : Kd.C (Kd.int .i64) w aC al.length al) (bc : al.length ≤ aD) (bf : Kd.C (Kd.slice 23 (Kd.slice 3 (Kd.int .i64))) w aH ae.length ae) (bd : ae.length ≤ aE) (b6 : Kd.C (Kd.int .i64) w bi ay.length ay) (b5 : ay.length ≤ bj) (h : impl_Linear_evaluate.f k an al ae ay a1 = some r) :
  Calls Try.prog 40 #[.agg #[.int .i64 an, .slice aC al.length aD, .slice aH ae.length aE, .slice bi ay.length bj], .int .i64 a1] w fun e w' => e = .returned (.int .i64 r) ∧ Below w.heap.size w w' := by
 have hu29 := Try.underlying29; have a9 := A_ be; have a7 := A_ bc; clear be bc; have ba := A_ bf; have bl := A_ bd; clear bf bd; have cx := A_ b6; have dT := A_ b5; clear b6 b5; have HB := A_ (Below.refl w.heap.size w); unfold impl_Linear_evaluate.f at h; have H := h; clear h; replace H := bA_ H; obtain ⟨bY, A3, H⟩ := H; replace H := bA_ H; obtain ⟨aI, A4, H⟩ := H
 have H' := A_ H
 clear H; go_enter Try.func40, Try.ntmps40
 go_wp2_with (first | ((with_reducible refine gate_dst (N := 2) rfl ?_); refine box_event rfl (N := 2) rfl (cs := #[.int .i64 an, .slice aC al.length aD, .slice aH ae.length aE, .slice bi ay.length bj]) (t := 29) (by go_simp; done) ?_; intro bo hg w5 hbox hb; have aj := A_ (hbox); have dS := A_ (lg_ (below_size HB.o) hg); have dR := A_ (lg_ (below_size HB.o) hg); replace HB := bs_ HB hb; clear hb hbox hg; have cc := bq4 aj.o) | ((with_reducible refine gc_ 49 rfl ?_); refine cM_ E49 18 (slices_Clone_int_int.calls _ _ al bY _ (Kd.C_below a9.o HB.o) a7.o A3.o) ?_; rintro e w7 ⟨eB, rfl, ho0, hb⟩; refine ⟨_, rfl, ?_⟩; have bm := A_ (Kd.R_lower ho0 (below_size HB.o)); replace aj := bb_ aj hb; replace HB := bs_ HB hb; clear hb ho0; have cd := bq4 aj.o) | ((with_reducible refine gc_ 50 rfl ?_); refine cM_ E50 22 (impl_digits.calls k a1 an aI _ A4.o) ?_; rintro e w9 ⟨eC, rfl, ho0, hb⟩; refine ⟨_, rfl, ?_⟩; have b2 := A_ (Kd.R_lower (Kd.R_new' ho0 (Kd.R_lt bm.o)) (below_size HB.o)); replace bm := A_ (Kd.R_elder' bm.o (Kd.R_base ho0) hb); replace aj := bb_ aj hb; replace HB := bs_ HB hb; clear hb ho0; obtain ⟨cv, aW, dz⟩ := Kd.R_slice b2.o; subst dz))
 go_loopg [5, 24] k (fun kq v5 ew w' => ∃ (ah : List Int) (ab : List Int) (ac : Int), ew = .int .i64 ac ∧ Aside0 (impl_Linear_evaluate.l0 kq ah ab (aI.length : Int) ac an al ae ay = some r) ∧ Aside0 (kq ≤ k) ∧ Aside0 (Kd.R (Kd.int .i64) 3 w' w.heap.size (o1 (.slice cv aI.length aW)) v5 ah) ∧ Aside0 (Kd.R (Kd.int .i64) 3 w' w.heap.size (o1 v5) (.slice cv aI.length aW) ab) ∧ Aside0 (w'.heap[bo]? = some (.cells #[.int .i64 an, (.slice aC al.length aD), (.slice aH ae.length aE), (.slice bi ay.length bj)] 29 (0, 0))) ∧ Aside0 (Below w.heap.size w w'))
 case atStart => exact ⟨(bY), (aI), (0), (by rfl), H', ⟨Nat.le_refl _⟩, ⟨by exact Kd.R_mono bm.o (fun _ hk => hk.2)⟩, ⟨by exact Kd.R_mono b2.o (fun _ hk => hk.2)⟩, ⟨aj.o⟩, ⟨HB.o⟩⟩
 case round =>
  clear H'
  clear cc cd
  obtain ⟨ah, ab, ac, rfl, HA, b1, a8, ax, aj, HB⟩ := hrel; have aa := (Kd.R_reads' ax.o).1; rw [aa] at ax
  (try simp only [aa])
  (try simp only [aa] at aj)
  (try simp only [aa] at a8)
  cases gk with
  | zero => exact nz_ HA.o
  | succ k1 =>
   have H := HA.o; clear HA; simp only [impl_Linear_evaluate.l0] at H
   by_cases c11 : ac < (aI.length : Int)
   ·rw [if_pos c11] at H; have bn := decide_eq_true c11; clear c11
    by_cases c12 : 0 ≤ ac
    ·rw [if_pos c12] at H; have cC := decide_eq_true c12; clear c12
     by_cases c13 : ac < (ab.length : Int)
     ·rw [if_pos c13] at H; have cD := decide_eq_true c13; clear c13
      by_cases c14 : 0 ≤ (ah.length : Int)
      ·rw [if_pos c14] at H; have cE := eq_true c14; have cF := decide_eq_true c14; clear c14
       by_cases c15 : ((ah.length : Int) : Int).toNat ≤ 35184372088832
       ·rw [if_pos c15] at H; have cG := eq_true c15; have cH := decide_eq_true c15; clear c15; obtain ⟨cV, bD⟩ := ex_ ((List.replicate ((ah.length : Int) : Int).toNat 0) : List Int); replace H : (impl_Linear_evaluate.l1 k1 (rd ab ac) cV ab (aI.length : Int) ac ah (ah.length : Int) 0 an al ae ay) = some r := by (rw [bD]; with_reducible exact H)
        have cy := A_ bD; clear bD
        have H' := A_ H
        clear H
        have bQ : 0 ≤ (ac : Int) := oa_
        have bU : ac < (ab.length : Int) := oa_
        obtain ⟨aJ, dq, bN⟩ := Kd.at_int (Kd.R_reads' ax.o).2.2 ac bQ bU
        cases dq
        replace bQ := eq_true bQ; replace bU := eq_true bU; obtain ⟨bv, aM, ca⟩ := Kd.R_slice a8.o; subst ca
        go_wp2_with (first | ((with_reducible refine gate_dst (N := 30) rfl ?_); refine Kd.R_make (Kd.int .i64) _ 3 rfl (N := 30) rfl 23 _ _ rfl (ah.length : Int) rfl rfl Try.underlying23 (.int .i64 0) 8 info3 rfl (by decide) (by omega) 0 (ok := fun _ => True) (okp := fun _ => True) rfl (fun _ hk => hk) trivial oa_ (Nat.le_trans (Nat.mul_le_mul_right _ (oa_ : (ah.length : Int).toNat ≤ 35184372088832)) (by omega)) (Below.refl _ _) (Nat.le_refl _) ?_; rintro bx w17 bC hb - -; (rw [← cy.o] at bC); have cw := A_ (Kd.R_lower (Kd.R_new' (Kd.R_new' bC (Kd.R_lt a8.o)) (Kd.R_lt ax.o)) (below_size HB.o)); replace a8 := A_ (Kd.R_elder' a8.o (Kd.R_base bC) hb); replace ax := A_ (Kd.R_elder' ax.o (Kd.R_base bC) hb); replace aj := bb_ aj hb; replace HB := bs_ HB hb; clear hb bC))
        go_loopg [33] k1 (fun kq ex w' => ∃ (bH : List Int) (af : Int), ex = .int .i64 af ∧ Aside0 (impl_Linear_evaluate.l1 kq (rd ab ac) bH ab (aI.length : Int) ac ah (ah.length : Int) af an al ae ay = some r) ∧ Aside0 (kq ≤ k1) ∧ Aside0 (Kd.R (Kd.int .i64) 3 w' w.heap.size (o2 (.slice (some aJ) ab.length aW) (.slice bv ah.length aM)) bx bH) ∧ Aside0 (Kd.R (Kd.int .i64) 3 w' w.heap.size (o2 bx (.slice bv ah.length aM)) (.slice (some aJ) ab.length aW) ab) ∧ Aside0 (Kd.R (Kd.int .i64) 3 w' w.heap.size (o2 bx (.slice (some aJ) ab.length aW)) (.slice bv ah.length aM) ah) ∧ Aside0 (w'.heap[bo]? = some (.cells #[.int .i64 an, (.slice aC al.length aD), (.slice aH ae.length aE), (.slice bi ay.length bj)] 29 (0, 0))) ∧ Aside0 (Below w.heap.size w w'))
        case atStart => exact ⟨(cV), (0), (by rfl), H', ⟨Nat.le_refl _⟩, ⟨by (try simp only [aa]); exact Kd.R_mono cw.o (fun _ hk => ⟨hk.2, hk.1.2⟩)⟩, ⟨by (try simp only [aa]); exact Kd.R_mono ax.o (fun _ hk => ⟨hk.2, hk.1⟩)⟩, ⟨by (try simp only [aa]); exact Kd.R_mono a8.o (fun _ hk => ⟨hk.2, hk.1⟩)⟩, ⟨by (try simp only [aa]); exact aj.o⟩, ⟨HB.o⟩⟩
        case round =>
         clear H'
         clear bn cC cD cE cF cG cH bN bQ bU
         obtain ⟨bH, af, rfl, HA, bK, aK, ax, aU, aj, HB⟩ := hrel
         cases gk with
         | zero => exact nz_ HA.o
         | succ k2 =>
          have H := HA.o; clear HA; simp only [impl_Linear_evaluate.l1] at H
          by_cases c19 : af < (ah.length : Int)
          ·rw [if_pos c19] at H; have bz := decide_eq_true c19; clear c19
           by_cases c20 : 0 ≤ af
           ·rw [if_pos c20] at H; have cI := decide_eq_true c20; clear c20
            by_cases c21 : af < (ah.length : Int)
            ·rw [if_pos c21] at H; have cJ := decide_eq_true c21; clear c21
             by_cases c22 : 0 ≤ (rd ab ac)
             ·rw [if_pos c22] at H; have cK := decide_eq_true c22; clear c22
              by_cases c23 : (rd ab ac) < (ae.length : Int)
              ·rw [if_pos c23] at H; have cL := decide_eq_true c23; clear c23
               by_cases c24 : af < ((rd_L2 ae (rd ab ac)).length : Int)
               ·rw [if_pos c24] at H; have cN := decide_eq_true c24; clear c24
                have H' := A_ H
                clear H
                have bR : 0 ≤ (af : Int) := oa_
                have bV : af < (ah.length : Int) := oa_
                obtain ⟨bb, dr, bO⟩ := Kd.at_int (Kd.R_reads' aU.o).2.2 af bR bV
                cases dr
                replace bR := eq_true bR; replace bV := eq_true bV; have bp := bq4 aj.o
                have bS : 0 ≤ ((rd ab ac) : Int) := oa_
                have bW : (rd ab ac) < (ae.length : Int) := oa_
                obtain ⟨cB, di, dl, dt, aQ, bs, bq⟩ := at_L2 ba.o (rd ab ac) bS bW
                cases dt
                replace aQ := (HB.o.cell (World.block_lt_of_cell? w _ aQ)).trans aQ; have bL := A_ bq; have cW := A_ bs; clear bq bs; replace bS := eq_true bS; replace bW := eq_true bW
                have bT : 0 ≤ (af : Int) := oa_
                have bX : af < ((rd_L2 ae (rd ab ac)).length : Int) := oa_
                obtain ⟨dU, dj, dm, du, aT, bt, br⟩ := at_L1 bL.o af bT bX
                cases du
                replace aT := (HB.o.cell (World.block_lt_of_cell? w _ aT)).trans aT; have bM := A_ br; have cX := A_ bt; clear br bt; replace bT := eq_true bT; replace bX := eq_true bX
                go_wp2
                go_loopg [47] k2 (fun kq ey w' => ∃ (aN : List Int) (ai : Int), ey = .int .i64 ai ∧ Aside0 (impl_Linear_evaluate.l2 kq (rd ab ac) aN (rd ah af) ab (aI.length : Int) ac ah (ah.length : Int) af (rd_L1 (rd_L2 ae (rd ab ac)) af) ((rd_L1 (rd_L2 ae (rd ab ac)) af).length : Int) ai an al ae ay = some r) ∧ Aside0 (kq ≤ k2) ∧ Aside0 (Kd.R (Kd.int .i64) 3 w' w.heap.size (o2 (.slice (some aJ) ab.length aW) (.slice (some bb) ah.length aM)) bx aN) ∧ Aside0 (Kd.R (Kd.int .i64) 3 w' w.heap.size (o2 bx (.slice (some bb) ah.length aM)) (.slice (some aJ) ab.length aW) ab) ∧ Aside0 (Kd.R (Kd.int .i64) 3 w' w.heap.size (o2 bx (.slice (some aJ) ab.length aW)) (.slice (some bb) ah.length aM) ah) ∧ Aside0 (w'.heap[bo]? = some (.cells #[.int .i64 an, (.slice aC al.length aD), (.slice (some cB) ae.length aE), (.slice bi ay.length bj)] 29 (0, 0))) ∧ Aside0 (Below w.heap.size w w'))
                case atStart => exact ⟨(bH), (0), (by rfl), H', ⟨Nat.le_refl _⟩, ⟨by (try simp only [aa]); exact aK.o⟩, ⟨by (try simp only [aa]); exact ax.o⟩, ⟨by (try simp only [aa]); exact aU.o⟩, ⟨by (try simp only [aa]); exact aj.o⟩, ⟨HB.o⟩⟩
                case round =>
                 clear H'
                 clear bz cI cJ cK cL cN bp bO aQ aT bR bS bT bV bW bX
                 obtain ⟨aN, ai, rfl, HA, cY, aK, ax, aU, aj, HB⟩ := hrel
                 cases gk with
                 | zero => exact nz_ HA.o
                 | succ k3 =>
                  have H := HA.o; clear HA; simp only [impl_Linear_evaluate.l2] at H
                  by_cases c26 : ai < ((rd_L1 (rd_L2 ae (rd ab ac)) af).length : Int)
                  ·rw [if_pos c26] at H; have cO := decide_eq_true c26; clear c26
                   by_cases c27 : 0 ≤ ai
                   ·rw [if_pos c27] at H; have dZ := decide_eq_true c27; clear c27
                    by_cases c28 : ai < ((rd_L1 (rd_L2 ae (rd ab ac)) af).length : Int)
                    ·rw [if_pos c28] at H; have d0 := decide_eq_true c28; clear c28
                     by_cases c29 : ai < (aN.length : Int)
                     ·rw [if_pos c29] at H; have d1 := decide_eq_true c29; clear c29; obtain ⟨cq, bE⟩ := ex_ ((aN.set (ai : Int).toNat (wrap64 ((rd aN ai) + (wrap64 ((rd ah af) * (rd (rd_L1 (rd_L2 ae (rd ab ac)) af) ai)))))) : List Int); replace H : (impl_Linear_evaluate.l2 k3 (rd ab ac) cq (rd ah af) ab (aI.length : Int) ac ah (ah.length : Int) af (rd_L1 (rd_L2 ae (rd ab ac)) af) ((rd_L1 (rd_L2 ae (rd ab ac)) af).length : Int) (wrap64 (ai + 1)) an al ae ay) = some r := by (rw [bE]; with_reducible exact H)
                      have cA := A_ bE; clear bE
                      have H' := A_ H
                      clear H
                      have ce : 0 ≤ (ai : Int) := oa_
                      have ci : ai < ((rd_L1 (rd_L2 ae (rd ab ac)) af).length : Int) := oa_
                      obtain ⟨dV, dv, aX⟩ := Kd.at_int bM.o ai ce ci
                      cases dv
                      replace aX := (HB.o.cell (World.block_lt_of_cell? w _ aX)).trans aX; replace ce := eq_true ce; replace ci := eq_true ci; obtain ⟨ei, dn, dF⟩ := Kd.R_slice aK.o; subst dF
                      have cf : 0 ≤ (ai : Int) := oa_
                      have cj : ai < (aN.length : Int) := oa_
                      obtain ⟨dW, dw, bP⟩ := Kd.at_int (Kd.R_reads' aK.o).2.2 ai cf cj
                      cases dw
                      replace cf := eq_true cf; replace cj := eq_true cj
                      have dM : 0 ≤ (ai : Int) := oa_
                      have dN : (ai : Int) < ((aN.length : Int) : Int) := oa_
                      obtain ⟨cb, ep, cP, cQ, gl30, cl30, HG30⟩ := Kd.R_form aK.o (by omega)
                      (first | cases cP | (injection cP with ea_ en_ ec_; (first | subst ea_ | (injection ea_ with ea_; subst ea_)); subst ec_; clear en_))
                      have GB30 := A_ cQ; have GG30 := A_ HG30; clear cQ gl30 HG30
                      (first | simp only [add_plain] at bP | skip)
                      obtain ⟨dL, dK⟩ := Kd.R_celln 0 aK.o (ai : Int) dM dN; replace dM := eq_true dM; replace dN := eq_true dN; have b9 := Kd.R_putg aK.o (ai : Int) (wrap64 ((rd aN ai) + (wrap64 ((rd ah af) * (rd (rd_L1 (rd_L2 ae (rd ab ac)) af) ai)))))
                      go_wp2_with (first | ((with_reducible refine gate_store (t := 3) (p := 60) rfl ?_); refine store_event (t := 3) (p := 60) (w1 := (wr.setCell ⟨cb, (ai : Int).toNat, none⟩ (.int .i64 (wrap64 ((rd aN ai) + (wrap64 ((rd ah af) * (rd (rd_L1 (rd_L2 ae (rd ab ac)) af) ai)))))))) rfl rfl rfl (by go_simp; done) ?_; intro w33 hw; have hg : wr.grownBy w33 (some cb) := (by rw [hw]; exact b9.2); have hp_ : Kd.R (Kd.int .i64) 3 w33 w.heap.size (o2 (.slice (some aJ) ab.length aW) (.slice (some bb) ah.length aM)) (.slice (some ⟨cb, 0, none⟩) aN.length dn) cq := (by rw [hw, cA.o]; exact b9.1); clear b9; replace ax := rB_ (ok := (o1 (.slice (some bb) ah.length aM))) hp_ ax (fun _ hk => ⟨hk.2, hk.1⟩) hg; replace aU := rB_ (ok := (o1 (.slice (some aJ) ab.length aW))) hp_ aU (fun _ hk => ⟨hk.2, hk.1⟩) hg; replace aj := gR_ aK aj hg; replace aK := A_ (hp_); replace HB := A_ ((by rw [hw]; exact below_set (HB.o) GB30.o : Below w.heap.size w w33)); clear hg hw hp_))
                      go_roundg k3
                      case measure => have := b1.o; have := bK.o; have := cY.o; omega
                      case rel => exact ⟨(cq), (wrap64 (ai + 1)), (by rfl), H', ⟨by have := b1.o; have := bK.o; have := cY.o; omega⟩, ⟨by (try simp only [aa]); exact aK.o⟩, ⟨by (try simp only [aa]); exact Kd.R_mono ax.o (fun _ hk => ⟨hk.2, hk.1⟩)⟩, ⟨by (try simp only [aa]); exact Kd.R_mono aU.o (fun _ hk => ⟨hk.2, hk.1⟩)⟩, ⟨by (try simp only [aa]); exact aj.o⟩, ⟨HB.o⟩⟩
                     rw [if_neg c29] at H
                     cases H
                    rw [if_neg c28] at H
                    cases H
                   rw [if_neg c27] at H
                   cases H
                  rw [if_neg c26] at H; have cO := decide_eq_false c26; clear c26
                  have H' := A_ H
                  clear H
                  go_wp2
                  go_roundg k3
                  case measure => have := b1.o; have := bK.o; have := cY.o; omega
                  case rel => exact ⟨(aN), (wrap64 (af + 1)), (by rfl), H', ⟨by have := b1.o; have := bK.o; have := cY.o; omega⟩, ⟨by (try simp only [aa]); exact aK.o⟩, ⟨by (try simp only [aa]); exact ax.o⟩, ⟨by (try simp only [aa]); exact aU.o⟩, ⟨by (try simp only [aa]); exact aj.o⟩, ⟨HB.o⟩⟩
               rw [if_neg c24] at H
               cases H
              rw [if_neg c23] at H
              cases H
             rw [if_neg c22] at H
             cases H
            rw [if_neg c21] at H
            cases H
           rw [if_neg c20] at H
           cases H
          rw [if_neg c19] at H; have bz := decide_eq_false c19; have c19b0z := bz
          (try rw [aa] at c19b0z)
          clear c19
          have H' := A_ H
          clear H
          go_wp2
          (try simp only [← aa])
          go_roundg k2
          case measure => have := b1.o; have := bK.o; omega
          case rel => exact ⟨(bH), (ab), (wrap64 (ac + 1)), (by rfl), H', ⟨by have := b1.o; have := bK.o; omega⟩, ⟨by (try simp only [aa]); exact Kd.R_mono aK.o (fun _ hk => hk.1)⟩, ⟨by (try simp only [aa]); exact Kd.R_mono ax.o (fun _ hk => hk.1)⟩, ⟨by (try simp only [aa]); exact aj.o⟩, ⟨HB.o⟩⟩
       rw [if_neg c15] at H
       cases H
      rw [if_neg c14] at H
      cases H
     rw [if_neg c13] at H
     cases H
    rw [if_neg c12] at H
    cases H
   rw [if_neg c11] at H; have bn := decide_eq_false c11; have c11b0z := bn
   (try rw [aa] at c11b0z)
   clear c11
   have H' := A_ H
   clear H; obtain ⟨dk, dp, dG⟩ := Kd.R_slice a8.o; subst dG
   go_wp2
   go_loopg [13, 67] k1 (fun kq ev ez w' => ∃ (bu : Int) (ar : Int), ev = .int .i64 bu ∧ ez = .int .i64 ar ∧ Aside0 (impl_Linear_evaluate.l3 kq bu ah (ah.length : Int) ar an al ae ay = some r) ∧ Aside0 (kq ≤ k1) ∧ Aside0 (Kd.R (Kd.int .i64) 3 w' w.heap.size (fun _ => True) (.slice dk ah.length dp) ah) ∧ Aside0 (w'.heap[bo]? = some (.cells #[.int .i64 an, (.slice aC al.length aD), (.slice aH ae.length aE), (.slice bi ay.length bj)] 29 (0, 0))) ∧ Aside0 (Below w.heap.size w w'))
   case atStart => exact ⟨(0), (0), (by rfl), (by rfl), H', ⟨Nat.le_refl _⟩, ⟨by (try simp only [aa]); exact Kd.R_mono a8.o (fun _ hk => trivial)⟩, ⟨by (try simp only [aa]); exact aj.o⟩, ⟨HB.o⟩⟩
   case round =>
    clear H'
    try clear bn
    obtain ⟨bu, ar, rfl, rfl, HA, bK, b3, aj, HB⟩ := hrel
    cases gk with
    | zero => exact nz_ HA.o
    | succ k2 =>
     have H := HA.o; clear HA; simp only [impl_Linear_evaluate.l3] at H
     by_cases c35 : ar < (ah.length : Int)
     ·rw [if_pos c35] at H; have b4 := decide_eq_true c35; clear c35
      by_cases c36 : 0 ≤ ar
      ·rw [if_pos c36] at H; have d2 := decide_eq_true c36; clear c36
       by_cases c37 : ar < (ah.length : Int)
       ·rw [if_pos c37] at H; have d3 := decide_eq_true c37; clear c37
        by_cases c38 : ar < (ay.length : Int)
        ·rw [if_pos c38] at H; have d4 := decide_eq_true c38; clear c38
         have H' := A_ H
         clear H
         have cg : 0 ≤ (ar : Int) := oa_
         have ck : ar < (ah.length : Int) := oa_
         obtain ⟨dX, dx, dh⟩ := Kd.at_int (Kd.R_reads' b3.o).2.2 ar cg ck
         cases dx
         replace cg := eq_true cg; replace ck := eq_true ck; have dg := bq4 aj.o
         have ch : 0 ≤ (ar : Int) := oa_
         have cm : ar < (ay.length : Int) := oa_
         obtain ⟨dY, dy, aY⟩ := Kd.at_int cx.o ar ch cm
         cases dy
         replace aY := (HB.o.cell (World.block_lt_of_cell? w _ aY)).trans aY; replace ch := eq_true ch; replace cm := eq_true cm
         go_wp2
         go_roundg k2
         case measure => have := b1.o; have := bK.o; omega
         case rel => exact ⟨(wrap64 (bu + (wrap64 ((rd ah ar) * (rd ay ar))))), (wrap64 (ar + 1)), (by rfl), (by rfl), H', ⟨by have := b1.o; have := bK.o; omega⟩, ⟨by (try simp only [aa]); exact b3.o⟩, ⟨by (try simp only [aa]); exact aj.o⟩, ⟨HB.o⟩⟩
        rw [if_neg c38] at H
        cases H
       rw [if_neg c37] at H
       cases H
      rw [if_neg c36] at H
      cases H
     rw [if_neg c35] at H; have b4 := decide_eq_false c35; have c35b0z := b4
     (try rw [aa] at c35b0z)
     clear c35; obtain rfl := Option.some.inj H
     go_wp2
     go_ret
     exact ⟨by rfl, HB.o⟩

def impl_CountByForm.f (k : Nat) (an : Int) (al : List (List Int)) (ae : List Int) (a1 : Int) (a2 : Int) : Option (Int) := (impl_CountingForm.f k an al ae a1).bind fun bt735 => (if bt735.2.2.2.2 = true then ((impl_isNumber.f k a2 an).bind fun cn => (if cn = true then ((impl_Linear_evaluate.f k bt735.1 bt735.2.1 bt735.2.2.1 bt735.2.2.2.1 a2).bind fun co => (some co)) else (some (-1)))) else (some (-1)))
theorem impl_CountByForm.calls (k : Nat) (an : Int) (aC : Option Addr) (aD : Nat) (al : List (List Int)) (aH : Option Addr) (aE : Nat) (ae : List Int) (a1 : Int) (a2 : Int) (r : Int) (w : World) (be : Kd.C (Kd.slice 3 (Kd.int .i64)) w aC al.length al) (bc : al.length ≤ aD) (bf : Kd.C (Kd.int .i64) w aH ae.length ae) (bd : ae.length ≤ aE) (h : impl_CountByForm.f k an al ae a1 a2 = some r) :
  Calls Try.prog 16 #[.agg #[.int .i64 an, .slice aC al.length aD, .slice aH ae.length aE], .int .i64 a1, .int .i64 a2] w fun e w' => e = .returned (.int .i64 r) ∧ Below w.heap.size w w' := by
 have hu32 := Try.underlying32; have hu29 := Try.underlying29; have a9 := A_ be; have a7 := A_ bc; clear be bc; have ba := A_ bf; have bl := A_ bd; clear bf bd; have HB := A_ (Below.refl w.heap.size w); unfold impl_CountByForm.f at h; have H := h; clear h; replace H := bA_ H; obtain ⟨⟨bw, aZ, bk, a3, dO⟩, A4, H⟩ := H; dsimp only at H
 by_cases c5 : dO = true
 ·subst c5; rw [if_pos rfl] at H; replace H := bA_ H; obtain ⟨cn, A6, H⟩ := H
  by_cases c7 : cn = true
  ·subst c7; rw [if_pos rfl] at H; replace H := bA_ H; obtain ⟨co, A8, H⟩ := H; obtain rfl := Option.some.inj H; go_enter Try.func16, Try.ntmps16
   go_wp2_with (first | ((with_reducible refine gate_dst (N := 3) rfl ?_); refine box_event rfl (N := 3) rfl (cs := #[.int .i64 an, .slice aC al.length aD, .slice aH ae.length aE]) (t := 32) (by go_simp; done) ?_; intro aV hg w9 hbox hb; have ag := A_ (hbox); have a6 := A_ (lg_ (below_size HB.o) hg); have a4 := A_ (lg_ (below_size HB.o) hg); replace HB := bs_ HB hb; clear hb hbox hg; have cZ := bq3 ag.o) | ((with_reducible refine gc_ 9 rfl ?_); refine cM_ E9 12 (impl_CountingForm.calls k an (fun k_ => k_ < w.heap.size) _ _ al _ _ ae a1 bw aZ bk a3 true _ (Kd.V_mk a7.o (Kd.F_below (Kd.C_F (Kd.heap_slice 3 (Kd.heap_int .i64)) a9.o) HB.o)) (Kd.C_below ba.o HB.o) bl.o A4.o) ?_; rintro e w11 ⟨bg, cS, bh, rfl, ho0, ho1, ho2, hb⟩; refine ⟨_, rfl, ?_⟩; have au := A_ (Kd.R_lower (Kd.R_mono (ok' := fun k_ => some k_ ≠ (bh : Value).ownBlock) ho0 (fun _ hk_ => hk_.2)) (below_size HB.o)); have av := A_ (Kd.N_lower (Kd.N_mono (ok' := fun k_ => some k_ ≠ (bg : Value).ownBlock ∧ some k_ ≠ (bh : Value).ownBlock ∧ k_ ≠ aV) ho1 (fun k_ hk_ => ⟨hk_.2.1, hk_.2.2, Or.elim hk_.1 (fun hs_ => fun e_ => Nat.not_le.2 hs_ (by rw [e_]; exact a6.o)) (fun hn_ => (Kd.freshB ag.o k_ hn_))⟩)) (below_size HB.o)); have aw := A_ (Kd.R_lower (Kd.R_mono (ok' := fun k_ => some k_ ≠ (bg : Value).ownBlock) ho2 (fun _ hk_ => hk_.2)) (below_size HB.o)); replace ag := bb_ ag hb; replace HB := bs_ HB hb; clear hb ho0 ho1; (try clear ho2)) | ((with_reducible refine gate_dst (N := 7) rfl ?_); refine box_event rfl (N := 7) rfl (cs := #[.int .i64 0, .slice none 0 0, .slice none 0 0, .slice none 0 0]) (t := 29) (by go_simp; done) ?_; intro aG hg w12 hbox hb; replace au := A_ (Kd.R_below au.o hb); replace av := A_ (Kd.N_below (Kd.N_elderB av.o aG (Nat.le_of_eq hg.symm)) hb); replace aw := A_ (Kd.R_below aw.o hb); have aA := A_ (hbox); have b0 := A_ (lg_ (below_size HB.o) hg); have a5 := A_ (lg_ (below_size HB.o) hg); replace HB := bs_ HB hb; have am := nl_ ag hg; have az := ng_ ag hg; replace ag := bb_ ag hb; clear hb hbox hg; have d5 := az.o; have d8 := am.o; have da := bq4 aA.o; obtain ⟨bI, bA, dA⟩ := Kd.R_slice au.o; subst dA; obtain ⟨bv, aM, ca⟩ := Kd.N_slice av.o; subst ca; obtain ⟨bJ, bB, dB⟩ := Kd.R_slice aw.o; subst dB; have db := bq3 ag.o) | (go_at_call 39; (with_reducible refine (impl_isNumber.calls k a2 an true _ A6.o).mono ?_); rintro e w' ⟨rfl, ⟨nd, rfl⟩⟩) | ((with_reducible refine gate_callee (f := 40) rfl ?_); refine goesL_ (some 26) rfl rfl Try.func40 (by kernel_rfl) rfl #[.agg #[.int .i64 bw, .slice bI aZ.length bA, .slice bv bk.length aM, .slice bJ a3.length bB], .int .i64 a2] rfl (by simp only [mA, mB, mC]; rfl) ?_; (with_reducible refine (impl_Linear_evaluate.calls k bw _ _ aZ _ _ bk _ _ a3 a2 co _ ?side1 ?side2 ?side3 ?side4 ?side5 ?side6 A8.o).mono ?_); (case side1 => refine (Kd.R_reads' (e := 3) (base := w.heap.size) (ok := fun k_ => some k_ ≠ (.slice bJ a3.length bB : Value).ownBlock) (n := aZ.length) (c := bA) ?_).2.2; exact (by (with_reducible repeat (first | apply Kd.R_alloc | apply Kd.R_drewN | apply Kd.R_drew)); exact (Kd.R_mono (gR4_ (tR_ au aA)) (fun _ h_ => h_.1)))); (case side2 => exact (Kd.R_reads' au.o).2.1); (case side3 => refine (Kd.N_reads' (e := 22) (base := w.heap.size) (ok := fun k_ => ((some k_ ≠ (.slice bI aZ.length bA : Value).ownBlock ∧ (some k_ ≠ (.slice bJ a3.length bB : Value).ownBlock ∧ k_ ≠ aV)) ∧ k_ ≠ aG)) (n := bk.length) (c := aM) ?_).2.2; exact (by (with_reducible repeat (first | apply Kd.N_alloc | apply Kd.N_drewN | apply Kd.N_drew)); exact (Kd.N_mono (gN4_ (Kd.N_mono av.o (fun k_ hk => (⟨hk, hk.2⟩ : _ ∧ k_ ≠ aG)))) (fun _ h_ => h_.1)))); (case side4 => exact (Kd.N_reads' av.o).2.1); (case side5 => refine (Kd.R_reads' (e := 3) (base := w.heap.size) (ok := fun k_ => some k_ ≠ (.slice bI aZ.length bA : Value).ownBlock) (n := a3.length) (c := bB) ?_).2.2; exact (by (with_reducible repeat (first | apply Kd.R_alloc | apply Kd.R_drewN | apply Kd.R_drew)); exact (Kd.R_mono (gR4_ (tR_ aw aA)) (fun _ h_ => h_.1)))); (case side6 => exact (Kd.R_reads' aw.o).2.1); rintro e w19 ⟨rfl, hb⟩; refine ⟨_, rfl, ?_⟩; replace au := A_ (Kd.R_below (by (with_reducible repeat (first | apply Kd.R_alloc | apply Kd.R_drewN | apply Kd.R_drew)); exact (Kd.R_mono (gR4_ (tR_ au aA)) (fun _ h_ => h_.1))) hb); replace av := A_ (Kd.N_below (by (with_reducible repeat (first | apply Kd.N_alloc | apply Kd.N_drewN | apply Kd.N_drew)); exact (Kd.N_mono (gN4_ (Kd.N_mono av.o (fun k_ hk => (⟨hk, hk.2⟩ : _ ∧ k_ ≠ aG)))) (fun _ h_ => h_.1))) hb); replace aw := A_ (Kd.R_below (by (with_reducible repeat (first | apply Kd.R_alloc | apply Kd.R_drewN | apply Kd.R_drew)); exact (Kd.R_mono (gR4_ (tR_ aw aA)) (fun _ h_ => h_.1))) hb); replace ag := A_ (blk_below (g := aV) (o := .cells #[.int .i64 an, .slice aC al.length aD, .slice aH ae.length aE] 32 (0, 0)) (by (with_reducible repeat (first | refine blk_drewN ?_ _ | refine blk_drew ?_ | refine blk_alloc ?_ _)); exact fa_ am (fa_ am (fa_ am (fa_ am ag.o)))) hb); replace aA := A_ (blk_below (g := aG) (o := .cells #[.int .i64 bw, .slice bI aZ.length bA, .slice bv bk.length aM, .slice bJ a3.length bB] 29 (0, 0)) (by (with_reducible repeat (first | refine blk_drewN ?_ _ | refine blk_drew ?_ | refine blk_alloc ?_ _)); exact pu_ 3 (pu_ 2 (pu_ 1 (pu_ 0 aA.o rfl) rfl) rfl) rfl) hb); replace HB := A_ (below_step (by repeat (first | (with_reducible first | exact HB.o | apply below_alloc | apply pw_below_drewN | apply below_drew1 | refine below_set ?_ a4.o | refine below_set ?_ a5.o) | exact HB.o)) hb); clear hb; (try clear hi)))
   go_ret
   exact ⟨by rfl, HB.o⟩
  replace c7 := Bool.eq_false_iff.mpr c7; subst c7; rw [if_neg nf_] at H; obtain rfl := Option.some.inj H; go_enter Try.func16, Try.ntmps16
  go_wp2_with (first | ((with_reducible refine gate_dst (N := 3) rfl ?_); refine box_event rfl (N := 3) rfl (cs := #[.int .i64 an, .slice aC al.length aD, .slice aH ae.length aE]) (t := 32) (by go_simp; done) ?_; intro aV hg w20 hbox hb; have ag := A_ (hbox); have a6 := A_ (lg_ (below_size HB.o) hg); have a4 := A_ (lg_ (below_size HB.o) hg); replace HB := bs_ HB hb; clear hb hbox hg; have dc := bq3 ag.o) | ((with_reducible refine gc_ 9 rfl ?_); refine cM_ E9 12 (impl_CountingForm.calls k an (fun k_ => k_ < w.heap.size) _ _ al _ _ ae a1 bw aZ bk a3 true _ (Kd.V_mk a7.o (Kd.F_below (Kd.C_F (Kd.heap_slice 3 (Kd.heap_int .i64)) a9.o) HB.o)) (Kd.C_below ba.o HB.o) bl.o A4.o) ?_; rintro e w22 ⟨bg, cS, bh, rfl, ho0, ho1, ho2, hb⟩; refine ⟨_, rfl, ?_⟩; have au := A_ (Kd.R_lower (Kd.R_mono (ok' := fun k_ => some k_ ≠ (bh : Value).ownBlock) ho0 (fun _ hk_ => hk_.2)) (below_size HB.o)); have av := A_ (Kd.N_lower (Kd.N_mono (ok' := fun k_ => some k_ ≠ (bg : Value).ownBlock ∧ some k_ ≠ (bh : Value).ownBlock ∧ k_ ≠ aV) ho1 (fun k_ hk_ => ⟨hk_.2.1, hk_.2.2, Or.elim hk_.1 (fun hs_ => fun e_ => Nat.not_le.2 hs_ (by rw [e_]; exact a6.o)) (fun hn_ => (Kd.freshB ag.o k_ hn_))⟩)) (below_size HB.o)); have aw := A_ (Kd.R_lower (Kd.R_mono (ok' := fun k_ => some k_ ≠ (bg : Value).ownBlock) ho2 (fun _ hk_ => hk_.2)) (below_size HB.o)); replace ag := bb_ ag hb; replace HB := bs_ HB hb; clear hb ho0 ho1; (try clear ho2)) | ((with_reducible refine gate_dst (N := 7) rfl ?_); refine box_event rfl (N := 7) rfl (cs := #[.int .i64 0, .slice none 0 0, .slice none 0 0, .slice none 0 0]) (t := 29) (by go_simp; done) ?_; intro aG hg w23 hbox hb; replace au := A_ (Kd.R_below au.o hb); replace av := A_ (Kd.N_below (Kd.N_elderB av.o aG (Nat.le_of_eq hg.symm)) hb); replace aw := A_ (Kd.R_below aw.o hb); have aA := A_ (hbox); have b0 := A_ (lg_ (below_size HB.o) hg); have a5 := A_ (lg_ (below_size HB.o) hg); replace HB := bs_ HB hb; have am := nl_ ag hg; have az := ng_ ag hg; replace ag := bb_ ag hb; clear hb hbox hg; have d6 := az.o; have d9 := am.o; have bp := bq4 aA.o; obtain ⟨ef, em, dC⟩ := Kd.R_slice au.o; subst dC; obtain ⟨eg, en, dD⟩ := Kd.N_slice av.o; subst dD; obtain ⟨eh, eo, dE⟩ := Kd.R_slice aw.o; subst dE; have dd := bq3 ag.o) | (go_at_call 39; (with_reducible refine (impl_isNumber.calls k a2 an false _ A6.o).mono ?_); rintro e w' ⟨rfl, ⟨nd, rfl⟩⟩))
  go_ret
  exact ⟨by rfl, by repeat (first | (with_reducible first | exact HB.o | apply below_alloc | apply pw_below_drewN | apply below_drew1 | refine below_set ?_ a4.o | refine below_set ?_ a5.o) | exact HB.o)⟩
 replace c5 := Bool.eq_false_iff.mpr c5; subst c5; rw [if_neg nf_] at H; obtain rfl := Option.some.inj H; go_enter Try.func16, Try.ntmps16
 go_wp2_with (first | ((with_reducible refine gate_dst (N := 3) rfl ?_); refine box_event rfl (N := 3) rfl (cs := #[.int .i64 an, .slice aC al.length aD, .slice aH ae.length aE]) (t := 32) (by go_simp; done) ?_; intro aV hg w30 hbox hb; have ag := A_ (hbox); have a6 := A_ (lg_ (below_size HB.o) hg); have a4 := A_ (lg_ (below_size HB.o) hg); replace HB := bs_ HB hb; clear hb hbox hg; have de := bq3 ag.o) | ((with_reducible refine gc_ 9 rfl ?_); refine cM_ E9 12 (impl_CountingForm.calls k an (fun k_ => k_ < w.heap.size) _ _ al _ _ ae a1 bw aZ bk a3 false _ (Kd.V_mk a7.o (Kd.F_below (Kd.C_F (Kd.heap_slice 3 (Kd.heap_int .i64)) a9.o) HB.o)) (Kd.C_below ba.o HB.o) bl.o A4.o) ?_; rintro e w32 ⟨bg, cS, bh, rfl, ho0, ho1, ho2, hb⟩; refine ⟨_, rfl, ?_⟩; have au := A_ (Kd.R_lower (Kd.R_mono (ok' := fun k_ => some k_ ≠ (bh : Value).ownBlock) ho0 (fun _ hk_ => hk_.2)) (below_size HB.o)); have av := A_ (Kd.N_lower (Kd.N_mono (ok' := fun k_ => some k_ ≠ (bg : Value).ownBlock ∧ some k_ ≠ (bh : Value).ownBlock ∧ k_ ≠ aV) ho1 (fun k_ hk_ => ⟨hk_.2.1, hk_.2.2, Or.elim hk_.1 (fun hs_ => fun e_ => Nat.not_le.2 hs_ (by rw [e_]; exact a6.o)) (fun hn_ => (Kd.freshB ag.o k_ hn_))⟩)) (below_size HB.o)); have aw := A_ (Kd.R_lower (Kd.R_mono (ok' := fun k_ => some k_ ≠ (bg : Value).ownBlock) ho2 (fun _ hk_ => hk_.2)) (below_size HB.o)); replace ag := bb_ ag hb; replace HB := bs_ HB hb; clear hb ho0 ho1; (try clear ho2)) | ((with_reducible refine gate_dst (N := 7) rfl ?_); refine box_event rfl (N := 7) rfl (cs := #[.int .i64 0, .slice none 0 0, .slice none 0 0, .slice none 0 0]) (t := 29) (by go_simp; done) ?_; intro aG hg w33 hbox hb; replace au := A_ (Kd.R_below au.o hb); replace av := A_ (Kd.N_below (Kd.N_elderB av.o aG (Nat.le_of_eq hg.symm)) hb); replace aw := A_ (Kd.R_below aw.o hb); have aA := A_ (hbox); have b0 := A_ (lg_ (below_size HB.o) hg); have a5 := A_ (lg_ (below_size HB.o) hg); replace HB := bs_ HB hb; have am := nl_ ag hg; have az := ng_ ag hg; replace ag := bb_ ag hb; clear hb hbox hg; have d7 := az.o; have ea := am.o; have df := bq4 aA.o; obtain ⟨ej, eq, dH⟩ := Kd.R_slice au.o; subst dH; obtain ⟨ek, er, dI⟩ := Kd.N_slice av.o; subst dI; obtain ⟨el, eu, dJ⟩ := Kd.R_slice aw.o; subst dJ))
 go_ret
 exact ⟨by rfl, by repeat (first | (with_reducible first | exact HB.o | apply below_alloc | apply pw_below_drewN | apply below_drew1 | refine below_set ?_ a4.o | refine below_set ?_ a5.o) | exact HB.o)⟩

end Go.Proofs.Ytgmfjcckmapkbaa.PFnExactPrefixSum

