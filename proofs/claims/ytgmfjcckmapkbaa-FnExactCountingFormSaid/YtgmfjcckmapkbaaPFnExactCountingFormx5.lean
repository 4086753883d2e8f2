/- Walks of the functions that the law reaches. -/
import Derived.Test.YtgmfjcckmapkbaaPFnExactCountingFormx0
namespace Go.Proofs.Ytgmfjcckmapkbaa.PFnExactCountingForm
open Go.RowKit Go.Proofs.YtgmfjcckmapkbaaW.PrintWords Go.Proofs.YtgmfjcckmapkbaaW.PrintLast Go.Proofs.YtgmfjcckmapkbaaW.PrintMore
attribute [local go_sem] max2_int min2_int max_two min_two max_three min_three max_four min_four
set_option linter.unusedVariables false
set_option maxHeartbeats 8000000
set_option maxRecDepth 100000
set_option linter.unusedSimpArgs false

def spec_l3Same.l0 : Nat → List Int → List Int → Int → Option (Bool)
 | 0, _, _, _ => none
 | k + 1, x0, x1, x5 => if x5 < (x0.length : Int) then (if 0 ≤ x5 then (if x5 < (x1.length : Int) then (if (rd x0 x5) = (rd x1 x5) then (spec_l3Same.l0 k x0 x1 (wrap64 (x5 + 1))) else (some false)) else (none)) else (none)) else (some true)
def spec_l3Same.f (k : Nat) (l0 : List Int) (l1 : List Int) : Option (Bool) := if (l0.length : Int) = (l1.length : Int) then (spec_l3Same.l0 k l0 l1 0) else (some false)
theorem spec_l3Same.calls (k : Nat) (A0 : Option Addr) (c0 : Nat) (l0 : List Int) (A1 : Option Addr) (c1 : Nat) (l1 : List Int) (r : Bool) (w : World) (hr0 : Kd.C (Kd.int .i64) w A0 l0.length l0) (hc0 : l0.length ≤ c0) (hr1 : Kd.C (Kd.int .i64) w A1 l1.length l1) (hc1 : l1.length ≤ c1) (h : spec_l3Same.f k l0 l1 = some r) :
  Calls Try.prog 61 #[.slice A0 l0.length c0, .slice A1 l1.length c1] w fun e w' => e = .returned (.bool r) ∧ Drawn0 w w' := by
 have HR0 := A_ hr0; have HC0 := A_ hc0; clear hr0 hc0; have HR1 := A_ hr1; have HC1 := A_ hc1; clear hr1 hc1; unfold spec_l3Same.f at h; have H := h; clear h
 by_cases c3 : (l0.length : Int) = (l1.length : Int)
 ·rw [if_pos c3] at H
  have bt : ((l0.length : Int) == (l1.length : Int)) = true := beq_iff_eq.mpr c3
  have bu : ((l0.length : Int) != (l1.length : Int)) = false := bne_eq_false_iff_eq.mpr c3
  have bv : (l0.length == l1.length) = true := by first | simpa using c3 | (simp at c3 ⊢; omega)
  clear c3
  have H' := A_ H
  clear H; go_enter Try.func61, Try.ntmps61
  go_wp2
  repeat (go_quiet (fail); try go_wp2)
  go_loopg [5] k (fun kq v5 w' => ∃ (aa : Int), v5 = .int .i64 aa ∧ Aside0 (spec_l3Same.l0 kq l0 l1 aa = some r) ∧ Aside0 (kq ≤ k) ∧ Drawn0 w w')
  case atStart => exact ⟨(0), (by rfl), H', ⟨Nat.le_refl _⟩, by repeat (first | exact Drawn0.refl _ | apply Drawn0.step)⟩
  case round =>
   clear H'
   clear bt bu bv
   obtain ⟨aa, rfl, HA, aI, ⟨m1, rfl⟩⟩ := hrel
   cases gk with
   | zero => exact nz_ HA.o
   | succ k1 =>
    have H := HA.o; clear HA; simp only [spec_l3Same.l0] at H
    by_cases c4 : aa < (l0.length : Int)
    ·rw [if_pos c4] at H; have bb := decide_eq_true c4; clear c4
     by_cases c5 : 0 ≤ aa
     ·rw [if_pos c5] at H; have bK := decide_eq_true c5; clear c5
      by_cases c6 : aa < (l1.length : Int)
      ·rw [if_pos c6] at H; have bw := decide_eq_true c6; clear c6
       by_cases c7 : (rd l0 aa) = (rd l1 aa)
       ·rw [if_pos c7] at H
        have bF : ((rd l0 aa) == (rd l1 aa)) = true := beq_iff_eq.mpr c7
        have bG : ((rd l0 aa) != (rd l1 aa)) = false := bne_eq_false_iff_eq.mpr c7
        clear c7
        have H' := A_ H
        clear H
        have aw : 0 ≤ (aa : Int) := oa_
        have aA : aa < (l0.length : Int) := oa_
        obtain ⟨bq, bk, bc⟩ := Kd.at_int HR0.o aa aw aA
        cases bk
        replace aw := eq_true aw; replace aA := eq_true aA
        have ax : 0 ≤ (aa : Int) := oa_
        have aC : aa < (l1.length : Int) := oa_
        obtain ⟨br, bl, bd⟩ := Kd.at_int HR1.o aa ax aC
        cases bl
        replace ax := eq_true ax; replace aC := eq_true aC
        go_wp2
        repeat (go_quiet (fail); try go_wp2)
        go_roundg k1
        case measure => have := aI.o; omega
        case rel => exact ⟨(wrap64 (aa + 1)), (by rfl), H', ⟨by have := aI.o; omega⟩, by repeat (first | exact Drawn0.refl _ | apply Drawn0.step)⟩
       rw [if_neg c7] at H
       have bF : ((rd l0 aa) == (rd l1 aa)) = false := beq_eq_false_iff_ne.mpr c7
       have bG : ((rd l0 aa) != (rd l1 aa)) = true := bne_iff_ne.mpr c7
       obtain rfl := Option.some.inj H
       have aw : 0 ≤ (aa : Int) := oa_
       have aA : aa < (l0.length : Int) := oa_
       obtain ⟨bq, bk, bc⟩ := Kd.at_int HR0.o aa aw aA
       cases bk
       replace aw := eq_true aw; replace aA := eq_true aA
       have ax : 0 ≤ (aa : Int) := oa_
       have aC : aa < (l1.length : Int) := oa_
       obtain ⟨br, bl, bd⟩ := Kd.at_int HR1.o aa ax aC
       cases bl
       replace ax := eq_true ax; replace aC := eq_true aC
       go_wp2
       repeat (go_quiet (fail); try go_wp2)
       go_ret
       exact ⟨by rfl, by repeat (first | exact Drawn0.refl _ | apply Drawn0.step)⟩
      rw [if_neg c6] at H
      cases H
     rw [if_neg c5] at H
     cases H
    rw [if_neg c4] at H; have bb := decide_eq_false c4; clear c4; obtain rfl := Option.some.inj H
    go_wp2
    repeat (go_quiet (fail); try go_wp2)
    go_ret
    exact ⟨by rfl, by repeat (first | exact Drawn0.refl _ | apply Drawn0.step)⟩
 rw [if_neg c3] at H
 have bt : ((l0.length : Int) == (l1.length : Int)) = false := beq_eq_false_iff_ne.mpr c3
 have bu : ((l0.length : Int) != (l1.length : Int)) = true := bne_iff_ne.mpr c3
 have bv : (l0.length == l1.length) = false := by first | simpa using c3 | (simp at c3 ⊢; omega)
 obtain rfl := Option.some.inj H; go_enter Try.func61, Try.ntmps61
 go_wp2
 repeat (go_quiet (fail); try go_wp2)
 go_ret
 exact ⟨by rfl, by repeat (first | exact Drawn0.refl _ | apply Drawn0.step)⟩

mutual
def spec_l4Number.l0 : Nat → List (List Int) → List Int → Int → Int → Option (List Int)
 | 0, _, _, _, _ => none
 | k + 1, x0, x3, x4, x5 => if x5 < (x0.length : Int) then (spec_l4Number.l1 k x0 x3 x4 x5 (-1) 0) else (some x3)
def spec_l4Number.l1 : Nat → List (List Int) → List Int → Int → Int → Int → Int → Option (List Int)
 | 0, _, _, _, _, _, _ => none
 | k + 1, x0, x3, x4, x5, x6, x7 => if x7 < x5 then (spec_l4Number.j2 k x0 x3 x4 x5 x6 x7 (decide (x6 < 0))) else (spec_l4Number.j2 k x0 x3 x4 x5 x6 x7 false)
def spec_l4Number.j2 : Nat → List (List Int) → List Int → Int → Int → Int → Int → Bool → Option (List Int)
 | 0, _, _, _, _, _, _, _ => none
 | k + 1, x0, x3, x4, x5, x6, x7, bO => if bO = true then (if 0 ≤ x7 then (if x7 < (x0.length : Int) then (if 0 ≤ x5 then (if x5 < (x0.length : Int) then ((spec_l3Same.f k (rd_L1 x0 x7) (rd_L1 x0 x5)).bind fun bo => (if bo = true then (if x7 < (x3.length : Int) then (spec_l4Number.l1 k x0 x3 x4 x5 (rd x3 x7) (wrap64 (x7 + 1))) else (none)) else (spec_l4Number.l1 k x0 x3 x4 x5 x6 (wrap64 (x7 + 1))))) else (none)) else (none)) else (none)) else (none)) else (if x6 < 0 then (if x3.length < 17592186044416 then (spec_l4Number.l0 k x0 (x3 ++ [x4]) (wrap64 (x4 + 1)) (wrap64 (x5 + 1))) else (none)) else (if x3.length < 17592186044416 then (spec_l4Number.l0 k x0 (x3 ++ [x6]) x4 (wrap64 (x5 + 1))) else (none)))
end
def spec_l4Number.f (k : Nat) (l0 : List (List Int)) : Option (List Int) := spec_l4Number.l0 k l0 (([] : List Int)) 0 0
theorem spec_l4Number.calls (k : Nat) (A0 : Option Addr) (c0 : Nat) (l0 : List (List Int)) (r : List Int) (w : World) (hr0 : Kd.C (Kd.slice 3 (Kd.int .i64)) w A0 l0.length l0) (hc0 : l0.length ≤ c0) (h : spec_l4Number.f k l0 = some r) :
  Calls Try.prog 54 #[.slice A0 l0.length c0] w fun e w' => ∃ v0_ : Value, e = .returned (v0_) ∧ Kd.R (Kd.int .i64) 3 w' w.heap.size (fun _ => True) v0_ r ∧ Below w.heap.size w w' := by
 have HR0 := A_ hr0; have HC0 := A_ hc0; clear hr0 hc0; have HB := A_ (Below.refl w.heap.size w); unfold spec_l4Number.f at h; have H := h; clear h; obtain ⟨bC, aZ⟩ := ex_ ((([] : List Int)) : List Int); replace H : (spec_l4Number.l0 k l0 bC 0 0) = some r := by (rw [aZ]; with_reducible exact H)
 have av := A_ aZ; clear aZ
 have H' := A_ H
 clear H; go_enter Try.func54, Try.ntmps54
 go_wp2_with (first | ((with_reducible refine gd_ 8 rfl ?_); refine RL_ 8 3 [] [] rfl rfl (by go_simp; done) rfl rfl ?_; rintro bz w2 ho3 hb - -; (rw [← av.o] at ho3); have aJ := A_ (Kd.R_lower ho3 (below_size HB.o)); replace HB := bs_ HB hb; clear hb ho3))
 repeat (go_quiet (first | ((with_reducible refine gate_dst (N := 8) rfl ?_); refine Kd.R_lit (Kd.int .i64) _ 3 ?hg (N := 8) ?hd (xs := ([] : List Int)) (inner := []) (ok := fun _ => True) (okp := fun _ => True) ?hr ?hp (fun _ hk => hk) trivial (Below.refl _ _) (Nat.le_refl _) (by simp) ?_; (case hd | hg => rfl); (case hr => first | (go_simp; done) | (go_simp; rfl)); (case hp => exact (Reps.none _ _)); rintro bz w2 ho3 hb - -; (first | rw [← av.o] at ho3 | (simp only [Int.reduceToNat] at ho3; rw [← av.o] at ho3)); have aJ := A_ (Kd.R_lower ho3 (below_size HB.o)); replace HB := bs_ HB hb; clear hb ho3)); try go_wp2_with (first | ((with_reducible refine gate_dst (N := 8) rfl ?_); refine Kd.R_lit (Kd.int .i64) _ 3 ?hg (N := 8) ?hd (xs := ([] : List Int)) (inner := []) (ok := fun _ => True) (okp := fun _ => True) ?hr ?hp (fun _ hk => hk) trivial (Below.refl _ _) (Nat.le_refl _) (by simp) ?_; (case hd | hg => rfl); (case hr => first | (go_simp; done) | (go_simp; rfl)); (case hp => exact (Reps.none _ _)); rintro bz w2 ho3 hb - -; (first | rw [← av.o] at ho3 | (simp only [Int.reduceToNat] at ho3; rw [← av.o] at ho3)); have aJ := A_ (Kd.R_lower ho3 (below_size HB.o)); replace HB := bs_ HB hb; clear hb ho3)))
 go_loopg [3, 4, 5] k (fun kq v3 v4 v5 w' => ∃ (ae : List Int) (al : Int) (aa : Int), v4 = .int .i64 al ∧ v5 = .int .i64 aa ∧ Aside0 (spec_l4Number.l0 kq l0 ae al aa = some r) ∧ Aside0 (kq ≤ k) ∧ Aside0 (Kd.R (Kd.int .i64) 3 w' w.heap.size (fun _ => True) v3 ae) ∧ Aside0 (Below w.heap.size w w'))
 case atStart => exact ⟨(bC), (0), (0), (by rfl), (by rfl), H', ⟨Nat.le_refl _⟩, ⟨aJ.o⟩, ⟨HB.o⟩⟩
 case round =>
  clear H'; obtain ⟨ae, al, aa, rfl, rfl, HA, aI, ac, HB⟩ := hrel
  cases gk with
  | zero => exact nz_ HA.o
  | succ k1 =>
   have H := HA.o; clear HA; simp only [spec_l4Number.l0] at H
   by_cases c4 : aa < (l0.length : Int)
   ·rw [if_pos c4] at H; have bb := decide_eq_true c4; clear c4
    have H' := A_ H
    clear H
    go_wp2
    repeat (go_quiet (fail); try go_wp2)
    go_loopg [6, 7] k1 (fun kq v6 v7 w' => ∃ (aq : Int) (ab : Int), v6 = .int .i64 aq ∧ v7 = .int .i64 ab ∧ Aside0 (spec_l4Number.l1 kq l0 ae al aa aq ab = some r) ∧ Aside0 (kq ≤ k1) ∧ Aside0 (Kd.R (Kd.int .i64) 3 w' w.heap.size (fun _ => True) u3 ae) ∧ Aside0 (Below w.heap.size w w'))
    case atStart => exact ⟨((-1)), (0), (by rfl), (by rfl), H', ⟨Nat.le_refl _⟩, ⟨ac.o⟩, ⟨HB.o⟩⟩
    case round =>
     clear H'
     try clear bb
     obtain ⟨aq, ab, rfl, rfl, HA, ba, ac, HB⟩ := hrel
     cases gk with
     | zero => exact nz_ HA.o
     | succ k2 =>
      have H := HA.o; clear HA; simp only [spec_l4Number.l1] at H; have HC5 := A_ H; clear H
      go_upto_region 8 with (fail)
      repeat (go_quiet (fail); go_upto_region 8 with (fail))
      go_cut [21] (fun bN wc => ∃ (kq : Nat) (aH : Bool), bN = .bool aH ∧ Aside0 (spec_l4Number.j2 kq l0 ae al aa aq ab aH = some r) ∧ Aside0 (kq ≤ k2) ∧ Aside0 (Kd.R (Kd.int .i64) 3 wc w.heap.size (fun _ => True) u3 ae) ∧ Aside0 (Below w.heap.size w wc))
      case first =>
       have H := HC5.o; clear HC5
       by_cases c6 : ab < aa
       ·rw [if_pos c6] at H; have bw := decide_eq_true c6; clear c6
        (skip)
        have H' := A_ H
        clear H
        go_wp2
        repeat (go_quiet (fail); try go_wp2)
        go_meet
        case rel => exact ⟨_, (decide (aq < 0)), (by rfl), H', ⟨by have := aI.o; have := ba.o; omega⟩, ⟨ac.o⟩, ⟨HB.o⟩⟩
       rw [if_neg c6] at H; have bw := decide_eq_false c6; clear c6
       (skip)
       have H' := A_ H
       clear H
       go_wp2
       repeat (go_quiet (fail); try go_wp2)
       go_meet
       case rel => exact ⟨_, (false), (by rfl), H', ⟨by have := aI.o; have := ba.o; omega⟩, ⟨ac.o⟩, ⟨HB.o⟩⟩
      case rest =>
       clear HC5; obtain ⟨kq, aH, rfl, HA, be, ac, HB⟩ := hcut
       cases kq with
       | zero => exact nz_ HA.o
       | succ kj4 =>
        have H := HA.o; clear HA; simp only [spec_l4Number.j2] at H
        by_cases c7 : aH = true
        ·subst c7; rw [if_pos rfl] at H
         by_cases c8 : 0 ≤ ab
         ·rw [if_pos c8] at H; have bL := decide_eq_true c8; clear c8
          by_cases c9 : ab < (l0.length : Int)
          ·rw [if_pos c9] at H; have bM := decide_eq_true c9; clear c9
           by_cases c10 : 0 ≤ aa
           ·rw [if_pos c10] at H; have bH := decide_eq_true c10; clear c10
            by_cases c11 : aa < (l0.length : Int)
            ·rw [if_pos c11] at H; have bI := decide_eq_true c11; clear c11; replace H := bA_ H; obtain ⟨bo, A12, H⟩ := H
             by_cases c13 : bo = true
             ·subst c13; rw [if_pos rfl] at H
              by_cases c14 : ab < (ae.length : Int)
              ·rw [if_pos c14] at H; have bJ := decide_eq_true c14; clear c14
               have H' := A_ H
               clear H
               have ay : 0 ≤ (ab : Int) := oa_
               have aD : ab < (l0.length : Int) := oa_
               obtain ⟨aV, bg, bi, bm, aj, ao, am⟩ := at_L1 HR0.o ab ay aD
               cases bm
               replace aj := (HB.o.cell (World.block_lt_of_cell? w _ aj)).trans aj; have ah := A_ am; have af := A_ ao; clear am ao; replace ay := eq_true ay; replace aD := eq_true aD
               have az : 0 ≤ (aa : Int) := oa_
               have aE : aa < (l0.length : Int) := oa_
               obtain ⟨aW, bh, bj, bn, ak, ap, an⟩ := at_L1 HR0.o aa az aE; obtain rfl : aV = aW := (by injection bn); replace ak := (HB.o.cell (World.block_lt_of_cell? w _ ak)).trans ak; have ai := A_ an; have ag := A_ ap; clear an ap; replace az := eq_true az; replace aE := eq_true aE
               go_wp2_with (first | (go_at_call 61; (with_reducible refine (spec_l3Same.calls kj4 _ _ (rd_L1 l0 ab) _ _ (rd_L1 l0 aa) true _ ?side1 ?side2 ?side3 ?side4 A12.o).mono ?_); (case side1 => exact (Kd.C_below ah.o HB.o)); (case side2 => exact af.o); (case side3 => exact (Kd.C_below ai.o HB.o)); (case side4 => exact ag.o); rintro e w' ⟨rfl, ⟨nd, rfl⟩⟩; skip; obtain ⟨bp, bx, aY⟩ := Kd.R_slice ac.o; subst aY; have ar : 0 ≤ (ab : Int) := of_decide_eq_true (by first | (with_reducible assumption) | assumption); have au : ab < (ae.length : Int) := of_decide_eq_true (by first | (with_reducible assumption) | assumption); obtain ⟨bf, aX, aG⟩ := Kd.at_int (Kd.R_reads' ac.o).2.2 ab ar au; cases aX; replace ar := eq_true ar; replace au := eq_true au))
               repeat (go_quiet (first | (go_at_call 61; (with_reducible refine (spec_l3Same.calls kj4 _ _ (rd_L1 l0 ab) _ _ (rd_L1 l0 aa) true _ ?side1 ?side2 ?side3 ?side4 A12.o).mono ?_); (case side1 => repeat (first | exact (Kd.C_below ah.o HB.o) | (with_reducible refine Kd.C_alloc ?_ _) | (with_reducible refine Kd.C_drewN ?_ _) | (with_reducible refine Kd.C_drew ?_))); (case side2 => exact af.o); (case side3 => repeat (first | exact (Kd.C_below ai.o HB.o) | (with_reducible refine Kd.C_alloc ?_ _) | (with_reducible refine Kd.C_drewN ?_ _) | (with_reducible refine Kd.C_drew ?_))); (case side4 => exact ag.o); rintro e w' ⟨rfl, ⟨nd, rfl⟩⟩; exact ⟨rfl, _, World.drewN_drewN _ _ _⟩; obtain ⟨bp, bx, aY⟩ := Kd.R_slice ac.o; subst aY; have ar : 0 ≤ (ab : Int) := oa_; have au : ab < (ae.length : Int) := oa_; obtain ⟨bf, aX, aG⟩ := Kd.at_int (Kd.R_reads' ac.o).2.2 ab ar au; cases aX; replace ar := eq_true ar; replace au := eq_true au)); try go_wp2_with (first | (go_at_call 61; (with_reducible refine (spec_l3Same.calls kj4 _ _ (rd_L1 l0 ab) _ _ (rd_L1 l0 aa) true _ ?side1 ?side2 ?side3 ?side4 A12.o).mono ?_); (case side1 => exact (Kd.C_below ah.o HB.o)); (case side2 => exact af.o); (case side3 => exact (Kd.C_below ai.o HB.o)); (case side4 => exact ag.o); rintro e w' ⟨rfl, ⟨nd, rfl⟩⟩; skip; obtain ⟨bp, bx, aY⟩ := Kd.R_slice ac.o; subst aY; have ar : 0 ≤ (ab : Int) := of_decide_eq_true (by first | (with_reducible assumption) | assumption); have au : ab < (ae.length : Int) := of_decide_eq_true (by first | (with_reducible assumption) | assumption); obtain ⟨bf, aX, aG⟩ := Kd.at_int (Kd.R_reads' ac.o).2.2 ab ar au; cases aX; replace ar := eq_true ar; replace au := eq_true au)))
               go_roundg kj4
               case measure => have := aI.o; have := ba.o; have := be.o; omega
               case rel => exact ⟨(rd ae ab), (wrap64 (ab + 1)), (by rfl), (by rfl), H', ⟨by have := aI.o; have := ba.o; have := be.o; omega⟩, ⟨by (with_reducible repeat (first | apply Kd.R_alloc | apply Kd.R_drewN | apply Kd.R_drew)); exact ac.o⟩, ⟨by repeat (first | (with_reducible first | exact HB.o | apply below_alloc | apply pw_below_drewN | apply below_drew1) | exact HB.o)⟩⟩
              rw [if_neg c14] at H
              cases H
             replace c13 := Bool.eq_false_iff.mpr c13; subst c13; rw [if_neg nf_] at H
             have H' := A_ H
             clear H
             have ay : 0 ≤ (ab : Int) := oa_
             have aD : ab < (l0.length : Int) := oa_
             obtain ⟨aV, bg, bi, bm, aj, ao, am⟩ := at_L1 HR0.o ab ay aD
             cases bm
             replace aj := (HB.o.cell (World.block_lt_of_cell? w _ aj)).trans aj; have ah := A_ am; have af := A_ ao; clear am ao; replace ay := eq_true ay; replace aD := eq_true aD
             have az : 0 ≤ (aa : Int) := oa_
             have aE : aa < (l0.length : Int) := oa_
             obtain ⟨aW, bh, bj, bn, ak, ap, an⟩ := at_L1 HR0.o aa az aE; obtain rfl : aV = aW := (by injection bn); replace ak := (HB.o.cell (World.block_lt_of_cell? w _ ak)).trans ak; have ai := A_ an; have ag := A_ ap; clear an ap; replace az := eq_true az; replace aE := eq_true aE
             go_wp2_with (first | (go_at_call 61; (with_reducible refine (spec_l3Same.calls kj4 _ _ (rd_L1 l0 ab) _ _ (rd_L1 l0 aa) false _ ?side1 ?side2 ?side3 ?side4 A12.o).mono ?_); (case side1 => exact (Kd.C_below ah.o HB.o)); (case side2 => exact af.o); (case side3 => exact (Kd.C_below ai.o HB.o)); (case side4 => exact ag.o); rintro e w' ⟨rfl, ⟨nd, rfl⟩⟩; skip))
             repeat (go_quiet (first | (go_at_call 61; (with_reducible refine (spec_l3Same.calls kj4 _ _ (rd_L1 l0 ab) _ _ (rd_L1 l0 aa) false _ ?side1 ?side2 ?side3 ?side4 A12.o).mono ?_); (case side1 => repeat (first | exact (Kd.C_below ah.o HB.o) | (with_reducible refine Kd.C_alloc ?_ _) | (with_reducible refine Kd.C_drewN ?_ _) | (with_reducible refine Kd.C_drew ?_))); (case side2 => exact af.o); (case side3 => repeat (first | exact (Kd.C_below ai.o HB.o) | (with_reducible refine Kd.C_alloc ?_ _) | (with_reducible refine Kd.C_drewN ?_ _) | (with_reducible refine Kd.C_drew ?_))); (case side4 => exact ag.o); rintro e w' ⟨rfl, ⟨nd, rfl⟩⟩; exact ⟨rfl, _, World.drewN_drewN _ _ _⟩)); try go_wp2_with (first | (go_at_call 61; (with_reducible refine (spec_l3Same.calls kj4 _ _ (rd_L1 l0 ab) _ _ (rd_L1 l0 aa) false _ ?side1 ?side2 ?side3 ?side4 A12.o).mono ?_); (case side1 => exact (Kd.C_below ah.o HB.o)); (case side2 => exact af.o); (case side3 => exact (Kd.C_below ai.o HB.o)); (case side4 => exact ag.o); rintro e w' ⟨rfl, ⟨nd, rfl⟩⟩; skip)))
             go_roundg kj4
             case measure => have := aI.o; have := ba.o; have := be.o; omega
             case rel => exact ⟨(aq), (wrap64 (ab + 1)), (by rfl), (by rfl), H', ⟨by have := aI.o; have := ba.o; have := be.o; omega⟩, ⟨by (with_reducible repeat (first | apply Kd.R_alloc | apply Kd.R_drewN | apply Kd.R_drew)); exact ac.o⟩, ⟨by repeat (first | (with_reducible first | exact HB.o | apply below_alloc | apply pw_below_drewN | apply below_drew1) | exact HB.o)⟩⟩
            rw [if_neg c11] at H
            cases H
           rw [if_neg c10] at H
           cases H
          rw [if_neg c9] at H
          cases H
         rw [if_neg c8] at H
         cases H
        replace c7 := Bool.eq_false_iff.mpr c7; subst c7; rw [if_neg nf_] at H
        by_cases c16 : aq < 0
        ·rw [if_pos c16] at H; have bs := decide_eq_true c16; clear c16
         by_cases c17 : ae.length < 17592186044416
         ·rw [if_pos c17] at H; have aN := A_ c17; clear c17; obtain ⟨bD, a8⟩ := ex_ ((ae ++ [al]) : List Int); replace H : (spec_l4Number.l0 kj4 l0 bD (wrap64 (al + 1)) (wrap64 (aa + 1))) = some r := by (rw [a8]; with_reducible exact H)
          have aT := A_ a8; clear a8
          have H' := A_ H
          clear H
          go_wp2_with (first | ((with_reducible refine gate_builtin (b := .append) (xs := #[.tmp 42, .tmp 44]) rfl ?_); at_builtin; refine Kd.R_append (Kd.int .i64) (w0 := w) w.heap.size rfl (.tmp 42) (.tmp 44) 23 3 (.int .i64 0) 8 rfl Try.underlying23 info3 rfl (by decide) (by omega) u3 ae al [.int .i64 al] (fun _ => True) (fun _ => False) rfl rfl ?aP (fun _ hk => hk.elim) ?aF ?aO ?aB ?aS ?aL ?_; (case aP => exact rfl); (case aB => exact HB.o); (case aF => exact (fun _ _ => trivial)); (case aO => exact ac.o); (case aS => exact (below_size HB.o)); (case aL => have := aN.o; omega); intro bA w18 ho hb hg hat; rw [← aT.o] at ho; replace HB := A_ (hb); have aK := A_ (ho); clear ac; clear ho hb hg hat))
          repeat (go_quiet (first | ((with_reducible refine gate_builtin (b := .append) (xs := #[.tmp 42, .tmp 44]) rfl ?_); at_builtin; refine Kd.R_append (Kd.int .i64) (w0 := w) w.heap.size rfl (.tmp 42) (.tmp 44) 23 3 (.int .i64 0) 8 rfl Try.underlying23 info3 rfl (by decide) (by omega) u3 ae al [.int .i64 al] (fun _ => True) (fun _ => False) rfl rfl ?aP (fun _ hk => hk.elim) ?aF ?aO ?aB ?aS ?aL ?_; (case aP => exact rfl); (case aB => exact HB.o); (case aF => exact (fun _ _ => trivial)); (case aO => exact ac.o); (case aS => exact (below_size HB.o)); (case aL => have := aN.o; omega); intro bA w18 ho hb hg hat; rw [← aT.o] at ho; replace HB := A_ (hb); have aK := A_ (ho); clear ac; clear ho hb hg hat)); try go_wp2_with (first | ((with_reducible refine gate_builtin (b := .append) (xs := #[.tmp 42, .tmp 44]) rfl ?_); at_builtin; refine Kd.R_append (Kd.int .i64) (w0 := w) w.heap.size rfl (.tmp 42) (.tmp 44) 23 3 (.int .i64 0) 8 rfl Try.underlying23 info3 rfl (by decide) (by omega) u3 ae al [.int .i64 al] (fun _ => True) (fun _ => False) rfl rfl ?aP (fun _ hk => hk.elim) ?aF ?aO ?aB ?aS ?aL ?_; (case aP => exact rfl); (case aB => exact HB.o); (case aF => exact (fun _ _ => trivial)); (case aO => exact ac.o); (case aS => exact (below_size HB.o)); (case aL => have := aN.o; omega); intro bA w18 ho hb hg hat; rw [← aT.o] at ho; replace HB := A_ (hb); have aK := A_ (ho); clear ac; clear ho hb hg hat)))
          go_roundg kj4
          case measure => have := aI.o; have := ba.o; have := be.o; omega
          case rel => exact ⟨(bD), (wrap64 (al + 1)), (wrap64 (aa + 1)), (by rfl), (by rfl), H', ⟨by have := aI.o; have := ba.o; have := be.o; omega⟩, ⟨aK.o⟩, ⟨HB.o⟩⟩
         rw [if_neg c17] at H
         cases H
        rw [if_neg c16] at H; have bs := decide_eq_false c16; clear c16
        by_cases c19 : ae.length < 17592186044416
        ·rw [if_pos c19] at H; have aQ := A_ c19; clear c19; obtain ⟨bE, a9⟩ := ex_ ((ae ++ [aq]) : List Int); replace H : (spec_l4Number.l0 kj4 l0 bE al (wrap64 (aa + 1))) = some r := by (rw [a9]; with_reducible exact H)
         have aU := A_ a9; clear a9
         have H' := A_ H
         clear H
         go_wp2_with (first | ((with_reducible refine gate_builtin (b := .append) (xs := #[.tmp 42, .tmp 44]) rfl ?_); at_builtin; refine Kd.R_append (Kd.int .i64) (w0 := w) w.heap.size rfl (.tmp 42) (.tmp 44) 23 3 (.int .i64 0) 8 rfl Try.underlying23 info3 rfl (by decide) (by omega) u3 ae aq [.int .i64 aq] (fun _ => True) (fun _ => False) rfl rfl ?aP (fun _ hk => hk.elim) ?aF ?aO ?aB ?aS ?aL ?_; (case aP => exact rfl); (case aB => exact HB.o); (case aF => exact (fun _ _ => trivial)); (case aO => exact ac.o); (case aS => exact (below_size HB.o)); (case aL => have := aQ.o; omega); intro bB w20 ho hb hg hat; rw [← aU.o] at ho; replace HB := A_ (hb); have aM := A_ (ho); clear ac; clear ho hb hg hat))
         repeat (go_quiet (first | ((with_reducible refine gate_builtin (b := .append) (xs := #[.tmp 42, .tmp 44]) rfl ?_); at_builtin; refine Kd.R_append (Kd.int .i64) (w0 := w) w.heap.size rfl (.tmp 42) (.tmp 44) 23 3 (.int .i64 0) 8 rfl Try.underlying23 info3 rfl (by decide) (by omega) u3 ae aq [.int .i64 aq] (fun _ => True) (fun _ => False) rfl rfl ?aP (fun _ hk => hk.elim) ?aF ?aO ?aB ?aS ?aL ?_; (case aP => exact rfl); (case aB => exact HB.o); (case aF => exact (fun _ _ => trivial)); (case aO => exact ac.o); (case aS => exact (below_size HB.o)); (case aL => have := aQ.o; omega); intro bB w20 ho hb hg hat; rw [← aU.o] at ho; replace HB := A_ (hb); have aM := A_ (ho); clear ac; clear ho hb hg hat)); try go_wp2_with (first | ((with_reducible refine gate_builtin (b := .append) (xs := #[.tmp 42, .tmp 44]) rfl ?_); at_builtin; refine Kd.R_append (Kd.int .i64) (w0 := w) w.heap.size rfl (.tmp 42) (.tmp 44) 23 3 (.int .i64 0) 8 rfl Try.underlying23 info3 rfl (by decide) (by omega) u3 ae aq [.int .i64 aq] (fun _ => True) (fun _ => False) rfl rfl ?aP (fun _ hk => hk.elim) ?aF ?aO ?aB ?aS ?aL ?_; (case aP => exact rfl); (case aB => exact HB.o); (case aF => exact (fun _ _ => trivial)); (case aO => exact ac.o); (case aS => exact (below_size HB.o)); (case aL => have := aQ.o; omega); intro bB w20 ho hb hg hat; rw [← aU.o] at ho; replace HB := A_ (hb); have aM := A_ (ho); clear ac; clear ho hb hg hat)))
         go_roundg kj4
         case measure => have := aI.o; have := ba.o; have := be.o; omega
         case rel => exact ⟨(bE), (al), (wrap64 (aa + 1)), (by rfl), (by rfl), H', ⟨by have := aI.o; have := ba.o; have := be.o; omega⟩, ⟨aM.o⟩, ⟨HB.o⟩⟩
        rw [if_neg c19] at H
        cases H
   rw [if_neg c4] at H; have bb := decide_eq_false c4; clear c4; obtain rfl := Option.some.inj H
   go_wp2
   repeat (go_quiet (fail); try go_wp2)
   go_ret
   exact ⟨_, by rfl, ac.o, HB.o⟩

end Go.Proofs.Ytgmfjcckmapkbaa.PFnExactCountingForm

