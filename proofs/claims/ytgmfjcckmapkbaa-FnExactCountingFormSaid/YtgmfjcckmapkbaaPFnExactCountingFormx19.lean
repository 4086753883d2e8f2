/- Walks of the functions that the law reaches. -/
import Derived.Test.YtgmfjcckmapkbaaPFnExactCountingFormx0
namespace Go.Proofs.Ytgmfjcckmapkbaa.PFnExactCountingForm
open Go.RowKit Go.Proofs.YtgmfjcckmapkbaaW.PrintWords Go.Proofs.YtgmfjcckmapkbaaW.PrintLast Go.Proofs.YtgmfjcckmapkbaaW.PrintMore
attribute [local go_sem] max2_int min2_int max_two min_two max_three min_three max_four min_four
set_option linter.unusedVariables false
set_option maxHeartbeats 8000000
set_option maxRecDepth 100000
set_option linter.unusedSimpArgs false

def laws_heldIntS.l0 : Nat → List Int → Int → Int → Option (Int)
 | 0, _, _, _ => none
 | k + 1, x0, x1, x5 => if x5 < (x0.length : Int) then (if 0 ≤ x5 then (if (rd x0 x5) = x1 then (laws_heldIntS.l0 k x0 (wrap64 (x1 + 1)) (wrap64 (x5 + 1))) else (some (-1))) else (none)) else (some x1)
def laws_heldIntS.f (k : Nat) (l0 : List Int) (a1 : Int) : Option (Int) := laws_heldIntS.l0 k l0 a1 0
theorem laws_heldIntS.calls (k : Nat) (A0 : Option Addr) (c0 : Nat) (l0 : List Int) (a1 : Int) (r : Int) (w : World) (hr0 : Kd.C (Kd.int .i64) w A0 l0.length l0) (hc0 : l0.length ≤ c0) (h : laws_heldIntS.f k l0 a1 = some r) :
  Calls Try.prog 35 #[.slice A0 l0.length c0, .int .i64 a1] w fun e w' => e = .returned (.int .i64 r) ∧ Drawn0 w w' := by
 have HR0 := A_ hr0; have HC0 := A_ hc0; clear hr0 hc0; unfold laws_heldIntS.f at h; have H := h; clear h
 have H' := A_ H
 clear H; go_enter Try.func35, Try.ntmps35
 go_wp2
 go_loopg [1, 5] k (fun kq v1 v5 w' => ∃ (ab : Int) (aa : Int), v1 = .int .i64 ab ∧ v5 = .int .i64 aa ∧ Aside0 (laws_heldIntS.l0 kq l0 ab aa = some r) ∧ Aside0 (kq ≤ k) ∧ Drawn0 w w')
 case atStart => exact ⟨(a1), (0), (by rfl), (by rfl), H', ⟨Nat.le_refl _⟩, by repeat (first | exact Drawn0.refl _ | apply Drawn0.step)⟩
 case round =>
  clear H'; obtain ⟨ab, aa, rfl, rfl, HA, bb, ⟨m1, rfl⟩⟩ := hrel
  cases gk with
  | zero => exact nz_ HA.o
  | succ k1 =>
   have H := HA.o; clear HA; simp only [laws_heldIntS.l0] at H
   by_cases c3 : aa < (l0.length : Int)
   ·rw [if_pos c3] at H; have aW := decide_eq_true c3; clear c3
    by_cases c4 : 0 ≤ aa
    ·rw [if_pos c4] at H; have aY := decide_eq_true c4; clear c4
     by_cases c5 : (rd l0 aa) = ab
     ·rw [if_pos c5] at H
      have bz : ((rd l0 aa) == ab) = true := beq_iff_eq.mpr c5
      have bA : ((rd l0 aa) != ab) = false := bne_eq_false_iff_eq.mpr c5
      clear c5
      have H' := A_ H
      clear H
      have av : 0 ≤ (aa : Int) := oa_
      have ay : aa < (l0.length : Int) := oa_
      obtain ⟨br, bo, aZ⟩ := Kd.at_int HR0.o aa av ay
      cases bo
      replace av := eq_true av; replace ay := eq_true ay
      go_wp2
      go_roundg k1
      case measure => have := bb.o; omega
      case rel => exact ⟨(wrap64 (ab + 1)), (wrap64 (aa + 1)), (by rfl), (by rfl), H', ⟨by have := bb.o; omega⟩, by repeat (first | exact Drawn0.refl _ | apply Drawn0.step)⟩
     rw [if_neg c5] at H
     have bz : ((rd l0 aa) == ab) = false := beq_eq_false_iff_ne.mpr c5
     have bA : ((rd l0 aa) != ab) = true := bne_iff_ne.mpr c5
     obtain rfl := Option.some.inj H
     have av : 0 ≤ (aa : Int) := oa_
     have ay : aa < (l0.length : Int) := oa_
     obtain ⟨br, bo, aZ⟩ := Kd.at_int HR0.o aa av ay
     cases bo
     replace av := eq_true av; replace ay := eq_true ay
     go_wp2
     go_ret
     exact ⟨by rfl, by repeat (first | exact Drawn0.refl _ | apply Drawn0.step)⟩
    rw [if_neg c4] at H
    cases H
   rw [if_neg c3] at H; have aW := decide_eq_false c3; clear c3; obtain rfl := Option.some.inj H
   go_wp2
   go_ret
   exact ⟨by rfl, by repeat (first | exact Drawn0.refl _ | apply Drawn0.step)⟩

def laws_heldIntSS.l0 : Nat → List (List Int) → Int → Int → Option (Int)
 | 0, _, _, _ => none
 | k + 1, x0, x1, x5 => if x5 < (x0.length : Int) then (if 0 ≤ x5 then ((laws_heldIntS.f k (rd_L1 x0 x5) x1).bind fun aC => (if aC < 0 then (some (-1)) else (laws_heldIntSS.l0 k x0 aC (wrap64 (x5 + 1))))) else (none)) else (some x1)
def laws_heldIntSS.f (k : Nat) (l0 : List (List Int)) (a1 : Int) : Option (Int) := laws_heldIntSS.l0 k l0 a1 0
theorem laws_heldIntSS.calls (k : Nat) (A0 : Option Addr) (c0 : Nat) (l0 : List (List Int)) (a1 : Int) (r : Int) (w : World) (hr0 : Kd.C (Kd.slice 3 (Kd.int .i64)) w A0 l0.length l0) (hc0 : l0.length ≤ c0) (h : laws_heldIntSS.f k l0 a1 = some r) :
  Calls Try.prog 45 #[.slice A0 l0.length c0, .int .i64 a1] w fun e w' => e = .returned (.int .i64 r) ∧ Drawn0 w w' := by
 have HR0 := A_ hr0; have HC0 := A_ hc0; clear hr0 hc0; unfold laws_heldIntSS.f at h; have H := h; clear h
 have H' := A_ H
 clear H; go_enter Try.func45, Try.ntmps45
 go_wp2
 go_loopg [1, 5] k (fun kq v1 v5 w' => ∃ (ab : Int) (aa : Int), v1 = .int .i64 ab ∧ v5 = .int .i64 aa ∧ Aside0 (laws_heldIntSS.l0 kq l0 ab aa = some r) ∧ Aside0 (kq ≤ k) ∧ Drawn0 w w')
 case atStart => exact ⟨(a1), (0), (by rfl), (by rfl), H', ⟨Nat.le_refl _⟩, by repeat (first | exact Drawn0.refl _ | apply Drawn0.step)⟩
 case round =>
  clear H'; obtain ⟨ab, aa, rfl, rfl, HA, bb, ⟨m1, rfl⟩⟩ := hrel
  cases gk with
  | zero => exact nz_ HA.o
  | succ k1 =>
   have H := HA.o; clear HA; simp only [laws_heldIntSS.l0] at H
   by_cases c3 : aa < (l0.length : Int)
   ·rw [if_pos c3] at H; have aW := decide_eq_true c3; clear c3
    by_cases c4 : 0 ≤ aa
    ·rw [if_pos c4] at H; have aY := decide_eq_true c4; clear c4; replace H := bA_ H; obtain ⟨aC, A5, H⟩ := H
     by_cases c6 : aC < 0
     ·rw [if_pos c6] at H; have bn := decide_eq_true c6; clear c6; obtain rfl := Option.some.inj H
      have aw : 0 ≤ (aa : Int) := oa_
      have az : aa < (l0.length : Int) := oa_
      obtain ⟨bs, bj, bl, bp, a8, ah, af⟩ := at_L1 HR0.o aa aw az
      cases bp
      have ap := A_ af; have an := A_ ah; clear af ah; replace aw := eq_true aw; replace az := eq_true az
      go_wp2_with (first | ((with_reducible refine gc_ 35 rfl ?_); refine cM_ E35 17 (laws_heldIntS.calls k1 _ _ (rd_L1 l0 aa) ab aC _ (by repeat (first | exact ap.o | (with_reducible refine Kd.C_alloc ?_ _) | (with_reducible refine Kd.C_drewN ?_ _) | (with_reducible refine Kd.C_drew ?_))) an.o A5.o) ?_; rintro e w' ⟨rfl, ⟨nd, rfl⟩⟩; refine ⟨_, rfl, ?_⟩))
      go_ret
      exact ⟨by rfl, by repeat (first | exact Drawn0.refl _ | apply Drawn0.step)⟩
     rw [if_neg c6] at H; have bn := decide_eq_false c6; clear c6
     have H' := A_ H
     clear H
     have aw : 0 ≤ (aa : Int) := oa_
     have az : aa < (l0.length : Int) := oa_
     obtain ⟨bs, bj, bl, bp, a8, ah, af⟩ := at_L1 HR0.o aa aw az
     cases bp
     have ap := A_ af; have an := A_ ah; clear af ah; replace aw := eq_true aw; replace az := eq_true az
     go_wp2_with (first | ((with_reducible refine gc_ 35 rfl ?_); refine cM_ E35 17 (laws_heldIntS.calls k1 _ _ (rd_L1 l0 aa) ab aC _ (by repeat (first | exact ap.o | (with_reducible refine Kd.C_alloc ?_ _) | (with_reducible refine Kd.C_drewN ?_ _) | (with_reducible refine Kd.C_drew ?_))) an.o A5.o) ?_; rintro e w' ⟨rfl, ⟨nd, rfl⟩⟩; refine ⟨_, rfl, ?_⟩))
     go_roundg k1
     case measure => have := bb.o; omega
     case rel => exact ⟨(aC), (wrap64 (aa + 1)), (by rfl), (by rfl), H', ⟨by have := bb.o; omega⟩, by repeat (first | exact Drawn0.refl _ | apply Drawn0.step)⟩
    rw [if_neg c4] at H
    cases H
   rw [if_neg c3] at H; have aW := decide_eq_false c3; clear c3; obtain rfl := Option.some.inj H
   go_wp2
   go_ret
   exact ⟨by rfl, by repeat (first | exact Drawn0.refl _ | apply Drawn0.step)⟩

def laws_heldIntSSS.l0 : Nat → List (List (List Int)) → Int → Int → Option (Int)
 | 0, _, _, _ => none
 | k + 1, x0, x1, x5 => if x5 < (x0.length : Int) then (if 0 ≤ x5 then ((laws_heldIntSS.f k (rd_L2 x0 x5) x1).bind fun aD => (if aD < 0 then (some (-1)) else (laws_heldIntSSS.l0 k x0 aD (wrap64 (x5 + 1))))) else (none)) else (some x1)
def laws_heldIntSSS.f (k : Nat) (l0 : List (List (List Int))) (a1 : Int) : Option (Int) := laws_heldIntSSS.l0 k l0 a1 0
theorem laws_heldIntSSS.calls (k : Nat) (A0 : Option Addr) (c0 : Nat) (l0 : List (List (List Int))) (a1 : Int) (r : Int) (w : World) (hr0 : Kd.C (Kd.slice 23 (Kd.slice 3 (Kd.int .i64))) w A0 l0.length l0) (hc0 : l0.length ≤ c0) (h : laws_heldIntSSS.f k l0 a1 = some r) :
  Calls Try.prog 36 #[.slice A0 l0.length c0, .int .i64 a1] w fun e w' => e = .returned (.int .i64 r) ∧ Drawn0 w w' := by
 have HR0 := A_ hr0; have HC0 := A_ hc0; clear hr0 hc0; unfold laws_heldIntSSS.f at h; have H := h; clear h
 have H' := A_ H
 clear H; go_enter Try.func36, Try.ntmps36
 go_wp2
 go_loopg [1, 5] k (fun kq v1 v5 w' => ∃ (ab : Int) (aa : Int), v1 = .int .i64 ab ∧ v5 = .int .i64 aa ∧ Aside0 (laws_heldIntSSS.l0 kq l0 ab aa = some r) ∧ Aside0 (kq ≤ k) ∧ Drawn0 w w')
 case atStart => exact ⟨(a1), (0), (by rfl), (by rfl), H', ⟨Nat.le_refl _⟩, by repeat (first | exact Drawn0.refl _ | apply Drawn0.step)⟩
 case round =>
  clear H'; obtain ⟨ab, aa, rfl, rfl, HA, bb, ⟨m1, rfl⟩⟩ := hrel
  cases gk with
  | zero => exact nz_ HA.o
  | succ k1 =>
   have H := HA.o; clear HA; simp only [laws_heldIntSSS.l0] at H
   by_cases c3 : aa < (l0.length : Int)
   ·rw [if_pos c3] at H; have aW := decide_eq_true c3; clear c3
    by_cases c4 : 0 ≤ aa
    ·rw [if_pos c4] at H; have aY := decide_eq_true c4; clear c4; replace H := bA_ H; obtain ⟨aD, A5, H⟩ := H
     by_cases c6 : aD < 0
     ·rw [if_pos c6] at H; have bn := decide_eq_true c6; clear c6; obtain rfl := Option.some.inj H
      have ax : 0 ≤ (aa : Int) := oa_
      have aA : aa < (l0.length : Int) := oa_
      obtain ⟨bt, bk, bm, bq, a9, ai, ag⟩ := at_L2 HR0.o aa ax aA
      cases bq
      have aq := A_ ag; have ao := A_ ai; clear ag ai; replace ax := eq_true ax; replace aA := eq_true aA
      go_wp2_with (first | ((with_reducible refine gc_ 45 rfl ?_); refine cM_ E45 17 (laws_heldIntSS.calls k1 _ _ (rd_L2 l0 aa) ab aD _ (by repeat (first | exact aq.o | (with_reducible refine Kd.C_alloc ?_ _) | (with_reducible refine Kd.C_drewN ?_ _) | (with_reducible refine Kd.C_drew ?_))) ao.o A5.o) ?_; rintro e w' ⟨rfl, ⟨nd, rfl⟩⟩; refine ⟨_, rfl, ?_⟩))
      go_ret
      exact ⟨by rfl, by repeat (first | exact Drawn0.refl _ | apply Drawn0.step)⟩
     rw [if_neg c6] at H; have bn := decide_eq_false c6; clear c6
     have H' := A_ H
     clear H
     have ax : 0 ≤ (aa : Int) := oa_
     have aA : aa < (l0.length : Int) := oa_
     obtain ⟨bt, bk, bm, bq, a9, ai, ag⟩ := at_L2 HR0.o aa ax aA
     cases bq
     have aq := A_ ag; have ao := A_ ai; clear ag ai; replace ax := eq_true ax; replace aA := eq_true aA
     go_wp2_with (first | ((with_reducible refine gc_ 45 rfl ?_); refine cM_ E45 17 (laws_heldIntSS.calls k1 _ _ (rd_L2 l0 aa) ab aD _ (by repeat (first | exact aq.o | (with_reducible refine Kd.C_alloc ?_ _) | (with_reducible refine Kd.C_drewN ?_ _) | (with_reducible refine Kd.C_drew ?_))) ao.o A5.o) ?_; rintro e w' ⟨rfl, ⟨nd, rfl⟩⟩; refine ⟨_, rfl, ?_⟩))
     go_roundg k1
     case measure => have := bb.o; omega
     case rel => exact ⟨(aD), (wrap64 (aa + 1)), (by rfl), (by rfl), H', ⟨by have := bb.o; omega⟩, by repeat (first | exact Drawn0.refl _ | apply Drawn0.step)⟩
    rw [if_neg c4] at H
    cases H
   rw [if_neg c3] at H; have aW := decide_eq_false c3; clear c3; obtain rfl := Option.some.inj H
   go_wp2
   go_ret
   exact ⟨by rfl, by repeat (first | exact Drawn0.refl _ | apply Drawn0.step)⟩

def laws_heldLinear.f (k : Nat) (au : Int) (ae : List Int) (aj : List (List (List Int))) (ak : List Int) (a1 : Int) : Option (Int) := (laws_heldIntS.f k ae a1).bind fun am => (if am < 0 then (some (-1)) else ((laws_heldIntSSS.f k aj am).bind fun ar => (if ar < 0 then (some (-1)) else ((laws_heldIntS.f k ak ar).bind fun aQ => (if aQ < 0 then (some (-1)) else (some aQ))))))
theorem laws_heldLinear.calls (k : Nat) (au : Int) (aH : Option Addr) (aK : Nat) (ae : List Int) (aI : Option Addr) (aM : Nat) (aj : List (List (List Int))) (aJ : Option Addr) (aN : Nat) (ak : List Int) (a1 : Int) (r : Int) (w : World) (bg : Kd.C (Kd.int .i64) w aH ae.length ae) (bd : ae.length ≤ aK) (bh : Kd.C (Kd.slice 23 (Kd.slice 3 (Kd.int .i64))) w aI aj.length aj) (be : aj.length ≤ aM) (bi : Kd.C (Kd.int .i64) w aJ ak.length ak) (bf : ak.length ≤ aN) (h : laws_heldLinear.f k au ae aj ak a1 = some r) :
  Calls Try.prog 14 #[.agg #[.int .i64 au, .slice aH ae.length aK, .slice aI aj.length aM, .slice aJ ak.length aN], .int .i64 a1] w fun e w' => e = .returned (.int .i64 r) ∧ Below w.heap.size w w' := by
 have hu29 := Try.underlying29; have aG := A_ bg; have aE := A_ bd; clear bg bd; have aV := A_ bh; have aU := A_ be; clear bh be; have bc := A_ bi; have ba := A_ bf; clear bi bf; have HB := A_ (Below.refl w.heap.size w); unfold laws_heldLinear.f at h; have H := h; clear h; replace H := bA_ H; obtain ⟨am, A3, H⟩ := H
 by_cases c4 : am < 0
 ·rw [if_pos c4] at H; have aY := decide_eq_true c4; clear c4; obtain rfl := Option.some.inj H; go_enter Try.func14, Try.ntmps14
  go_wp2_with (first | ((with_reducible refine gate_dst (N := 2) rfl ?_); refine box_event rfl (N := 2) rfl (cs := #[.int .i64 au, .slice aH ae.length aK, .slice aI aj.length aM, .slice aJ ak.length aN]) (t := 29) (by go_simp; done) ?_; intro aX hg w5 hbox hb; have al := A_ (hbox); have aT := A_ (lg_ (below_size HB.o) hg); have ac := A_ (lg_ (below_size HB.o) hg); replace HB := bs_ HB hb; clear hb hbox hg; have bC := bq4 al.o) | ((with_reducible refine gc_ 35 rfl ?_); refine cM_ E35 8 (laws_heldIntS.calls k _ _ ae a1 am _ (Kd.C_below aG.o HB.o) aE.o A3.o) ?_; rintro e w' ⟨rfl, ⟨nd, rfl⟩⟩; refine ⟨_, rfl, ?_⟩))
  go_ret
  exact ⟨by rfl, by repeat (first | (with_reducible first | exact HB.o | apply below_alloc | apply pw_below_drewN | apply below_drew1 | refine below_set ?_ ac.o) | exact HB.o)⟩
 rw [if_neg c4] at H; have aY := decide_eq_false c4; clear c4; replace H := bA_ H; obtain ⟨ar, A7, H⟩ := H
 by_cases c8 : ar < 0
 ·rw [if_pos c8] at H; have bB := decide_eq_true c8; clear c8; obtain rfl := Option.some.inj H; go_enter Try.func14, Try.ntmps14
  go_wp2_with (first | ((with_reducible refine gate_dst (N := 2) rfl ?_); refine box_event rfl (N := 2) rfl (cs := #[.int .i64 au, .slice aH ae.length aK, .slice aI aj.length aM, .slice aJ ak.length aN]) (t := 29) (by go_simp; done) ?_; intro aX hg w9 hbox hb; have al := A_ (hbox); have aT := A_ (lg_ (below_size HB.o) hg); have ac := A_ (lg_ (below_size HB.o) hg); replace HB := bs_ HB hb; clear hb hbox hg; have bv := bq4 al.o) | ((with_reducible refine gc_ 35 rfl ?_); refine cM_ E35 8 (laws_heldIntS.calls k _ _ ae a1 am _ (Kd.C_below aG.o HB.o) aE.o A3.o) ?_; rintro e w' ⟨rfl, ⟨nd, rfl⟩⟩; refine ⟨_, rfl, ?_⟩) | ((with_reducible refine gc_ 36 rfl ?_); refine cM_ E36 14 (laws_heldIntSSS.calls k _ _ aj am ar _ (by repeat (first | exact (Kd.C_below aV.o (by repeat (first | (with_reducible first | exact HB.o | apply below_alloc | apply pw_below_drewN | apply below_drew1 | refine below_set ?_ ac.o) | exact HB.o))) | (with_reducible refine Kd.C_alloc ?_ _) | (with_reducible refine Kd.C_drewN ?_ _) | (with_reducible refine Kd.C_drew ?_))) aU.o A7.o) ?_; rintro e w' ⟨rfl, ⟨nd, rfl⟩⟩; refine ⟨_, rfl, ?_⟩))
  go_ret
  exact ⟨by rfl, by repeat (first | (with_reducible first | exact HB.o | apply below_alloc | apply pw_below_drewN | apply below_drew1 | refine below_set ?_ ac.o) | exact HB.o)⟩
 rw [if_neg c8] at H; have bB := decide_eq_false c8; clear c8; replace H := bA_ H; obtain ⟨aQ, A11, H⟩ := H
 by_cases c12 : aQ < 0
 ·rw [if_pos c12] at H; have bu := decide_eq_true c12; clear c12; obtain rfl := Option.some.inj H; go_enter Try.func14, Try.ntmps14
  go_wp2_with (first | ((with_reducible refine gate_dst (N := 2) rfl ?_); refine box_event rfl (N := 2) rfl (cs := #[.int .i64 au, .slice aH ae.length aK, .slice aI aj.length aM, .slice aJ ak.length aN]) (t := 29) (by go_simp; done) ?_; intro aX hg w13 hbox hb; have al := A_ (hbox); have aT := A_ (lg_ (below_size HB.o) hg); have ac := A_ (lg_ (below_size HB.o) hg); replace HB := bs_ HB hb; clear hb hbox hg; have bw := bq4 al.o) | ((with_reducible refine gc_ 35 rfl ?_); refine cL_ E35 8 rfl rfl rfl (laws_heldIntS.calls k _ _ ae a1 am _ (Kd.C_below aG.o HB.o) aE.o A3.o) (by (try simp only [mA, mB, mC]); first | done | rfl | (simp only [List.length_drop, List.length_take]; rfl)) ?_; rintro e w' ⟨rfl, ⟨nd, rfl⟩⟩; refine ⟨_, rfl, ?_⟩) | ((with_reducible refine gc_ 36 rfl ?_); refine cM_ E36 14 (laws_heldIntSSS.calls k _ _ aj am ar _ (by repeat (first | exact (Kd.C_below aV.o (by repeat (first | (with_reducible first | exact HB.o | apply below_alloc | apply pw_below_drewN | apply below_drew1 | refine below_set ?_ ac.o) | exact HB.o))) | (with_reducible refine Kd.C_alloc ?_ _) | (with_reducible refine Kd.C_drewN ?_ _) | (with_reducible refine Kd.C_drew ?_))) aU.o A7.o) ?_; rintro e w' ⟨rfl, ⟨nd, rfl⟩⟩; refine ⟨_, rfl, ?_⟩) | ((with_reducible refine gc_ 35 rfl ?_); refine cM_ E35 20 (laws_heldIntS.calls k _ _ ak ar aQ _ (by repeat (first | exact (Kd.C_below bc.o (by repeat (first | (with_reducible first | exact HB.o | apply below_alloc | apply pw_below_drewN | apply below_drew1 | refine below_set ?_ ac.o) | exact HB.o))) | (with_reducible refine Kd.C_alloc ?_ _) | (with_reducible refine Kd.C_drewN ?_ _) | (with_reducible refine Kd.C_drew ?_))) ba.o A11.o) ?_; rintro e w' ⟨rfl, ⟨nd, rfl⟩⟩; refine ⟨_, rfl, ?_⟩))
  go_ret
  exact ⟨by rfl, by repeat (first | (with_reducible first | exact HB.o | apply below_alloc | apply pw_below_drewN | apply below_drew1 | refine below_set ?_ ac.o) | exact HB.o)⟩
 rw [if_neg c12] at H; have bu := decide_eq_false c12; clear c12; obtain rfl := Option.some.inj H; go_enter Try.func14, Try.ntmps14
 go_wp2_with (first | ((with_reducible refine gate_dst (N := 2) rfl ?_); refine box_event rfl (N := 2) rfl (cs := #[.int .i64 au, .slice aH ae.length aK, .slice aI aj.length aM, .slice aJ ak.length aN]) (t := 29) (by go_simp; done) ?_; intro aX hg w15 hbox hb; have al := A_ (hbox); have aT := A_ (lg_ (below_size HB.o) hg); have ac := A_ (lg_ (below_size HB.o) hg); replace HB := bs_ HB hb; clear hb hbox hg; have bx := bq4 al.o) | ((with_reducible refine gc_ 35 rfl ?_); refine cL_ E35 8 rfl rfl rfl (laws_heldIntS.calls k _ _ ae a1 am _ (Kd.C_below aG.o HB.o) aE.o A3.o) (by (try simp only [mA, mB, mC]); first | done | rfl | (simp only [List.length_drop, List.length_take]; rfl)) ?_; rintro e w' ⟨rfl, ⟨nd, rfl⟩⟩; refine ⟨_, rfl, ?_⟩) | ((with_reducible refine gc_ 36 rfl ?_); refine cM_ E36 14 (laws_heldIntSSS.calls k _ _ aj am ar _ (by repeat (first | exact (Kd.C_below aV.o (by repeat (first | (with_reducible first | exact HB.o | apply below_alloc | apply pw_below_drewN | apply below_drew1 | refine below_set ?_ ac.o) | exact HB.o))) | (with_reducible refine Kd.C_alloc ?_ _) | (with_reducible refine Kd.C_drewN ?_ _) | (with_reducible refine Kd.C_drew ?_))) aU.o A7.o) ?_; rintro e w' ⟨rfl, ⟨nd, rfl⟩⟩; refine ⟨_, rfl, ?_⟩) | ((with_reducible refine gc_ 35 rfl ?_); refine cM_ E35 20 (laws_heldIntS.calls k _ _ ak ar aQ _ (by repeat (first | exact (Kd.C_below bc.o (by repeat (first | (with_reducible first | exact HB.o | apply below_alloc | apply pw_below_drewN | apply below_drew1 | refine below_set ?_ ac.o) | exact HB.o))) | (with_reducible refine Kd.C_alloc ?_ _) | (with_reducible refine Kd.C_drewN ?_ _) | (with_reducible refine Kd.C_drew ?_))) ba.o A11.o) ?_; rintro e w' ⟨rfl, ⟨nd, rfl⟩⟩; refine ⟨_, rfl, ?_⟩))
 go_ret
 exact ⟨by rfl, by repeat (first | (with_reducible first | exact HB.o | apply below_alloc | apply pw_below_drewN | apply below_drew1 | refine below_set ?_ ac.o) | exact HB.o)⟩

end Go.Proofs.Ytgmfjcckmapkbaa.PFnExactCountingForm

