/- Walks of the functions that the law reaches. -/
import Derived.Test.YtgmfjcckmapkbaaPFnExactPrefixSumx0
namespace Go.Proofs.Ytgmfjcckmapkbaa.PFnExactPrefixSum
open Go.RowKit Go.Proofs.YtgmfjcckmapkbaaW.PrintWords Go.Proofs.YtgmfjcckmapkbaaW.PrintLast Go.Proofs.YtgmfjcckmapkbaaW.PrintMore
attribute [local go_sem] max2_int min2_int max_two min_two max_three min_three max_four min_four
set_option linter.unusedVariables false
set_option maxHeartbeats 8000000
set_option maxRecDepth 100000
set_option linter.unusedSimpArgs false

def laws_szIntS.f (l0 : List Int) (a1 : Int) : Option (Int) := if (wrap64 (a1 - (l0.length : Int))) < 0 then (some (-1)) else (some (wrap64 (a1 - (l0.length : Int))))
theorem laws_szIntS.calls (A0 : Option Addr) (c0 : Nat) (l0 : List Int) (a1 : Int) (r : Int) (w : World) (hr0 : Kd.C (Kd.int .i64) w A0 l0.length l0) (hc0 : l0.length ≤ c0) (h : laws_szIntS.f l0 a1 = some r) :
  Calls Try.prog 20 #[.slice A0 l0.length c0, .int .i64 a1] w fun e w' => e = .returned (.int .i64 r) ∧ Drawn0 w w' := by
 have HR0 := A_ hr0; have HC0 := A_ hc0; clear hr0 hc0; unfold laws_szIntS.f at h; have H := h; clear h
 by_cases c3 : (wrap64 (a1 - (l0.length : Int))) < 0
 ·rw [if_pos c3] at H; have aq := decide_eq_true c3; clear c3; obtain rfl := Option.some.inj H; go_enter Try.func20, Try.ntmps20
  go_wp2
  go_ret
  exact ⟨by rfl, by repeat (first | exact Drawn0.refl _ | apply Drawn0.step)⟩
 rw [if_neg c3] at H; have aq := decide_eq_false c3; clear c3; obtain rfl := Option.some.inj H; go_enter Try.func20, Try.ntmps20
 go_wp2
 go_ret
 exact ⟨by rfl, by repeat (first | exact Drawn0.refl _ | apply Drawn0.step)⟩

def laws_szIntSS.l0 : Nat → List (List Int) → Int → Int → Option (Int)
 | 0, _, _, _ => none
 | k + 1, x0, x1, x5 => if x5 < (x0.length : Int) then (if 0 ≤ x5 then ((laws_szIntS.f (rd_L1 x0 x5) x1).bind fun bi => (if bi < 0 then (some (-1)) else (laws_szIntSS.l0 k x0 bi (wrap64 (x5 + 1))))) else (none)) else (some x1)
def laws_szIntSS.f (k : Nat) (l0 : List (List Int)) (a1 : Int) : Option (Int) := if (wrap64 (a1 - (l0.length : Int))) < 0 then (some (-1)) else (laws_szIntSS.l0 k l0 (wrap64 (a1 - (l0.length : Int))) 0)
theorem laws_szIntSS.calls (k : Nat) (A0 : Option Addr) (c0 : Nat) (l0 : List (List Int)) (a1 : Int) (r : Int) (w : World) (hr0 : Kd.C (Kd.slice 3 (Kd.int .i64)) w A0 l0.length l0) (hc0 : l0.length ≤ c0) (h : laws_szIntSS.f k l0 a1 = some r) :
  Calls Try.prog 19 #[.slice A0 l0.length c0, .int .i64 a1] w fun e w' => e = .returned (.int .i64 r) ∧ Drawn0 w w' := by
 have HR0 := A_ hr0; have HC0 := A_ hc0; clear hr0 hc0; unfold laws_szIntSS.f at h; have H := h; clear h
 by_cases c3 : (wrap64 (a1 - (l0.length : Int))) < 0
 ·rw [if_pos c3] at H; have aq := decide_eq_true c3; clear c3; obtain rfl := Option.some.inj H; go_enter Try.func19, Try.ntmps19
  go_wp2
  go_ret
  exact ⟨by rfl, by repeat (first | exact Drawn0.refl _ | apply Drawn0.step)⟩
 rw [if_neg c3] at H; have aq := decide_eq_false c3; clear c3
 have H' := A_ H
 clear H; go_enter Try.func19, Try.ntmps19
 go_wp2
 go_loopg [1, 5] k (fun kq v1 v5 w' => ∃ (bH : Int) (aa : Int), v1 = .int .i64 bH ∧ v5 = .int .i64 aa ∧ Aside0 (laws_szIntSS.l0 kq l0 bH aa = some r) ∧ Aside0 (kq ≤ k) ∧ Drawn0 w w')
 case atStart => exact ⟨(wrap64 (a1 - (l0.length : Int))), (0), (by rfl), (by rfl), H', ⟨Nat.le_refl _⟩, by repeat (first | exact Drawn0.refl _ | apply Drawn0.step)⟩
 case round =>
  clear H'
  try clear aq
  obtain ⟨bH, aa, rfl, rfl, HA, bk, ⟨m1, rfl⟩⟩ := hrel
  cases gk with
  | zero => exact nz_ HA.o
  | succ k1 =>
   have H := HA.o; clear HA; simp only [laws_szIntSS.l0] at H
   by_cases c4 : aa < (l0.length : Int)
   ·rw [if_pos c4] at H; have a7 := decide_eq_true c4; clear c4
    by_cases c5 : 0 ≤ aa
    ·rw [if_pos c5] at H; have cE := decide_eq_true c5; clear c5; replace H := bA_ H; obtain ⟨bi, A6, H⟩ := H
     by_cases c7 : bi < 0
     ·rw [if_pos c7] at H; have bA := decide_eq_true c7; clear c7; obtain rfl := Option.some.inj H
      have a8 : 0 ≤ (aa : Int) := oa_
      have bd : aa < (l0.length : Int) := oa_
      obtain ⟨cy, bV, b1, b8, bL, aw, ar⟩ := at_L1 HR0.o aa a8 bd
      cases b8
      have aM := A_ ar; have aK := A_ aw; clear ar aw; replace a8 := eq_true a8; replace bd := eq_true bd
      go_wp2_with (first | ((with_reducible refine gc_ 20 rfl ?_); refine cM_ E20 23 (laws_szIntS.calls _ _ (rd_L1 l0 aa) bH bi _ (by repeat (first | exact aM.o | (with_reducible refine Kd.C_alloc ?_ _) | (with_reducible refine Kd.C_drewN ?_ _) | (with_reducible refine Kd.C_drew ?_))) aK.o A6.o) ?_; rintro e w' ⟨rfl, ⟨nd, rfl⟩⟩; refine ⟨_, rfl, ?_⟩))
      go_ret
      exact ⟨by rfl, by repeat (first | exact Drawn0.refl _ | apply Drawn0.step)⟩
     rw [if_neg c7] at H; have bA := decide_eq_false c7; clear c7
     have H' := A_ H
     clear H
     have a8 : 0 ≤ (aa : Int) := oa_
     have bd : aa < (l0.length : Int) := oa_
     obtain ⟨cy, bV, b1, b8, bL, aw, ar⟩ := at_L1 HR0.o aa a8 bd
     cases b8
     have aM := A_ ar; have aK := A_ aw; clear ar aw; replace a8 := eq_true a8; replace bd := eq_true bd
     go_wp2_with (first | ((with_reducible refine gc_ 20 rfl ?_); refine cM_ E20 23 (laws_szIntS.calls _ _ (rd_L1 l0 aa) bH bi _ (by repeat (first | exact aM.o | (with_reducible refine Kd.C_alloc ?_ _) | (with_reducible refine Kd.C_drewN ?_ _) | (with_reducible refine Kd.C_drew ?_))) aK.o A6.o) ?_; rintro e w' ⟨rfl, ⟨nd, rfl⟩⟩; refine ⟨_, rfl, ?_⟩))
     go_roundg k1
     case measure => have := bk.o; omega
     case rel => exact ⟨(bi), (wrap64 (aa + 1)), (by rfl), (by rfl), H', ⟨by have := bk.o; omega⟩, by repeat (first | exact Drawn0.refl _ | apply Drawn0.step)⟩
    rw [if_neg c5] at H
    cases H
   rw [if_neg c4] at H; have a7 := decide_eq_false c4; clear c4; obtain rfl := Option.some.inj H
   go_wp2
   go_ret
   exact ⟨by rfl, by repeat (first | exact Drawn0.refl _ | apply Drawn0.step)⟩

def laws_szSequence.f (k : Nat) (an : Int) (ac : List (List Int)) (ae : List Int) (a1 : Int) : Option (Int) := (laws_szIntSS.f k ac a1).bind fun aU => (if aU < 0 then (some (-1)) else ((laws_szIntS.f ae aU).bind fun bu => (if bu < 0 then (some (-1)) else (some bu))))
theorem laws_szSequence.calls (k : Nat) (an : Int) (aA : Option Addr) (aI : Nat) (ac : List (List Int)) (aC : Option Addr) (aJ : Nat) (ae : List Int) (a1 : Int) (r : Int) (w : World) (a5 : Kd.C (Kd.slice 3 (Kd.int .i64)) w aA ac.length ac) (a3 : ac.length ≤ aI) (a6 : Kd.C (Kd.int .i64) w aC ae.length ae) (a4 : ae.length ≤ aJ) (h : laws_szSequence.f k an ac ae a1 = some r) :
  Calls Try.prog 6 #[.agg #[.int .i64 an, .slice aA ac.length aI, .slice aC ae.length aJ], .int .i64 a1] w fun e w' => e = .returned (.int .i64 r) ∧ Below w.heap.size w w' := by
 have hu25 := Try.underlying25; have aY := A_ a5; have aW := A_ a3; clear a5 a3; have bm := A_ a6; have bj := A_ a4; clear a6 a4; have HB := A_ (Below.refl w.heap.size w); unfold laws_szSequence.f at h; have H := h; clear h; replace H := bA_ H; obtain ⟨aU, A3, H⟩ := H
 by_cases c4 : aU < 0
 ·rw [if_pos c4] at H; have a7 := decide_eq_true c4; clear c4; obtain rfl := Option.some.inj H; go_enter Try.func6, Try.ntmps6
  go_wp2_with (first | ((with_reducible refine gate_dst (N := 2) rfl ?_); refine box_event rfl (N := 2) rfl (cs := #[.int .i64 an, .slice aA ac.length aI, .slice aC ae.length aJ]) (t := 25) (by go_simp; done) ?_; intro bT hg w5 hbox hb; have aV := A_ (hbox); have bR := A_ (lg_ (below_size HB.o) hg); have aD := A_ (lg_ (below_size HB.o) hg); replace HB := bs_ HB hb; clear hb hbox hg; have dd := bq3 aV.o) | ((with_reducible refine gc_ 19 rfl ?_); refine cM_ E19 8 (laws_szIntSS.calls k _ _ ac a1 aU _ (Kd.C_below aY.o HB.o) aW.o A3.o) ?_; rintro e w' ⟨rfl, ⟨nd, rfl⟩⟩; refine ⟨_, rfl, ?_⟩))
  go_ret
  exact ⟨by rfl, by repeat (first | (with_reducible first | exact HB.o | apply below_alloc | apply pw_below_drewN | apply below_drew1 | refine below_set ?_ aD.o) | exact HB.o)⟩
 rw [if_neg c4] at H; have a7 := decide_eq_false c4; clear c4; replace H := bA_ H; obtain ⟨bu, A7, H⟩ := H
 by_cases c8 : bu < 0
 ·rw [if_pos c8] at H; have cF := decide_eq_true c8; clear c8; obtain rfl := Option.some.inj H; go_enter Try.func6, Try.ntmps6
  go_wp2_with (first | ((with_reducible refine gate_dst (N := 2) rfl ?_); refine box_event rfl (N := 2) rfl (cs := #[.int .i64 an, .slice aA ac.length aI, .slice aC ae.length aJ]) (t := 25) (by go_simp; done) ?_; intro bT hg w9 hbox hb; have aV := A_ (hbox); have bR := A_ (lg_ (below_size HB.o) hg); have aD := A_ (lg_ (below_size HB.o) hg); replace HB := bs_ HB hb; clear hb hbox hg; have cL := bq3 aV.o) | ((with_reducible refine gc_ 19 rfl ?_); refine cM_ E19 8 (laws_szIntSS.calls k _ _ ac a1 aU _ (Kd.C_below aY.o HB.o) aW.o A3.o) ?_; rintro e w' ⟨rfl, ⟨nd, rfl⟩⟩; refine ⟨_, rfl, ?_⟩) | ((with_reducible refine gc_ 20 rfl ?_); refine cM_ E20 14 (laws_szIntS.calls _ _ ae aU bu _ (by repeat (first | exact (Kd.C_below bm.o (by repeat (first | (with_reducible first | exact HB.o | apply below_alloc | apply pw_below_drewN | apply below_drew1 | refine below_set ?_ aD.o) | exact HB.o))) | (with_reducible refine Kd.C_alloc ?_ _) | (with_reducible refine Kd.C_drewN ?_ _) | (with_reducible refine Kd.C_drew ?_))) bj.o A7.o) ?_; rintro e w' ⟨rfl, ⟨nd, rfl⟩⟩; refine ⟨_, rfl, ?_⟩))
  go_ret
  exact ⟨by rfl, by repeat (first | (with_reducible first | exact HB.o | apply below_alloc | apply pw_below_drewN | apply below_drew1 | refine below_set ?_ aD.o) | exact HB.o)⟩
 rw [if_neg c8] at H; have cF := decide_eq_false c8; clear c8; obtain rfl := Option.some.inj H; go_enter Try.func6, Try.ntmps6
 go_wp2_with (first | ((with_reducible refine gate_dst (N := 2) rfl ?_); refine box_event rfl (N := 2) rfl (cs := #[.int .i64 an, .slice aA ac.length aI, .slice aC ae.length aJ]) (t := 25) (by go_simp; done) ?_; intro bT hg w11 hbox hb; have aV := A_ (hbox); have bR := A_ (lg_ (below_size HB.o) hg); have aD := A_ (lg_ (below_size HB.o) hg); replace HB := bs_ HB hb; clear hb hbox hg; have cO := bq3 aV.o) | ((with_reducible refine gc_ 19 rfl ?_); refine cM_ E19 8 (laws_szIntSS.calls k _ _ ac a1 aU _ (Kd.C_below aY.o HB.o) aW.o A3.o) ?_; rintro e w' ⟨rfl, ⟨nd, rfl⟩⟩; refine ⟨_, rfl, ?_⟩) | ((with_reducible refine gc_ 20 rfl ?_); refine cM_ E20 14 (laws_szIntS.calls _ _ ae aU bu _ (by repeat (first | exact (Kd.C_below bm.o (by repeat (first | (with_reducible first | exact HB.o | apply below_alloc | apply pw_below_drewN | apply below_drew1 | refine below_set ?_ aD.o) | exact HB.o))) | (with_reducible refine Kd.C_alloc ?_ _) | (with_reducible refine Kd.C_drewN ?_ _) | (with_reducible refine Kd.C_drew ?_))) bj.o A7.o) ?_; rintro e w' ⟨rfl, ⟨nd, rfl⟩⟩; refine ⟨_, rfl, ?_⟩))
 go_ret
 exact ⟨by rfl, by repeat (first | (with_reducible first | exact HB.o | apply below_alloc | apply pw_below_drewN | apply below_drew1 | refine below_set ?_ aD.o) | exact HB.o)⟩

def laws_toIntS.l0 : Nat → List Int → List Int → Int → Option (List Int)
 | 0, _, _, _ => none
 | k + 1, x0, x3, x4 => if x4 < (x0.length : Int) then (if 0 ≤ x4 then (if x4 < (x3.length : Int) then (laws_toIntS.l0 k x0 (x3.set (x4 : Int).toNat (rd x0 x4)) (wrap64 (x4 + 1))) else (none)) else (none)) else (some x3)
def laws_toIntS.f (k : Nat) (l0 : List Int) : Option (List Int) := if 0 ≤ (l0.length : Int) then (if ((l0.length : Int) : Int).toNat ≤ 35184372088832 then (laws_toIntS.l0 k l0 (List.replicate ((l0.length : Int) : Int).toNat 0) 0) else (none)) else (none)
theorem laws_toIntS.calls (k : Nat) (A0 : Option Addr) (c0 : Nat) (l0 : List Int) (r : List Int) (w : World) (hr0 : Kd.C (Kd.int .i64) w A0 l0.length l0) (hc0 : l0.length ≤ c0) (h : laws_toIntS.f k l0 = some r) :
  Calls Try.prog 24 #[.slice A0 l0.length c0] w fun e w' => ∃ v0_ : Value, e = .returned (v0_) ∧ Kd.R (Kd.int .i64) 3 w' w.heap.size (fun _ => True) v0_ r ∧ Below w.heap.size w w' := by
 have HR0 := A_ hr0; have HC0 := A_ hc0; clear hr0 hc0; have HB := A_ (Below.refl w.heap.size w); unfold laws_toIntS.f at h; have H := h; clear h
 by_cases c2 : 0 ≤ (l0.length : Int)
 ·rw [if_pos c2] at H; have b4 := eq_true c2; have b5 := decide_eq_true c2; clear c2
  by_cases c3 : ((l0.length : Int) : Int).toNat ≤ 35184372088832
  ·rw [if_pos c3] at H; have aq := eq_true c3; have aN := decide_eq_true c3; clear c3; obtain ⟨cJ, bC⟩ := ex_ ((List.replicate ((l0.length : Int) : Int).toNat 0) : List Int); replace H : (laws_toIntS.l0 k l0 cJ 0) = some r := by (rw [bC]; with_reducible exact H)
   have cr := A_ bC; clear bC
   have H' := A_ H
   clear H; go_enter Try.func24, Try.ntmps24
   go_wp2_with (first | ((with_reducible refine gate_dst (N := 7) rfl ?_); refine Kd.R_make (Kd.int .i64) _ 3 rfl (N := 7) rfl 23 _ _ rfl (l0.length : Int) rfl rfl Try.underlying23 (.int .i64 0) 8 info3 rfl (by decide) (by omega) 0 (ok := fun _ => True) (okp := fun _ => True) rfl (fun _ hk => hk) trivial oa_ (Nat.le_trans (Nat.mul_le_mul_right _ (oa_ : (l0.length : Int).toNat ≤ 35184372088832)) (by omega)) (Below.refl _ _) (Nat.le_refl _) ?_; rintro dh w4 ho5 hb - -; (rw [← cr.o] at ho5); have cp := A_ (Kd.R_lower ho5 (below_size HB.o)); replace HB := bs_ HB hb; clear hb ho5))
   go_loopg [4] k (fun kq v4 w' => ∃ (al : List Int) (ab : Int), v4 = .int .i64 ab ∧ Aside0 (laws_toIntS.l0 kq l0 al ab = some r) ∧ Aside0 (kq ≤ k) ∧ Aside0 (Kd.R (Kd.int .i64) 3 w' w.heap.size (fun _ => True) dh al) ∧ Aside0 (Below w.heap.size w w'))
   case atStart => exact ⟨(cJ), (0), (by rfl), H', ⟨Nat.le_refl _⟩, ⟨cp.o⟩, ⟨HB.o⟩⟩
   case round =>
    clear H'
    clear b4 b5 aq aN
    obtain ⟨al, ab, rfl, HA, bk, af, HB⟩ := hrel
    cases gk with
    | zero => exact nz_ HA.o
    | succ k1 =>
     have H := HA.o; clear HA; simp only [laws_toIntS.l0] at H
     by_cases c6 : ab < (l0.length : Int)
     ·rw [if_pos c6] at H; have bz := decide_eq_true c6; clear c6
      by_cases c7 : 0 ≤ ab
      ·rw [if_pos c7] at H; have bA := decide_eq_true c7; clear c7
       by_cases c8 : ab < (al.length : Int)
       ·rw [if_pos c8] at H; have cF := decide_eq_true c8; clear c8; obtain ⟨cn, bD⟩ := ex_ ((al.set (ab : Int).toNat (rd l0 ab)) : List Int); replace H : (laws_toIntS.l0 k1 l0 cn (wrap64 (ab + 1))) = some r := by (rw [bD]; with_reducible exact H)
        have cv := A_ bD; clear bD
        have H' := A_ H
        clear H
        have ch : 0 ≤ (ab : Int) := oa_
        have cj : ab < (l0.length : Int) := oa_
        obtain ⟨dm, cY, aQ⟩ := Kd.at_int HR0.o ab ch cj
        cases cY
        replace aQ := (HB.o.cell (World.block_lt_of_cell? w _ aQ)).trans aQ; replace ch := eq_true ch; replace cj := eq_true cj
        have p9 : 0 ≤ (ab : Int) := oa_
        have q9 : (ab : Int) < ((al.length : Int) : Int) := oa_
        obtain ⟨dc, dx, dp, dq, gl9, cl9, HG9⟩ := Kd.R_form af.o (by omega)
        (first | cases dp | (injection dp with ea_ en_ ec_; (first | subst ea_ | (injection ea_ with ea_; subst ea_)); subst ec_; clear en_))
        have GB9 := A_ dq; have GG9 := A_ HG9; clear dq gl9 HG9; obtain ⟨dv, dr⟩ := Kd.R_celln 0 af.o (ab : Int) p9 q9; replace p9 := eq_true p9; replace q9 := eq_true q9; have b0 := Kd.R_putg af.o (ab : Int) (rd l0 ab)
        go_wp2_with (first | ((with_reducible refine gate_store (t := 3) (p := 20) rfl ?_); refine store_event (t := 3) (p := 20) (w1 := (wr.setCell ⟨dc, (ab : Int).toNat, none⟩ (.int .i64 (rd l0 ab)))) rfl rfl rfl (by go_simp; done) ?_; intro w11 hw; have hg : wr.grownBy w11 (some dc) := (by rw [hw]; exact b0.2); have hp_ : Kd.R (Kd.int .i64) 3 w11 w.heap.size (fun _ => True) (.slice (some ⟨dc, 0, none⟩) al.length dx) cn := (by rw [hw, cv.o]; exact b0.1); clear b0; replace af := A_ (hp_); replace HB := A_ ((by rw [hw]; exact below_set (HB.o) GB9.o : Below w.heap.size w w11)); clear hg hw hp_))
        go_roundg k1
        case measure => have := bk.o; omega
        case rel => exact ⟨(cn), (wrap64 (ab + 1)), (by rfl), H', ⟨by have := bk.o; omega⟩, ⟨af.o⟩, ⟨HB.o⟩⟩
       rw [if_neg c8] at H
       cases H
      rw [if_neg c7] at H
      cases H
     rw [if_neg c6] at H; have bz := decide_eq_false c6; clear c6; obtain rfl := Option.some.inj H
     go_wp2
     go_ret
     exact ⟨_, by rfl, af.o, HB.o⟩
  rw [if_neg c3] at H
  cases H
 rw [if_neg c2] at H
 cases H

def laws_toIntSS.l0 : Nat → List (List Int) → List (List Int) → Int → Option ((List (List Int)))
 | 0, _, _, _ => none
 | k + 1, x0, x3, x4 => if x4 < (x0.length : Int) then (if 0 ≤ x4 then ((laws_toIntS.f k (rd_L1 x0 x4)).bind fun bG => (if x4 < (x3.length : Int) then (laws_toIntSS.l0 k x0 (x3.set (x4 : Int).toNat bG) (wrap64 (x4 + 1))) else (none))) else (none)) else (some x3)
def laws_toIntSS.f (k : Nat) (l0 : List (List Int)) : Option ((List (List Int))) := if 0 ≤ (l0.length : Int) then (if ((l0.length : Int) : Int).toNat ≤ 11728124029610 then (laws_toIntSS.l0 k l0 (List.replicate ((l0.length : Int) : Int).toNat []) 0) else (none)) else (none)
theorem laws_toIntSS.calls (k : Nat) (A0 : Option Addr) (c0 : Nat) (l0 : List (List Int)) (r : List (List Int)) (w : World) (hr0 : Kd.C (Kd.slice 3 (Kd.int .i64)) w A0 l0.length l0) (hc0 : l0.length ≤ c0) (h : laws_toIntSS.f k l0 = some r) :
  Calls Try.prog 23 #[.slice A0 l0.length c0] w fun e w' => ∃ v0_ : Value, e = .returned (v0_) ∧ Kd.S (Kd.slice 3 (Kd.int .i64)) 23 w' w.heap.size (fun _ => True) v0_ r ∧ Below w.heap.size w w' := by
 have HR0 := A_ hr0; have HC0 := A_ hc0; clear hr0 hc0; have HB := A_ (Below.refl w.heap.size w); unfold laws_toIntSS.f at h; have H := h; clear h
 by_cases c2 : 0 ≤ (l0.length : Int)
 ·rw [if_pos c2] at H; have b4 := eq_true c2; have b5 := decide_eq_true c2; clear c2
  by_cases c3 : ((l0.length : Int) : Int).toNat ≤ 11728124029610
  ·rw [if_pos c3] at H; have aq := eq_true c3; have aN := decide_eq_true c3; clear c3; obtain ⟨cK, bE⟩ := ex_ ((List.replicate ((l0.length : Int) : Int).toNat []) : List (List Int)); replace H : (laws_toIntSS.l0 k l0 cK 0) = some r := by (rw [bE]; with_reducible exact H)
   have cw := A_ bE; clear bE
   have H' := A_ H
   clear H; go_enter Try.func23, Try.ntmps23
   go_wp2_with (first | ((with_reducible refine gate_dst (N := 7) rfl ?_); refine Kd.S_make (Kd.slice 3 (Kd.int .i64)) _ 23 rfl (N := 7) rfl 22 _ _ rfl (l0.length : Int) rfl rfl Try.underlying22 (.slice none 0 0) 24 info23 rfl (by decide) (by omega) [] (ok := fun _ => True) (okp := fun _ => True) ⟨_, rfl, Kd.R_nil _ _ _ _ _⟩ (fun _ hk => hk) trivial oa_ (Nat.le_trans (Nat.mul_le_mul_right _ (oa_ : (l0.length : Int).toNat ≤ 11728124029610)) (by omega)) (Below.refl _ _) (Nat.le_refl _) ?_; rintro di w4 ho5 hb - -; (rw [← cw.o] at ho5); have cq := A_ (Kd.S_lower ho5 (below_size HB.o)); replace HB := bs_ HB hb; clear hb ho5))
   go_loopg [4] k (fun kq v4 w' => ∃ (al : List (List Int)) (ab : Int), v4 = .int .i64 ab ∧ Aside0 (laws_toIntSS.l0 kq l0 al ab = some r) ∧ Aside0 (kq ≤ k) ∧ Aside0 (Kd.S (Kd.slice 3 (Kd.int .i64)) 23 w' w.heap.size (fun _ => True) di al) ∧ Aside0 (Below w.heap.size w w'))
   case atStart => exact ⟨(cK), (0), (by rfl), H', ⟨Nat.le_refl _⟩, ⟨cq.o⟩, ⟨HB.o⟩⟩
   case round =>
    clear H'
    clear b4 b5 aq aN
    obtain ⟨al, ab, rfl, HA, bk, af, HB⟩ := hrel
    cases gk with
    | zero => exact nz_ HA.o
    | succ k1 =>
     have H := HA.o; clear HA; simp only [laws_toIntSS.l0] at H
     by_cases c6 : ab < (l0.length : Int)
     ·rw [if_pos c6] at H; have bz := decide_eq_true c6; clear c6
      by_cases c7 : 0 ≤ ab
      ·rw [if_pos c7] at H; have bA := decide_eq_true c7; clear c7; replace H := bA_ H; obtain ⟨bG, A8, H⟩ := H
       by_cases c9 : ab < (al.length : Int)
       ·rw [if_pos c9] at H; have dw := decide_eq_true c9; clear c9; obtain ⟨co, bF⟩ := ex_ ((al.set (ab : Int).toNat bG) : List (List Int)); replace H : (laws_toIntSS.l0 k1 l0 co (wrap64 (ab + 1))) = some r := by (rw [bF]; with_reducible exact H)
        have cx := A_ bF; clear bF
        have H' := A_ H
        clear H
        have ci : 0 ≤ (ab : Int) := oa_
        have ck : ab < (l0.length : Int) := oa_
        obtain ⟨dn, cV, cW, cZ, aT, bo, bn⟩ := at_L1 HR0.o ab ci ck
        cases cZ
        replace aT := (HB.o.cell (World.block_lt_of_cell? w _ aT)).trans aT; have bK := A_ bn; have bI := A_ bo; clear bn bo; replace ci := eq_true ci; replace ck := eq_true ck
        go_wp2_with (first | ((with_reducible refine gc_ 24 rfl ?_); refine cM_ E24 20 (laws_toIntS.calls k1 _ _ (rd_L1 l0 ab) bG _ (Kd.C_below bK.o HB.o) bI.o A8.o) ?_; rintro e w11 ⟨bQ, rfl, ho0, hb⟩; refine ⟨_, rfl, ?_⟩; replace af := A_ (Kd.S_elder' af.o (Kd.R_base ho0) hb); have aX := A_ (Kd.R_lower ho0 (below_size HB.o)); replace HB := bs_ HB hb; clear hb ho0; have df : 0 ≤ (ab : Int) := oa_; have dg : (ab : Int) < ((al.length : Int) : Int) := oa_; obtain ⟨bt, cG, cH, cI, gl10, cl10, HG10⟩ := Kd.S_form af.o (by omega); (first | cases cH | (injection cH with ea_ en_ ec_; (first | subst ea_ | (injection ea_ with ea_; subst ea_)); subst ec_; clear en_)); have GB10 := A_ cI; have GG10 := A_ HG10; clear cI gl10 HG10; obtain ⟨_, ce10, hcl10, hM10, hcc10, hfr10, _, _⟩ := Kd.S_elem af.o [] (ab : Int) df dg; obtain ⟨ve10_0, rfl, ge10_0⟩ := hM10; have cf := hcc10 0 _ rfl; have cd := hfr10 0; (try simp only [show ((Kd.slice 3 (Kd.int .i64))).sz = 1 from rfl, Nat.mul_one, Nat.add_zero] at cf); (try simp only [show ((Kd.slice 3 (Kd.int .i64))).sz = 1 from rfl, Nat.mul_one, Nat.add_zero] at cd); clear hcl10 hcc10 hfr10; replace df := eq_true df; replace dg := eq_true dg; have n_ := A_ (Kd.S_mono (ok' := (o1 bQ)) af.o (fun k_ hk => hk.2)); clear af; have af := n_; clear n_; have HX12 := A_ (show Kd.S (Kd.slice 3 (Kd.int .i64)) 23 w11 w.heap.size (fun k_ => ((fun _ => True)) k_ ∧ ¬ ((fun k_ => some k_ = (bQ : Value).ownBlock)) k_) (.slice (some ⟨bt, 0, none⟩) al.length cG) al from (by exact Kd.S_mono af.o (fun k_ hk => ⟨trivial, fun e_ => hk e_⟩))); obtain ⟨oki12, ce12, hcl12, hM12, hcc12, hfr12, hoki12, hH12⟩ := Kd.S_elem HX12.o [] (ab : Int) oa_ (by have h_ : (ab : Int) < ((al.length : Int) : Int) := oa_; first | exact h_ | (have e_ := (Kd.S_reads' af.o).1; omega) | simpa using h_); obtain ⟨ve12_0, rfl, ge12_0⟩ := hM12; have bJ := Kd.S_seg hH12 oa_ (by have h_ : (ab : Int) < ((al.length : Int) : Int) := oa_; first | exact h_ | (have e_ := (Kd.S_reads' af.o).1; omega) | simpa using h_) (seg := [bQ]) (j := 0) (show 1 ≤ 1 from by decide) (x' := bG) (Kd.M_row (Kd.R_mono (Kd.R_tight rfl (Kd.R_mono (ok' := fun k_ => ((fun _ => True)) k_ ∧ k_ ≠ bt) (Kd.R_apart' (aX.o) (Kd.S_typed af.o) (by decide)) (fun k_ hk => ⟨trivial, fun e_ => (hk.2) (by rw [e_]; rfl)⟩))) (fun _ h_ => Or.inr (h_)))) (fun _ hk => hk) (fun k_ hk_ => ((Kd.R_mono (ok' := fun k_ => ((fun _ => True)) k_ ∧ k_ ≠ bt) (Kd.R_apart' (aX.o) (Kd.S_typed af.o) (by decide)) (fun k_ hk => ⟨trivial, fun e_ => (hk.2) (by rw [e_]; rfl)⟩))).1 k_ hk_.symm); have cg := hcc12 0 _ rfl; (try simp only [show ((Kd.slice 3 (Kd.int .i64))).sz = 1 from rfl, Nat.mul_one, Nat.add_zero] at cg); have ce := hfr12 0; (try simp only [show ((Kd.slice 3 (Kd.int .i64))).sz = 1 from rfl, Nat.mul_one, Nat.add_zero] at ce); clear hcl12 hcc12 hfr12 hoki12 hH12; (try simp only [show ((Kd.slice 3 (Kd.int .i64))).sz = 1 from rfl, Nat.mul_one, Nat.add_zero] at bJ)) | ((with_reducible refine gate_store (t := 23) (p := 21) rfl ?_); refine store_event (t := 23) (p := 21) (v := ?vo_w13) (w1 := (w11.setCell ⟨bt, (ab : Int).toNat, none⟩ (bQ))) ?hg ?ho ?hn ?hr ?_; (case ho => rfl); (case hg => rfl); (case hn => rfl); (case hr => first | (go_simp; done) | (go_simp; rfl) | (obtain ⟨_, _, rfl⟩ := Kd.R_slice aX.o; go_simp; first | done | rfl) | (obtain ⟨_, _, rfl⟩ := Kd.R_slice (Kd.S_R aX.o); go_simp; first | done | rfl)); intro w13 hw; have hg : w11.grownBy w13 (some bt) := (by rw [hw]; exact bJ.2); have hp_ : Kd.S (Kd.slice 3 (Kd.int .i64)) 23 w13 w.heap.size (fun _ => True) (.slice (some ⟨bt, 0, none⟩) al.length cG) co := (by rw [hw, cx.o]; exact bJ.1); clear bJ; replace af := A_ (hp_); replace HB := A_ ((by rw [hw]; exact below_set (HB.o) GB10.o : Below w.heap.size w w13)); clear aX; clear hg hw hp_))
        go_roundg k1
        case measure => have := bk.o; omega
        case rel => exact ⟨(co), (wrap64 (ab + 1)), (by rfl), H', ⟨by have := bk.o; omega⟩, ⟨af.o⟩, ⟨HB.o⟩⟩
       rw [if_neg c9] at H
       cases H
      rw [if_neg c7] at H
      cases H
     rw [if_neg c6] at H; have bz := decide_eq_false c6; clear c6; obtain rfl := Option.some.inj H
     go_wp2
     go_ret
     exact ⟨_, by rfl, af.o, HB.o⟩
  rw [if_neg c3] at H
  cases H
 rw [if_neg c2] at H
 cases H

def laws_toSequence.f (k : Nat) (an : Int) (ac : List (List Int)) (ae : List Int) : Option (Int × (List (List Int)) × List Int) := (laws_toIntSS.f k ac).bind fun bv => ((laws_toIntS.f k ae).bind fun bw => (some (an, bv, bw)))
theorem laws_toSequence.calls (k : Nat) (an : Int) (aA : Option Addr) (aI : Nat) (ac : List (List Int)) (aC : Option Addr) (aJ : Nat) (ae : List Int) (r1 : Int) (r2 : List (List Int)) (r3 : List Int) (w : World) (a5 : Kd.C (Kd.slice 3 (Kd.int .i64)) w aA ac.length ac) (a3 : ac.length ≤ aI) (a6 : Kd.C (Kd.int .i64) w aC ae.length ae) (a4 : ae.length ≤ aJ) (h : laws_toSequence.f k an ac ae = some (r1, r2, r3)) :
  Calls Try.prog 8 #[.agg #[.int .i64 an, .slice aA ac.length aI, .slice aC ae.length aJ]] w fun e w' => ∃ v1_ v2_ : Value, e = .returned (.agg #[.int .i64 r1, v1_, v2_]) ∧ Kd.S (Kd.slice 3 (Kd.int .i64)) 23 w' w.heap.size (o1 v2_) v1_ r2 ∧ Kd.R (Kd.int .i64) 3 w' w.heap.size (fun _ => True) v2_ r3 ∧ Below w.heap.size w w' := by
 have hu25 := Try.underlying25; have hu32 := Try.underlying32; have aY := A_ a5; have aW := A_ a3; clear a5 a3; have bm := A_ a6; have bj := A_ a4; clear a6 a4; have HB := A_ (Below.refl w.heap.size w); unfold laws_toSequence.f at h; have H := h; clear h; replace H := bA_ H; obtain ⟨bv, A2, H⟩ := H; replace H := bA_ H; obtain ⟨bw, A3, H⟩ := H; simp only [Option.some.injEq, Prod.mk.injEq] at H; obtain ⟨rfl, rfl, rfl⟩ := H; go_enter Try.func8, Try.ntmps8
 go_wp2_with (first | ((with_reducible refine gate_dst (N := 1) rfl ?_); refine box_event rfl (N := 1) rfl (cs := #[.int .i64 an, .slice aA ac.length aI, .slice aC ae.length aJ]) (t := 25) (by go_simp; done) ?_; intro bU hg w4 hbox hb; have ag := A_ (hbox); have dj := A_ (lg_ (below_size HB.o) hg); have aE := A_ (lg_ (below_size HB.o) hg); replace HB := bs_ HB hb; clear hb hbox hg) | ((with_reducible refine gate_dst (N := 2) rfl ?_); refine box_event rfl (N := 2) rfl (cs := #[.int .i64 0, .slice none 0 0, .slice none 0 0]) (t := 32) (by go_simp; done) ?_; intro bB hg w5 hbox hb; have am := A_ (hbox); have dk := A_ (lg_ (below_size HB.o) hg); have aG := A_ (lg_ (below_size HB.o) hg); replace HB := bs_ HB hb; have bp := nl_ ag hg; have bq := ng_ ag hg; replace ag := bb_ ag hb; clear hb hbox hg) | ((with_reducible refine gate_dst (N := 3) rfl ?_); refine box_event rfl (N := 3) rfl (cs := #[.int .i64 0, .slice none 0 0, .slice none 0 0]) (t := 32) (by go_simp; done) ?_; intro aZ hg w6 hbox hb; have ap := A_ (hbox); have dl := A_ (lg_ (below_size HB.o) hg); have aH := A_ (lg_ (below_size HB.o) hg); replace HB := bs_ HB hb; have az := nl_ ag hg; have br := ng_ ag hg; replace ag := bb_ ag hb; have ao := nl_ am hg; have bs := ng_ am hg; replace am := bb_ am hb; clear hb hbox hg; have dy := bp.o; have dA := bq.o; have dz := az.o; have dB := br.o; have de := bq3 ag.o; have dt := bs.o; have du := ao.o; have cN := bq3 ap.o) | ((with_reducible refine gc_ 23 rfl ?_); refine cM_ E23 9 (laws_toIntSS.calls k _ _ ac bv _ (Kd.C_below aY.o (by repeat (first | (with_reducible first | exact HB.o | apply below_alloc | apply pw_below_drewN | apply below_drew1 | refine below_set ?_ aE.o | refine below_set ?_ aG.o | refine below_set ?_ aH.o) | exact HB.o))) aW.o A2.o) ?_; rintro e w12 ⟨dC, rfl, ho0, hb⟩; refine ⟨_, rfl, ?_⟩; have bl := A_ (Kd.S_lower ho0 (below_size (by repeat (first | (with_reducible first | exact HB.o | apply below_alloc | apply pw_below_drewN | apply below_drew1 | refine below_set ?_ aE.o | refine below_set ?_ aG.o | refine below_set ?_ aH.o) | exact HB.o)))); replace ag := A_ (blk_below (g := bU) (o := .cells #[.int .i64 an, .slice aA ac.length aI, .slice aC ae.length aJ] 25 (0, 0)) (by exact fa_ az ag.o) hb); replace am := A_ (blk_below (g := bB) (o := .cells #[.int .i64 0, .slice none 0 0, .slice none 0 0] 32 (0, 0)) (by exact fa_ ao am.o) hb); replace ap := A_ (blk_below (g := aZ) (o := .cells #[.int .i64 an, .slice none 0 0, .slice none 0 0] 32 (0, 0)) (by exact pu_ 0 ap.o rfl) hb); replace HB := A_ (below_step (by repeat (first | (with_reducible first | exact HB.o | apply below_alloc | apply pw_below_drewN | apply below_drew1 | refine below_set ?_ aE.o | refine below_set ?_ aG.o | refine below_set ?_ aH.o) | exact HB.o)) hb); clear hb ho0; obtain ⟨bY, b6, da⟩ := Kd.S_slice bl.o; subst da; have cP := bq3 ap.o; have cQ := bq3 ag.o) | ((with_reducible refine gc_ 24 rfl ?_); refine cM_ E24 13 (laws_toIntS.calls k _ _ ae bw _ (Kd.C_below bm.o (by repeat (first | (with_reducible first | exact HB.o | apply below_alloc | apply pw_below_drewN | apply below_drew1 | refine below_set ?_ aE.o | refine below_set ?_ aG.o | refine below_set ?_ aH.o) | exact HB.o))) bj.o A3.o) ?_; rintro e w16 ⟨dD, rfl, ho0, hb⟩; refine ⟨_, rfl, ?_⟩; replace bl := A_ (Kd.S_elder' (by exact (Kd.S_mono (Kd.S_far (p := ⟨aZ, 1, none⟩) (Kd.S_types bl.o ap.o (by decide)) (fun _ hk => hk.2) (.slice bY bv.length b6)) (fun _ h_ => h_.1))) (Kd.R_base ho0) hb); have bS := A_ (Kd.R_lower ho0 (below_size (by repeat (first | (with_reducible first | exact HB.o | apply below_alloc | apply pw_below_drewN | apply below_drew1 | refine below_set ?_ aE.o | refine below_set ?_ aG.o | refine below_set ?_ aH.o) | exact HB.o)))); replace ag := A_ (blk_below (g := bU) (o := .cells #[.int .i64 an, .slice aA ac.length aI, .slice aC ae.length aJ] 25 (0, 0)) (by exact fa_ az ag.o) hb); replace am := A_ (blk_below (g := bB) (o := .cells #[.int .i64 0, .slice none 0 0, .slice none 0 0] 32 (0, 0)) (by exact fa_ ao am.o) hb); replace ap := A_ (blk_below (g := aZ) (o := .cells #[.int .i64 an, .slice bY bv.length b6, .slice none 0 0] 32 (0, 0)) (by exact pu_ 1 ap.o rfl) hb); replace HB := A_ (below_step (by repeat (first | (with_reducible first | exact HB.o | apply below_alloc | apply pw_below_drewN | apply below_drew1 | refine below_set ?_ aE.o | refine below_set ?_ aG.o | refine below_set ?_ aH.o) | exact HB.o)) hb); clear hb ho0; obtain ⟨bZ, b7, db⟩ := Kd.R_slice bS.o; subst db; have cS := bq3 ap.o; have cU := bq3 am.o))
 refine bodyPost_ret (results_cell_row rfl _ _ bB 32 #[.int .i64 an, .slice bY bv.length b6, .slice bZ bw.length b7] (0, 0) _ rfl (by exact pu_ 2 (pu_ 1 (pu_ 0 (fa_ ao am.o) rfl) rfl) rfl) Try.underlying32 rfl (by kernel_rfl)) rfl ?_; exact ⟨_, _, by rfl, by exact Kd.S_mono (gS3_ (Kd.S_far (p := ⟨aZ, 2, none⟩) (Kd.S_types (Kd.S_types bl.o ap.o (by decide)) am.o (by decide)) (fun _ hk => hk.1.2) (.slice bZ bw.length b7))) (fun _ hk => hk.1.1.2), by exact Kd.R_mono (gR3_ (Kd.R_far (p := ⟨aZ, 2, none⟩) (Kd.R_types (Kd.R_types bS.o ap.o (by decide)) am.o (by decide)) (fun _ hk => hk.1.2) (.slice bZ bw.length b7))) (fun _ hk => trivial), by repeat (first | (with_reducible first | exact HB.o | apply below_alloc | apply pw_below_drewN | apply below_drew1 | refine below_set ?_ aE.o | refine below_set ?_ aG.o | refine below_set ?_ aH.o) | exact HB.o)⟩

def laws_eqIntS.l0 : Nat → List Int → List Int → Int → Option (Bool)
 | 0, _, _, _ => none
 | k + 1, x0, x1, x5 => if x5 < (x0.length : Int) then (if 0 ≤ x5 then (if x5 < (x1.length : Int) then (if (rd x0 x5) = (rd x1 x5) then (laws_eqIntS.l0 k x0 x1 (wrap64 (x5 + 1))) else (some false)) else (none)) else (none)) else (some true)
def laws_eqIntS.f (k : Nat) (l0 : List Int) (l1 : List Int) : Option (Bool) := if (l0.length : Int) = (l1.length : Int) then (laws_eqIntS.l0 k l0 l1 0) else (some false)
theorem laws_eqIntS.calls (k : Nat) (A0 : Option Addr) (c0 : Nat) (l0 : List Int) (A1 : Option Addr) (c1 : Nat) (l1 : List Int) (r : Bool) (w : World) (hr0 : Kd.C (Kd.int .i64) w A0 l0.length l0) (hc0 : l0.length ≤ c0) (hr1 : Kd.C (Kd.int .i64) w A1 l1.length l1) (hc1 : l1.length ≤ c1) (h : laws_eqIntS.f k l0 l1 = some r) :
  Calls Try.prog 29 #[.slice A0 l0.length c0, .slice A1 l1.length c1] w fun e w' => e = .returned (.bool r) ∧ Drawn0 w w' := by
 have HR0 := A_ hr0; have HC0 := A_ hc0; clear hr0 hc0; have HR1 := A_ hr1; have HC1 := A_ hc1; clear hr1 hc1; unfold laws_eqIntS.f at h; have H := h; clear h
 by_cases c3 : (l0.length : Int) = (l1.length : Int)
 ·rw [if_pos c3] at H
  have aq : ((l0.length : Int) == (l1.length : Int)) = true := beq_iff_eq.mpr c3
  have aN : ((l0.length : Int) != (l1.length : Int)) = false := bne_eq_false_iff_eq.mpr c3
  have bx : (l0.length == l1.length) = true := by first | simpa using c3 | (simp at c3 ⊢; omega)
  clear c3
  have H' := A_ H
  clear H; go_enter Try.func29, Try.ntmps29
  go_wp2
  repeat (go_quiet (fail); try go_wp2)
  go_loopg [5] k (fun kq v5 w' => ∃ (aa : Int), v5 = .int .i64 aa ∧ Aside0 (laws_eqIntS.l0 kq l0 l1 aa = some r) ∧ Aside0 (kq ≤ k) ∧ Drawn0 w w')
  case atStart => exact ⟨(0), (by rfl), H', ⟨Nat.le_refl _⟩, by repeat (first | exact Drawn0.refl _ | apply Drawn0.step)⟩
  case round =>
   clear H'
   clear aq aN bx
   obtain ⟨aa, rfl, HA, bk, ⟨m1, rfl⟩⟩ := hrel
   cases gk with
   | zero => exact nz_ HA.o
   | succ k1 =>
    have H := HA.o; clear HA; simp only [laws_eqIntS.l0] at H
    by_cases c4 : aa < (l0.length : Int)
    ·rw [if_pos c4] at H; have a7 := decide_eq_true c4; clear c4
     by_cases c5 : 0 ≤ aa
     ·rw [if_pos c5] at H; have cE := decide_eq_true c5; clear c5
      by_cases c6 : aa < (l1.length : Int)
      ·rw [if_pos c6] at H; have bz := decide_eq_true c6; clear c6
       by_cases c7 : (rd l0 aa) = (rd l1 aa)
       ·rw [if_pos c7] at H
        have bA : ((rd l0 aa) == (rd l1 aa)) = true := beq_iff_eq.mpr c7
        have cX : ((rd l0 aa) != (rd l1 aa)) = false := bne_eq_false_iff_eq.mpr c7
        clear c7
        have H' := A_ H
        clear H
        have a9 : 0 ≤ (aa : Int) := oa_
        have be : aa < (l0.length : Int) := oa_
        obtain ⟨cA, b9, bM⟩ := Kd.at_int HR0.o aa a9 be
        cases b9
        replace a9 := eq_true a9; replace be := eq_true be
        have ba : 0 ≤ (aa : Int) := oa_
        have bf : aa < (l1.length : Int) := oa_
        obtain ⟨cB, ca, bN⟩ := Kd.at_int HR1.o aa ba bf
        cases ca
        replace ba := eq_true ba; replace bf := eq_true bf
        go_wp2
        repeat (go_quiet (fail); try go_wp2)
        go_roundg k1
        case measure => have := bk.o; omega
        case rel => exact ⟨(wrap64 (aa + 1)), (by rfl), H', ⟨by have := bk.o; omega⟩, by repeat (first | exact Drawn0.refl _ | apply Drawn0.step)⟩
       rw [if_neg c7] at H
       have bA : ((rd l0 aa) == (rd l1 aa)) = false := beq_eq_false_iff_ne.mpr c7
       have cX : ((rd l0 aa) != (rd l1 aa)) = true := bne_iff_ne.mpr c7
       obtain rfl := Option.some.inj H
       have a9 : 0 ≤ (aa : Int) := oa_
       have be : aa < (l0.length : Int) := oa_
       obtain ⟨cA, b9, bM⟩ := Kd.at_int HR0.o aa a9 be
       cases b9
       replace a9 := eq_true a9; replace be := eq_true be
       have ba : 0 ≤ (aa : Int) := oa_
       have bf : aa < (l1.length : Int) := oa_
       obtain ⟨cB, ca, bN⟩ := Kd.at_int HR1.o aa ba bf
       cases ca
       replace ba := eq_true ba; replace bf := eq_true bf
       go_wp2
       repeat (go_quiet (fail); try go_wp2)
       go_ret
       exact ⟨by rfl, by repeat (first | exact Drawn0.refl _ | apply Drawn0.step)⟩
      rw [if_neg c6] at H
      cases H
     rw [if_neg c5] at H
     cases H
    rw [if_neg c4] at H; have a7 := decide_eq_false c4; clear c4; obtain rfl := Option.some.inj H
    go_wp2
    repeat (go_quiet (fail); try go_wp2)
    go_ret
    exact ⟨by rfl, by repeat (first | exact Drawn0.refl _ | apply Drawn0.step)⟩
 rw [if_neg c3] at H
 have aq : ((l0.length : Int) == (l1.length : Int)) = false := beq_eq_false_iff_ne.mpr c3
 have aN : ((l0.length : Int) != (l1.length : Int)) = true := bne_iff_ne.mpr c3
 have bx : (l0.length == l1.length) = false := by first | simpa using c3 | (simp at c3 ⊢; omega)
 obtain rfl := Option.some.inj H; go_enter Try.func29, Try.ntmps29
 go_wp2
 repeat (go_quiet (fail); try go_wp2)
 go_ret
 exact ⟨by rfl, by repeat (first | exact Drawn0.refl _ | apply Drawn0.step)⟩

def laws_eqIntSS.l0 : Nat → List (List Int) → List (List Int) → Int → Option (Bool)
 | 0, _, _, _ => none
 | k + 1, x0, x1, x5 => if x5 < (x0.length : Int) then (if 0 ≤ x5 then (if x5 < (x1.length : Int) then ((laws_eqIntS.f k (rd_L1 x0 x5) (rd_L1 x1 x5)).bind fun cm => (if cm = true then (laws_eqIntSS.l0 k x0 x1 (wrap64 (x5 + 1))) else (some false))) else (none)) else (none)) else (some true)
def laws_eqIntSS.f (k : Nat) (l0 : List (List Int)) (l1 : List (List Int)) : Option (Bool) := if (l0.length : Int) = (l1.length : Int) then (laws_eqIntSS.l0 k l0 l1 0) else (some false)
theorem laws_eqIntSS.calls (k : Nat) (A0 : Option Addr) (c0 : Nat) (l0 : List (List Int)) (A1 : Option Addr) (c1 : Nat) (l1 : List (List Int)) (r : Bool) (w : World) (hr0 : Kd.C (Kd.slice 3 (Kd.int .i64)) w A0 l0.length l0) (hc0 : l0.length ≤ c0) (hr1 : Kd.C (Kd.slice 3 (Kd.int .i64)) w A1 l1.length l1) (hc1 : l1.length ≤ c1) (h : laws_eqIntSS.f k l0 l1 = some r) :
  Calls Try.prog 31 #[.slice A0 l0.length c0, .slice A1 l1.length c1] w fun e w' => e = .returned (.bool r) ∧ Drawn0 w w' := by
 have HR0 := A_ hr0; have HC0 := A_ hc0; clear hr0 hc0; have HR1 := A_ hr1; have HC1 := A_ hc1; clear hr1 hc1; unfold laws_eqIntSS.f at h; have H := h; clear h
 by_cases c3 : (l0.length : Int) = (l1.length : Int)
 ·rw [if_pos c3] at H
  have aq : ((l0.length : Int) == (l1.length : Int)) = true := beq_iff_eq.mpr c3
  have aN : ((l0.length : Int) != (l1.length : Int)) = false := bne_eq_false_iff_eq.mpr c3
  have bx : (l0.length == l1.length) = true := by first | simpa using c3 | (simp at c3 ⊢; omega)
  clear c3
  have H' := A_ H
  clear H; go_enter Try.func31, Try.ntmps31
  go_wp2
  repeat (go_quiet (fail); try go_wp2)
  go_loopg [5] k (fun kq v5 w' => ∃ (aa : Int), v5 = .int .i64 aa ∧ Aside0 (laws_eqIntSS.l0 kq l0 l1 aa = some r) ∧ Aside0 (kq ≤ k) ∧ Drawn0 w w')
  case atStart => exact ⟨(0), (by rfl), H', ⟨Nat.le_refl _⟩, by repeat (first | exact Drawn0.refl _ | apply Drawn0.step)⟩
  case round =>
   clear H'
   clear aq aN bx
   obtain ⟨aa, rfl, HA, bk, ⟨m1, rfl⟩⟩ := hrel
   cases gk with
   | zero => exact nz_ HA.o
   | succ k1 =>
    have H := HA.o; clear HA; simp only [laws_eqIntSS.l0] at H
    by_cases c4 : aa < (l0.length : Int)
    ·rw [if_pos c4] at H; have a7 := decide_eq_true c4; clear c4
     by_cases c5 : 0 ≤ aa
     ·rw [if_pos c5] at H; have cE := decide_eq_true c5; clear c5
      by_cases c6 : aa < (l1.length : Int)
      ·rw [if_pos c6] at H; have bz := decide_eq_true c6; clear c6; replace H := bA_ H; obtain ⟨cm, A7, H⟩ := H
       by_cases c8 : cm = true
       ·subst c8; rw [if_pos rfl] at H
        have H' := A_ H
        clear H
        have bb : 0 ≤ (aa : Int) := oa_
        have bg : aa < (l0.length : Int) := oa_
        obtain ⟨cC, bW, b2, cb, bO, ax, au⟩ := at_L1 HR0.o aa bb bg
        cases cb
        have aj := A_ au; have ah := A_ ax; clear au ax; replace bb := eq_true bb; replace bg := eq_true bg
        have bc : 0 ≤ (aa : Int) := oa_
        have bh : aa < (l1.length : Int) := oa_
        obtain ⟨cD, bX, b3, cc, bP, ay, av⟩ := at_L1 HR1.o aa bc bh
        cases cc
        have ak := A_ av; have ai := A_ ay; clear av ay; replace bc := eq_true bc; replace bh := eq_true bh
        go_wp2_with (first | (go_at_call 29; (with_reducible refine (laws_eqIntS.calls k1 _ _ (rd_L1 l0 aa) _ _ (rd_L1 l1 aa) true _ ?side1 ?side2 ?side3 ?side4 A7.o).mono ?_); (case side1 => repeat (first | exact aj.o | (with_reducible refine Kd.C_alloc ?_ _) | (with_reducible refine Kd.C_drewN ?_ _) | (with_reducible refine Kd.C_drew ?_))); (case side2 => exact ah.o); (case side3 => repeat (first | exact ak.o | (with_reducible refine Kd.C_alloc ?_ _) | (with_reducible refine Kd.C_drewN ?_ _) | (with_reducible refine Kd.C_drew ?_))); (case side4 => exact ai.o); rintro e w' ⟨rfl, ⟨nd, rfl⟩⟩; skip))
        repeat (go_quiet (first | (go_at_call 29; (with_reducible refine (laws_eqIntS.calls k1 _ _ (rd_L1 l0 aa) _ _ (rd_L1 l1 aa) true _ ?side1 ?side2 ?side3 ?side4 A7.o).mono ?_); (case side1 => repeat (first | exact aj.o | (with_reducible refine Kd.C_alloc ?_ _) | (with_reducible refine Kd.C_drewN ?_ _) | (with_reducible refine Kd.C_drew ?_))); (case side2 => exact ah.o); (case side3 => repeat (first | exact ak.o | (with_reducible refine Kd.C_alloc ?_ _) | (with_reducible refine Kd.C_drewN ?_ _) | (with_reducible refine Kd.C_drew ?_))); (case side4 => exact ai.o); rintro e w' ⟨rfl, ⟨nd, rfl⟩⟩; exact ⟨rfl, _, Eq.trans (World.drewN_drewN _ _ _) (congrArg (World.drewN _) (Nat.add_assoc _ _ _))⟩)); try go_wp2_with (first | (go_at_call 29; (with_reducible refine (laws_eqIntS.calls k1 _ _ (rd_L1 l0 aa) _ _ (rd_L1 l1 aa) true _ ?side1 ?side2 ?side3 ?side4 A7.o).mono ?_); (case side1 => repeat (first | exact aj.o | (with_reducible refine Kd.C_alloc ?_ _) | (with_reducible refine Kd.C_drewN ?_ _) | (with_reducible refine Kd.C_drew ?_))); (case side2 => exact ah.o); (case side3 => repeat (first | exact ak.o | (with_reducible refine Kd.C_alloc ?_ _) | (with_reducible refine Kd.C_drewN ?_ _) | (with_reducible refine Kd.C_drew ?_))); (case side4 => exact ai.o); rintro e w' ⟨rfl, ⟨nd, rfl⟩⟩; skip)))
        go_roundg k1
        case measure => have := bk.o; omega
        case rel => exact ⟨(wrap64 (aa + 1)), (by rfl), H', ⟨by have := bk.o; omega⟩, by repeat (first | exact Drawn0.refl _ | apply Drawn0.step)⟩
       replace c8 := Bool.eq_false_iff.mpr c8; subst c8; rw [if_neg nf_] at H; obtain rfl := Option.some.inj H
       have bb : 0 ≤ (aa : Int) := oa_
       have bg : aa < (l0.length : Int) := oa_
       obtain ⟨cC, bW, b2, cb, bO, ax, au⟩ := at_L1 HR0.o aa bb bg
       cases cb
       have aj := A_ au; have ah := A_ ax; clear au ax; replace bb := eq_true bb; replace bg := eq_true bg
       have bc : 0 ≤ (aa : Int) := oa_
       have bh : aa < (l1.length : Int) := oa_
       obtain ⟨cD, bX, b3, cc, bP, ay, av⟩ := at_L1 HR1.o aa bc bh
       cases cc
       have ak := A_ av; have ai := A_ ay; clear av ay; replace bc := eq_true bc; replace bh := eq_true bh
       go_wp2_with (first | (go_at_call 29; (with_reducible refine (laws_eqIntS.calls k1 _ _ (rd_L1 l0 aa) _ _ (rd_L1 l1 aa) false _ ?side1 ?side2 ?side3 ?side4 A7.o).mono ?_); (case side1 => repeat (first | exact aj.o | (with_reducible refine Kd.C_alloc ?_ _) | (with_reducible refine Kd.C_drewN ?_ _) | (with_reducible refine Kd.C_drew ?_))); (case side2 => exact ah.o); (case side3 => repeat (first | exact ak.o | (with_reducible refine Kd.C_alloc ?_ _) | (with_reducible refine Kd.C_drewN ?_ _) | (with_reducible refine Kd.C_drew ?_))); (case side4 => exact ai.o); rintro e w' ⟨rfl, ⟨nd, rfl⟩⟩; skip))
       repeat (go_quiet (first | (go_at_call 29; (with_reducible refine (laws_eqIntS.calls k1 _ _ (rd_L1 l0 aa) _ _ (rd_L1 l1 aa) false _ ?side1 ?side2 ?side3 ?side4 A7.o).mono ?_); (case side1 => repeat (first | exact aj.o | (with_reducible refine Kd.C_alloc ?_ _) | (with_reducible refine Kd.C_drewN ?_ _) | (with_reducible refine Kd.C_drew ?_))); (case side2 => exact ah.o); (case side3 => repeat (first | exact ak.o | (with_reducible refine Kd.C_alloc ?_ _) | (with_reducible refine Kd.C_drewN ?_ _) | (with_reducible refine Kd.C_drew ?_))); (case side4 => exact ai.o); rintro e w' ⟨rfl, ⟨nd, rfl⟩⟩; exact ⟨rfl, _, Eq.trans (World.drewN_drewN _ _ _) (congrArg (World.drewN _) (Nat.add_assoc _ _ _))⟩)); try go_wp2_with (first | (go_at_call 29; (with_reducible refine (laws_eqIntS.calls k1 _ _ (rd_L1 l0 aa) _ _ (rd_L1 l1 aa) false _ ?side1 ?side2 ?side3 ?side4 A7.o).mono ?_); (case side1 => repeat (first | exact aj.o | (with_reducible refine Kd.C_alloc ?_ _) | (with_reducible refine Kd.C_drewN ?_ _) | (with_reducible refine Kd.C_drew ?_))); (case side2 => exact ah.o); (case side3 => repeat (first | exact ak.o | (with_reducible refine Kd.C_alloc ?_ _) | (with_reducible refine Kd.C_drewN ?_ _) | (with_reducible refine Kd.C_drew ?_))); (case side4 => exact ai.o); rintro e w' ⟨rfl, ⟨nd, rfl⟩⟩; skip)))
       go_ret
       exact ⟨by rfl, by repeat (first | exact Drawn0.refl _ | apply Drawn0.step)⟩
      rw [if_neg c6] at H
      cases H
     rw [if_neg c5] at H
     cases H
    rw [if_neg c4] at H; have a7 := decide_eq_false c4; clear c4; obtain rfl := Option.some.inj H
    go_wp2
    repeat (go_quiet (fail); try go_wp2)
    go_ret
    exact ⟨by rfl, by repeat (first | exact Drawn0.refl _ | apply Drawn0.step)⟩
 rw [if_neg c3] at H
 have aq : ((l0.length : Int) == (l1.length : Int)) = false := beq_eq_false_iff_ne.mpr c3
 have aN : ((l0.length : Int) != (l1.length : Int)) = true := bne_iff_ne.mpr c3
 have bx : (l0.length == l1.length) = false := by first | simpa using c3 | (simp at c3 ⊢; omega)
 obtain rfl := Option.some.inj H; go_enter Try.func31, Try.ntmps31
 go_wp2
 repeat (go_quiet (fail); try go_wp2)
 go_ret
 exact ⟨by rfl, by repeat (first | exact Drawn0.refl _ | apply Drawn0.step)⟩

end Go.Proofs.Ytgmfjcckmapkbaa.PFnExactPrefixSum

