/- Walks of the functions that the law reaches. -/
import Derived.Test.YtlcepacbbfekoaaPFnExactSumFormsx8
namespace Go.Proofs.Ytlcepacbbfekoaa.PFnExactSumForms
open Go.RowKit Go.Proofs.YtlcepacbbfekoaaW.PrintWords Go.Proofs.YtlcepacbbfekoaaW.PrintLast Go.Proofs.YtlcepacbbfekoaaW.PrintMore
attribute [local go_sem] max2_int min2_int max_two min_two max_three min_three max_four min_four
set_option linter.unusedVariables false
set_option maxHeartbeats 8000000
set_option maxRecDepth 100000
set_option linter.unusedSimpArgs false

def laws_heldIntSS.l0 : Nat → List (List Int) → Int → Int → Option (Int)
 | 0, _, _, _ => none
 | k + 1, x0, x1, x5 => if x5 < (x0.length : Int) then (if 0 ≤ x5 then ((laws_heldIntS.f k (rd_L1 x0 x5) x1).bind fun az => (if az < 0 then (some (-1)) else (laws_heldIntSS.l0 k x0 az (wrap64 (x5 + 1))))) else (none)) else (some x1)
def laws_heldIntSS.f (k : Nat) (l0 : List (List Int)) (a1 : Int) : Option (Int) := laws_heldIntSS.l0 k l0 a1 0
theorem laws_heldIntSS.mono_l : ∀ k, (∀ y0 y1 y2, LeO (laws_heldIntSS.l0 k y0 y1 y2) (laws_heldIntSS.l0 (k + 1) y0 y1 y2))
 | 0 => fun _ _ _ r h => by simp [laws_heldIntSS.l0] at h
 | k + 1 => by
  have ih0 := laws_heldIntSS.mono_l k
  ·intro y0 y1 y2; unfold laws_heldIntSS.l0
   with_reducible repeat' first | exact ih0 _ _ _ | exact laws_heldIntS.mono _ _ _ | exact LeO.refl _ | exact LeO.none _ | refine LeO.ite ?_ ?_ | refine LeO.bind ?_ (fun _ => ?_)
theorem laws_heldIntSS.mono : ∀ a0 a1 k, LeO (laws_heldIntSS.f k a0 a1) (laws_heldIntSS.f (k + 1) a0 a1) := by
 intro a0 a1 k; have ih0 := laws_heldIntSS.mono_l k; unfold laws_heldIntSS.f
 with_reducible repeat' first | exact ih0 _ _ _ | exact laws_heldIntS.mono _ _ _ | exact LeO.refl _ | exact LeO.none _ | refine LeO.ite ?_ ?_ | refine LeO.bind ?_ (fun _ => ?_)
theorem laws_heldIntSS.calls (k : Nat) (A0 : Option Addr) (c0 : Nat) (l0 : List (List Int)) (a1 : Int) (r : Int) (w : World) (hr0 : Kd.C (Kd.slice 3 (Kd.int .i64)) w A0 l0.length l0) (hc0 : l0.length ≤ c0) (h : laws_heldIntSS.f k l0 a1 = some r) :
  Calls Try.prog 33 #[.slice A0 l0.length c0, .int .i64 a1] w fun e w' => e = .returned (.int .i64 r) ∧ Drawn0 w w' := by
 have HR0 := A_ hr0; have HC0 := A_ hc0; clear hr0 hc0; unfold laws_heldIntSS.f at h; have H := h; clear h
 have H' := A_ H
 clear H; go_enter Try.func33, Try.ntmps33
 go_wp2
 go_loopg [1, 5] k (fun kq v1 v5 w' => ∃ (am : Int) (aa : Int), v1 = .int .i64 am ∧ v5 = .int .i64 aa ∧ Aside0 (laws_heldIntSS.l0 kq l0 am aa = some r) ∧ Aside0 (kq ≤ k) ∧ Drawn0 w w')
 case atStart => exact ⟨(a1), (0), (by rfl), (by rfl), H', ⟨Nat.le_refl _⟩, by repeat (first | exact Drawn0.refl _ | apply Drawn0.step)⟩
 case round =>
  clear H'; obtain ⟨am, aa, rfl, rfl, HA, bq, ⟨m1, rfl⟩⟩ := hrel
  cases gk with
  | zero => exact nz_ HA.o
  | succ k1 =>
   have H := HA.o; clear HA; simp only [laws_heldIntSS.l0] at H
   by_cases c3 : aa < (l0.length : Int)
   ·rw [if_pos c3] at H; have bk := decide_eq_true c3; clear c3
    by_cases c4 : 0 ≤ aa
    ·rw [if_pos c4] at H; have bl := decide_eq_true c4; clear c4; replace H := bA_ H; obtain ⟨az, A5, H⟩ := H
     by_cases c6 : az < 0
     ·rw [if_pos c6] at H; have bm := decide_eq_true c6; clear c6; obtain rfl := Option.some.inj H
      have av : 0 ≤ (aa : Int) := oa_
      have ax : aa < (l0.length : Int) := oa_
      obtain ⟨br, bg, bi, bn, aW, ag, ae⟩ := at_L1 HR0.o aa av ax
      cases bn
      have ap := A_ ae; have an := A_ ag; clear ae ag; replace av := eq_true av; replace ax := eq_true ax
      go_wp2_with (first | ((with_reducible refine gc_ 23 rfl ?_); refine cM_ E23 17 (laws_heldIntS.calls k1 _ _ (rd_L1 l0 aa) am az _ (by repeat (first | exact ap.o | (with_reducible refine Kd.C_alloc ?_ _) | (with_reducible refine Kd.C_drewN ?_ _) | (with_reducible refine Kd.C_drew ?_))) an.o A5.o) ?_; rintro e w' ⟨rfl, ⟨nd, rfl⟩⟩; refine ⟨_, rfl, ?_⟩))
      go_ret
      exact ⟨by rfl, by repeat (first | exact Drawn0.refl _ | apply Drawn0.step)⟩
     rw [if_neg c6] at H; have bm := decide_eq_false c6; clear c6
     have H' := A_ H
     clear H
     have av : 0 ≤ (aa : Int) := oa_
     have ax : aa < (l0.length : Int) := oa_
     obtain ⟨br, bg, bi, bn, aW, ag, ae⟩ := at_L1 HR0.o aa av ax
     cases bn
     have ap := A_ ae; have an := A_ ag; clear ae ag; replace av := eq_true av; replace ax := eq_true ax
     go_wp2_with (first | ((with_reducible refine gc_ 23 rfl ?_); refine cM_ E23 17 (laws_heldIntS.calls k1 _ _ (rd_L1 l0 aa) am az _ (by repeat (first | exact ap.o | (with_reducible refine Kd.C_alloc ?_ _) | (with_reducible refine Kd.C_drewN ?_ _) | (with_reducible refine Kd.C_drew ?_))) an.o A5.o) ?_; rintro e w' ⟨rfl, ⟨nd, rfl⟩⟩; refine ⟨_, rfl, ?_⟩))
     go_roundg k1
     case measure => have := bq.o; omega
     case rel => exact ⟨(az), (wrap64 (aa + 1)), (by rfl), (by rfl), H', ⟨by have := bq.o; omega⟩, by repeat (first | exact Drawn0.refl _ | apply Drawn0.step)⟩
    rw [if_neg c4] at H
    cases H
   rw [if_neg c3] at H; have bk := decide_eq_false c3; clear c3; obtain rfl := Option.some.inj H
   go_wp2
   go_ret
   exact ⟨by rfl, by repeat (first | exact Drawn0.refl _ | apply Drawn0.step)⟩

def laws_heldIntSSS.l0 : Nat → List (List (List Int)) → Int → Int → Option (Int)
 | 0, _, _, _ => none
 | k + 1, x0, x1, x5 => if x5 < (x0.length : Int) then (if 0 ≤ x5 then ((laws_heldIntSS.f k (rd_L2 x0 x5) x1).bind fun aA => (if aA < 0 then (some (-1)) else (laws_heldIntSSS.l0 k x0 aA (wrap64 (x5 + 1))))) else (none)) else (some x1)
def laws_heldIntSSS.f (k : Nat) (l0 : List (List (List Int))) (a1 : Int) : Option (Int) := laws_heldIntSSS.l0 k l0 a1 0
theorem laws_heldIntSSS.mono_l : ∀ k, (∀ y0 y1 y2, LeO (laws_heldIntSSS.l0 k y0 y1 y2) (laws_heldIntSSS.l0 (k + 1) y0 y1 y2))
 | 0 => fun _ _ _ r h => by simp [laws_heldIntSSS.l0] at h
 | k + 1 => by
  have ih0 := laws_heldIntSSS.mono_l k
  ·intro y0 y1 y2; unfold laws_heldIntSSS.l0
   with_reducible repeat' first | exact ih0 _ _ _ | exact laws_heldIntSS.mono _ _ _ | exact LeO.refl _ | exact LeO.none _ | refine LeO.ite ?_ ?_ | refine LeO.bind ?_ (fun _ => ?_)
theorem laws_heldIntSSS.mono : ∀ a0 a1 k, LeO (laws_heldIntSSS.f k a0 a1) (laws_heldIntSSS.f (k + 1) a0 a1) := by
 intro a0 a1 k; have ih0 := laws_heldIntSSS.mono_l k; unfold laws_heldIntSSS.f
 with_reducible repeat' first | exact ih0 _ _ _ | exact laws_heldIntSS.mono _ _ _ | exact LeO.refl _ | exact LeO.none _ | refine LeO.ite ?_ ?_ | refine LeO.bind ?_ (fun _ => ?_)
theorem laws_heldIntSSS.calls (k : Nat) (A0 : Option Addr) (c0 : Nat) (l0 : List (List (List Int))) (a1 : Int) (r : Int) (w : World) (hr0 : Kd.C (Kd.slice 22 (Kd.slice 3 (Kd.int .i64))) w A0 l0.length l0) (hc0 : l0.length ≤ c0) (h : laws_heldIntSSS.f k l0 a1 = some r) :
  Calls Try.prog 24 #[.slice A0 l0.length c0, .int .i64 a1] w fun e w' => e = .returned (.int .i64 r) ∧ Drawn0 w w' := by
 have HR0 := A_ hr0; have HC0 := A_ hc0; clear hr0 hc0; unfold laws_heldIntSSS.f at h; have H := h; clear h
 have H' := A_ H
 clear H; go_enter Try.func24, Try.ntmps24
 go_wp2
 go_loopg [1, 5] k (fun kq v1 v5 w' => ∃ (am : Int) (aa : Int), v1 = .int .i64 am ∧ v5 = .int .i64 aa ∧ Aside0 (laws_heldIntSSS.l0 kq l0 am aa = some r) ∧ Aside0 (kq ≤ k) ∧ Drawn0 w w')
 case atStart => exact ⟨(a1), (0), (by rfl), (by rfl), H', ⟨Nat.le_refl _⟩, by repeat (first | exact Drawn0.refl _ | apply Drawn0.step)⟩
 case round =>
  clear H'; obtain ⟨am, aa, rfl, rfl, HA, bq, ⟨m1, rfl⟩⟩ := hrel
  cases gk with
  | zero => exact nz_ HA.o
  | succ k1 =>
   have H := HA.o; clear HA; simp only [laws_heldIntSSS.l0] at H
   by_cases c3 : aa < (l0.length : Int)
   ·rw [if_pos c3] at H; have bk := decide_eq_true c3; clear c3
    by_cases c4 : 0 ≤ aa
    ·rw [if_pos c4] at H; have bl := decide_eq_true c4; clear c4; replace H := bA_ H; obtain ⟨aA, A5, H⟩ := H
     by_cases c6 : aA < 0
     ·rw [if_pos c6] at H; have bm := decide_eq_true c6; clear c6; obtain rfl := Option.some.inj H
      have aw : 0 ≤ (aa : Int) := oa_
      have ay : aa < (l0.length : Int) := oa_
      obtain ⟨bs, bh, bj, bp, aX, ah, af⟩ := at_L2 HR0.o aa aw ay
      cases bp
      have aq := A_ af; have ao := A_ ah; clear af ah; replace aw := eq_true aw; replace ay := eq_true ay
      go_wp2_with (first | ((with_reducible refine gc_ 33 rfl ?_); refine cM_ E33 17 (laws_heldIntSS.calls k1 _ _ (rd_L2 l0 aa) am aA _ (by repeat (first | exact aq.o | (with_reducible refine Kd.C_alloc ?_ _) | (with_reducible refine Kd.C_drewN ?_ _) | (with_reducible refine Kd.C_drew ?_))) ao.o A5.o) ?_; rintro e w' ⟨rfl, ⟨nd, rfl⟩⟩; refine ⟨_, rfl, ?_⟩))
      go_ret
      exact ⟨by rfl, by repeat (first | exact Drawn0.refl _ | apply Drawn0.step)⟩
     rw [if_neg c6] at H; have bm := decide_eq_false c6; clear c6
     have H' := A_ H
     clear H
     have aw : 0 ≤ (aa : Int) := oa_
     have ay : aa < (l0.length : Int) := oa_
     obtain ⟨bs, bh, bj, bp, aX, ah, af⟩ := at_L2 HR0.o aa aw ay
     cases bp
     have aq := A_ af; have ao := A_ ah; clear af ah; replace aw := eq_true aw; replace ay := eq_true ay
     go_wp2_with (first | ((with_reducible refine gc_ 33 rfl ?_); refine cM_ E33 17 (laws_heldIntSS.calls k1 _ _ (rd_L2 l0 aa) am aA _ (by repeat (first | exact aq.o | (with_reducible refine Kd.C_alloc ?_ _) | (with_reducible refine Kd.C_drewN ?_ _) | (with_reducible refine Kd.C_drew ?_))) ao.o A5.o) ?_; rintro e w' ⟨rfl, ⟨nd, rfl⟩⟩; refine ⟨_, rfl, ?_⟩))
     go_roundg k1
     case measure => have := bq.o; omega
     case rel => exact ⟨(aA), (wrap64 (aa + 1)), (by rfl), (by rfl), H', ⟨by have := bq.o; omega⟩, by repeat (first | exact Drawn0.refl _ | apply Drawn0.step)⟩
    rw [if_neg c4] at H
    cases H
   rw [if_neg c3] at H; have bk := decide_eq_false c3; clear c3; obtain rfl := Option.some.inj H
   go_wp2
   go_ret
   exact ⟨by rfl, by repeat (first | exact Drawn0.refl _ | apply Drawn0.step)⟩

def laws_heldLinear.f (k : Nat) (au : Int) (ac : List Int) (ai : List (List (List Int))) (aj : List Int) (a1 : Int) : Option (Int) := (laws_heldIntS.f k ac a1).bind fun al => (if al < 0 then (some (-1)) else ((laws_heldIntSSS.f k ai al).bind fun ar => (if ar < 0 then (some (-1)) else ((laws_heldIntS.f k aj ar).bind fun aN => (if aN < 0 then (some (-1)) else (some aN))))))
theorem laws_heldLinear.mono : ∀ a0 a1 a2 a3 a4 k, LeO (laws_heldLinear.f k a0 a1 a2 a3 a4) (laws_heldLinear.f (k + 1) a0 a1 a2 a3 a4) := by
 intro a0 a1 a2 a3 a4 k; unfold laws_heldLinear.f
 with_reducible repeat' first | exact laws_heldIntS.mono _ _ _ | exact laws_heldIntSSS.mono _ _ _ | exact LeO.refl _ | exact LeO.none _ | refine LeO.ite ?_ ?_ | refine LeO.bind ?_ (fun _ => ?_)
theorem laws_heldLinear.calls (k : Nat) (au : Int) (aE : Option Addr) (aI : Nat) (ac : List Int) (aG : Option Addr) (aJ : Nat) (ai : List (List (List Int))) (aH : Option Addr) (aM : Nat) (aj : List Int) (a1 : Int) (r : Int) (w : World) (bc : Kd.C (Kd.int .i64) w aE ac.length ac) (a9 : ac.length ≤ aI) (be : Kd.C (Kd.slice 22 (Kd.slice 3 (Kd.int .i64))) w aG ai.length ai) (ba : ai.length ≤ aJ) (bf : Kd.C (Kd.int .i64) w aH aj.length aj) (bb : aj.length ≤ aM) (h : laws_heldLinear.f k au ac ai aj a1 = some r) :
  Calls Try.prog 10 #[.agg #[.int .i64 au, .slice aE ac.length aI, .slice aG ai.length aJ, .slice aH aj.length aM], .int .i64 a1] w fun e w' => e = .returned (.int .i64 r) ∧ Below w.heap.size w w' := by
 have hu27 := Try.underlying27; have aD := A_ bc; have aC := A_ a9; clear bc a9; have aU := A_ be; have aT := A_ ba; clear be ba; have a8 := A_ bf; have aY := A_ bb; clear bf bb; have HB := A_ (Below.refl w.heap.size w); unfold laws_heldLinear.f at h; have H := h; clear h; replace H := bA_ H; obtain ⟨al, A3, H⟩ := H
 by_cases c4 : al < 0
 ·rw [if_pos c4] at H; have bl := decide_eq_true c4; clear c4; obtain rfl := Option.some.inj H; go_enter Try.func10, Try.ntmps10
  go_wp2_with (first | ((with_reducible refine gate_dst (N := 2) rfl ?_); refine box_event rfl (N := 2) rfl (cs := #[.int .i64 au, .slice aE ac.length aI, .slice aG ai.length aJ, .slice aH aj.length aM]) (t := 27) (by go_simp; done) ?_; intro aV hg w5 hbox hb; have ak := A_ (hbox); have aQ := A_ (lg_ (below_size HB.o) hg); have ab := A_ (lg_ (below_size HB.o) hg); replace HB := bs_ HB hb; clear hb hbox hg; have bA := bq4 ak.o) | ((with_reducible refine gc_ 23 rfl ?_); refine cM_ E23 8 (laws_heldIntS.calls k _ _ ac a1 al _ (Kd.C_below aD.o HB.o) aC.o A3.o) ?_; rintro e w' ⟨rfl, ⟨nd, rfl⟩⟩; refine ⟨_, rfl, ?_⟩))
  go_ret
  exact ⟨by rfl, by repeat (first | (with_reducible first | exact HB.o | apply below_alloc | apply pw_below_drewN | apply below_drew1 | refine below_set ?_ ab.o) | exact HB.o)⟩
 rw [if_neg c4] at H; have bl := decide_eq_false c4; clear c4; replace H := bA_ H; obtain ⟨ar, A7, H⟩ := H
 by_cases c8 : ar < 0
 ·rw [if_pos c8] at H; have bz := decide_eq_true c8; clear c8; obtain rfl := Option.some.inj H; go_enter Try.func10, Try.ntmps10
  go_wp2_with (first | ((with_reducible refine gate_dst (N := 2) rfl ?_); refine box_event rfl (N := 2) rfl (cs := #[.int .i64 au, .slice aE ac.length aI, .slice aG ai.length aJ, .slice aH aj.length aM]) (t := 27) (by go_simp; done) ?_; intro aV hg w9 hbox hb; have ak := A_ (hbox); have aQ := A_ (lg_ (below_size HB.o) hg); have ab := A_ (lg_ (below_size HB.o) hg); replace HB := bs_ HB hb; clear hb hbox hg; have bv := bq4 ak.o) | ((with_reducible refine gc_ 23 rfl ?_); refine cM_ E23 8 (laws_heldIntS.calls k _ _ ac a1 al _ (Kd.C_below aD.o HB.o) aC.o A3.o) ?_; rintro e w' ⟨rfl, ⟨nd, rfl⟩⟩; refine ⟨_, rfl, ?_⟩) | ((with_reducible refine gc_ 24 rfl ?_); refine cM_ E24 14 (laws_heldIntSSS.calls k _ _ ai al ar _ (by repeat (first | exact (Kd.C_below aU.o (by repeat (first | (with_reducible first | exact HB.o | apply below_alloc | apply pw_below_drewN | apply below_drew1 | refine below_set ?_ ab.o) | exact HB.o))) | (with_reducible refine Kd.C_alloc ?_ _) | (with_reducible refine Kd.C_drewN ?_ _) | (with_reducible refine Kd.C_drew ?_))) aT.o A7.o) ?_; rintro e w' ⟨rfl, ⟨nd, rfl⟩⟩; refine ⟨_, rfl, ?_⟩))
  go_ret
  exact ⟨by rfl, by repeat (first | (with_reducible first | exact HB.o | apply below_alloc | apply pw_below_drewN | apply below_drew1 | refine below_set ?_ ab.o) | exact HB.o)⟩
 rw [if_neg c8] at H; have bz := decide_eq_false c8; clear c8; replace H := bA_ H; obtain ⟨aN, A11, H⟩ := H
 by_cases c12 : aN < 0
 ·rw [if_pos c12] at H; have bu := decide_eq_true c12; clear c12; obtain rfl := Option.some.inj H; go_enter Try.func10, Try.ntmps10
  go_wp2_with (first | ((with_reducible refine gate_dst (N := 2) rfl ?_); refine box_event rfl (N := 2) rfl (cs := #[.int .i64 au, .slice aE ac.length aI, .slice aG ai.length aJ, .slice aH aj.length aM]) (t := 27) (by go_simp; done) ?_; intro aV hg w13 hbox hb; have ak := A_ (hbox); have aQ := A_ (lg_ (below_size HB.o) hg); have ab := A_ (lg_ (below_size HB.o) hg); replace HB := bs_ HB hb; clear hb hbox hg; have bw := bq4 ak.o) | ((with_reducible refine gc_ 23 rfl ?_); refine cL_ E23 8 rfl rfl rfl (laws_heldIntS.calls k _ _ ac a1 al _ (Kd.C_below aD.o HB.o) aC.o A3.o) (by (try simp only [mA, mB, mC]); first | done | rfl | (simp only [List.length_drop, List.length_take]; rfl)) ?_; rintro e w' ⟨rfl, ⟨nd, rfl⟩⟩; refine ⟨_, rfl, ?_⟩) | ((with_reducible refine gc_ 24 rfl ?_); refine cM_ E24 14 (laws_heldIntSSS.calls k _ _ ai al ar _ (by repeat (first | exact (Kd.C_below aU.o (by repeat (first | (with_reducible first | exact HB.o | apply below_alloc | apply pw_below_drewN | apply below_drew1 | refine below_set ?_ ab.o) | exact HB.o))) | (with_reducible refine Kd.C_alloc ?_ _) | (with_reducible refine Kd.C_drewN ?_ _) | (with_reducible refine Kd.C_drew ?_))) aT.o A7.o) ?_; rintro e w' ⟨rfl, ⟨nd, rfl⟩⟩; refine ⟨_, rfl, ?_⟩) | ((with_reducible refine gc_ 23 rfl ?_); refine cM_ E23 20 (laws_heldIntS.calls k _ _ aj ar aN _ (by repeat (first | exact (Kd.C_below a8.o (by repeat (first | (with_reducible first | exact HB.o | apply below_alloc | apply pw_below_drewN | apply below_drew1 | refine below_set ?_ ab.o) | exact HB.o))) | (with_reducible refine Kd.C_alloc ?_ _) | (with_reducible refine Kd.C_drewN ?_ _) | (with_reducible refine Kd.C_drew ?_))) aY.o A11.o) ?_; rintro e w' ⟨rfl, ⟨nd, rfl⟩⟩; refine ⟨_, rfl, ?_⟩))
  go_ret
  exact ⟨by rfl, by repeat (first | (with_reducible first | exact HB.o | apply below_alloc | apply pw_below_drewN | apply below_drew1 | refine below_set ?_ ab.o) | exact HB.o)⟩
 rw [if_neg c12] at H; have bu := decide_eq_false c12; clear c12; obtain rfl := Option.some.inj H; go_enter Try.func10, Try.ntmps10
 go_wp2_with (first | ((with_reducible refine gate_dst (N := 2) rfl ?_); refine box_event rfl (N := 2) rfl (cs := #[.int .i64 au, .slice aE ac.length aI, .slice aG ai.length aJ, .slice aH aj.length aM]) (t := 27) (by go_simp; done) ?_; intro aV hg w15 hbox hb; have ak := A_ (hbox); have aQ := A_ (lg_ (below_size HB.o) hg); have ab := A_ (lg_ (below_size HB.o) hg); replace HB := bs_ HB hb; clear hb hbox hg; have bx := bq4 ak.o) | ((with_reducible refine gc_ 23 rfl ?_); refine cL_ E23 8 rfl rfl rfl (laws_heldIntS.calls k _ _ ac a1 al _ (Kd.C_below aD.o HB.o) aC.o A3.o) (by (try simp only [mA, mB, mC]); first | done | rfl | (simp only [List.length_drop, List.length_take]; rfl)) ?_; rintro e w' ⟨rfl, ⟨nd, rfl⟩⟩; refine ⟨_, rfl, ?_⟩) | ((with_reducible refine gc_ 24 rfl ?_); refine cM_ E24 14 (laws_heldIntSSS.calls k _ _ ai al ar _ (by repeat (first | exact (Kd.C_below aU.o (by repeat (first | (with_reducible first | exact HB.o | apply below_alloc | apply pw_below_drewN | apply below_drew1 | refine below_set ?_ ab.o) | exact HB.o))) | (with_reducible refine Kd.C_alloc ?_ _) | (with_reducible refine Kd.C_drewN ?_ _) | (with_reducible refine Kd.C_drew ?_))) aT.o A7.o) ?_; rintro e w' ⟨rfl, ⟨nd, rfl⟩⟩; refine ⟨_, rfl, ?_⟩) | ((with_reducible refine gc_ 23 rfl ?_); refine cM_ E23 20 (laws_heldIntS.calls k _ _ aj ar aN _ (by repeat (first | exact (Kd.C_below a8.o (by repeat (first | (with_reducible first | exact HB.o | apply below_alloc | apply pw_below_drewN | apply below_drew1 | refine below_set ?_ ab.o) | exact HB.o))) | (with_reducible refine Kd.C_alloc ?_ _) | (with_reducible refine Kd.C_drewN ?_ _) | (with_reducible refine Kd.C_drew ?_))) aY.o A11.o) ?_; rintro e w' ⟨rfl, ⟨nd, rfl⟩⟩; refine ⟨_, rfl, ?_⟩))
 go_ret
 exact ⟨by rfl, by repeat (first | (with_reducible first | exact HB.o | apply below_alloc | apply pw_below_drewN | apply below_drew1 | refine below_set ?_ ab.o) | exact HB.o)⟩


end Go.Proofs.Ytlcepacbbfekoaa.PFnExactSumForms
