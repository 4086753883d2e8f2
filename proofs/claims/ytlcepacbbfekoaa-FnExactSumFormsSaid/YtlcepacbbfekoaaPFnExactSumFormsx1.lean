/- Walks of the functions that the law reaches. -/
import Derived.Test.YtlcepacbbfekoaaPFnExactSumFormsx0
namespace Go.Proofs.Ytlcepacbbfekoaa.PFnExactSumForms
open Go.RowKit Go.Proofs.YtlcepacbbfekoaaW.PrintWords Go.Proofs.YtlcepacbbfekoaaW.PrintLast Go.Proofs.YtlcepacbbfekoaaW.PrintMore
attribute [local go_sem] max2_int min2_int max_two min_two max_three min_three max_four min_four
set_option linter.unusedVariables false
set_option maxHeartbeats 8000000
set_option maxRecDepth 100000
set_option linter.unusedSimpArgs false

def laws_szIntS.f (l0 : List Int) (a1 : Int) : Option (Int) := if (wrap64 (a1 - (l0.length : Int))) < 0 then (some (-1)) else (some (wrap64 (a1 - (l0.length : Int))))
theorem laws_szIntS.calls (A0 : Option Addr) (c0 : Nat) (l0 : List Int) (a1 : Int) (r : Int) (w : World) (hr0 : Kd.C (Kd.int .i64) w A0 l0.length l0) (hc0 : l0.length ≤ c0) (h : laws_szIntS.f l0 a1 = some r) :
  Calls Try.prog 11 #[.slice A0 l0.length c0, .int .i64 a1] w fun e w' => e = .returned (.int .i64 r) ∧ Drawn0 w w' := by
 have HR0 := A_ hr0; have HC0 := A_ hc0; clear hr0 hc0; unfold laws_szIntS.f at h; have H := h; clear h
 by_cases c3 : (wrap64 (a1 - (l0.length : Int))) < 0
 ·rw [if_pos c3] at H; have av := decide_eq_true c3; clear c3; obtain rfl := Option.some.inj H; go_enter Try.func11, Try.ntmps11
  go_wp2
  go_ret
  exact ⟨by rfl, by repeat (first | exact Drawn0.refl _ | apply Drawn0.step)⟩
 rw [if_neg c3] at H; have av := decide_eq_false c3; clear c3; obtain rfl := Option.some.inj H; go_enter Try.func11, Try.ntmps11
 go_wp2
 go_ret
 exact ⟨by rfl, by repeat (first | exact Drawn0.refl _ | apply Drawn0.step)⟩

def laws_szIntSS.l0 : Nat → List (List Int) → Int → Int → Option (Int)
 | 0, _, _, _ => none
 | k + 1, x0, x1, x5 => if x5 < (x0.length : Int) then (if 0 ≤ x5 then ((laws_szIntS.f (rd_L1 x0 x5) x1).bind fun aC => (if aC < 0 then (some (-1)) else (laws_szIntSS.l0 k x0 aC (wrap64 (x5 + 1))))) else (none)) else (some x1)
def laws_szIntSS.f (k : Nat) (l0 : List (List Int)) (a1 : Int) : Option (Int) := if (wrap64 (a1 - (l0.length : Int))) < 0 then (some (-1)) else (laws_szIntSS.l0 k l0 (wrap64 (a1 - (l0.length : Int))) 0)
theorem laws_szIntSS.mono_l : ∀ k, (∀ y0 y1 y2, LeO (laws_szIntSS.l0 k y0 y1 y2) (laws_szIntSS.l0 (k + 1) y0 y1 y2))
 | 0 => fun _ _ _ r h => by simp [laws_szIntSS.l0] at h
 | k + 1 => by
  have ih0 := laws_szIntSS.mono_l k
  ·intro y0 y1 y2; unfold laws_szIntSS.l0
   with_reducible repeat' first | exact ih0 _ _ _ | exact LeO.refl _ | exact LeO.none _ | refine LeO.ite ?_ ?_ | refine LeO.bind ?_ (fun _ => ?_)
theorem laws_szIntSS.mono : ∀ a0 a1 k, LeO (laws_szIntSS.f k a0 a1) (laws_szIntSS.f (k + 1) a0 a1) := by
 intro a0 a1 k; have ih0 := laws_szIntSS.mono_l k; unfold laws_szIntSS.f
 with_reducible repeat' first | exact ih0 _ _ _ | exact LeO.refl _ | exact LeO.none _ | refine LeO.ite ?_ ?_ | refine LeO.bind ?_ (fun _ => ?_)
theorem laws_szIntSS.calls (k : Nat) (A0 : Option Addr) (c0 : Nat) (l0 : List (List Int)) (a1 : Int) (r : Int) (w : World) (hr0 : Kd.C (Kd.slice 3 (Kd.int .i64)) w A0 l0.length l0) (hc0 : l0.length ≤ c0) (h : laws_szIntSS.f k l0 a1 = some r) :
  Calls Try.prog 25 #[.slice A0 l0.length c0, .int .i64 a1] w fun e w' => e = .returned (.int .i64 r) ∧ Drawn0 w w' := by
 have HR0 := A_ hr0; have HC0 := A_ hc0; clear hr0 hc0; unfold laws_szIntSS.f at h; have H := h; clear h
 by_cases c3 : (wrap64 (a1 - (l0.length : Int))) < 0
 ·rw [if_pos c3] at H; have av := decide_eq_true c3; clear c3; obtain rfl := Option.some.inj H; go_enter Try.func25, Try.ntmps25
  go_wp2
  go_ret
  exact ⟨by rfl, by repeat (first | exact Drawn0.refl _ | apply Drawn0.step)⟩
 rw [if_neg c3] at H; have av := decide_eq_false c3; clear c3
 have H' := A_ H
 clear H; go_enter Try.func25, Try.ntmps25
 go_wp2
 go_loopg [1, 5] k (fun kq v1 v5 w' => ∃ (am : Int) (aa : Int), v1 = .int .i64 am ∧ v5 = .int .i64 aa ∧ Aside0 (laws_szIntSS.l0 kq l0 am aa = some r) ∧ Aside0 (kq ≤ k) ∧ Drawn0 w w')
 case atStart => exact ⟨(wrap64 (a1 - (l0.length : Int))), (0), (by rfl), (by rfl), H', ⟨Nat.le_refl _⟩, by repeat (first | exact Drawn0.refl _ | apply Drawn0.step)⟩
 case round =>
  clear H'
  try clear av
  obtain ⟨am, aa, rfl, rfl, HA, bq, ⟨m1, rfl⟩⟩ := hrel
  cases gk with
  | zero => exact nz_ HA.o
  | succ k1 =>
   have H := HA.o; clear HA; simp only [laws_szIntSS.l0] at H
   by_cases c4 : aa < (l0.length : Int)
   ·rw [if_pos c4] at H; have aw := decide_eq_true c4; clear c4
    by_cases c5 : 0 ≤ aa
    ·rw [if_pos c5] at H; have bz := decide_eq_true c5; clear c5; replace H := bA_ H; obtain ⟨aC, A6, H⟩ := H
     by_cases c7 : aC < 0
     ·rw [if_pos c7] at H; have bm := decide_eq_true c7; clear c7; obtain rfl := Option.some.inj H
      have ax : 0 ≤ (aa : Int) := oa_
      have az : aa < (l0.length : Int) := oa_
      obtain ⟨br, bi, bk, bn, aY, ag, ae⟩ := at_L1 HR0.o aa ax az
      cases bn
      have ap := A_ ae; have an := A_ ag; clear ae ag; replace ax := eq_true ax; replace az := eq_true az
      go_wp2_with (first | ((with_reducible refine gc_ 11 rfl ?_); refine cM_ E11 23 (laws_szIntS.calls _ _ (rd_L1 l0 aa) am aC _ (by repeat (first | exact ap.o | (with_reducible refine Kd.C_alloc ?_ _) | (with_reducible refine Kd.C_drewN ?_ _) | (with_reducible refine Kd.C_drew ?_))) an.o A6.o) ?_; rintro e w' ⟨rfl, ⟨nd, rfl⟩⟩; refine ⟨_, rfl, ?_⟩))
      go_ret
      exact ⟨by rfl, by repeat (first | exact Drawn0.refl _ | apply Drawn0.step)⟩
     rw [if_neg c7] at H; have bm := decide_eq_false c7; clear c7
     have H' := A_ H
     clear H
     have ax : 0 ≤ (aa : Int) := oa_
     have az : aa < (l0.length : Int) := oa_
     obtain ⟨br, bi, bk, bn, aY, ag, ae⟩ := at_L1 HR0.o aa ax az
     cases bn
     have ap := A_ ae; have an := A_ ag; clear ae ag; replace ax := eq_true ax; replace az := eq_true az
     go_wp2_with (first | ((with_reducible refine gc_ 11 rfl ?_); refine cM_ E11 23 (laws_szIntS.calls _ _ (rd_L1 l0 aa) am aC _ (by repeat (first | exact ap.o | (with_reducible refine Kd.C_alloc ?_ _) | (with_reducible refine Kd.C_drewN ?_ _) | (with_reducible refine Kd.C_drew ?_))) an.o A6.o) ?_; rintro e w' ⟨rfl, ⟨nd, rfl⟩⟩; refine ⟨_, rfl, ?_⟩))
     go_roundg k1
     case measure => have := bq.o; omega
     case rel => exact ⟨(aC), (wrap64 (aa + 1)), (by rfl), (by rfl), H', ⟨by have := bq.o; omega⟩, by repeat (first | exact Drawn0.refl _ | apply Drawn0.step)⟩
    rw [if_neg c5] at H
    cases H
   rw [if_neg c4] at H; have aw := decide_eq_false c4; clear c4; obtain rfl := Option.some.inj H
   go_wp2
   go_ret
   exact ⟨by rfl, by repeat (first | exact Drawn0.refl _ | apply Drawn0.step)⟩

def laws_szIntSSS.l0 : Nat → List (List (List Int)) → Int → Int → Option (Int)
 | 0, _, _, _ => none
 | k + 1, x0, x1, x5 => if x5 < (x0.length : Int) then (if 0 ≤ x5 then ((laws_szIntSS.f k (rd_L2 x0 x5) x1).bind fun aD => (if aD < 0 then (some (-1)) else (laws_szIntSSS.l0 k x0 aD (wrap64 (x5 + 1))))) else (none)) else (some x1)
def laws_szIntSSS.f (k : Nat) (l0 : List (List (List Int))) (a1 : Int) : Option (Int) := if (wrap64 (a1 - (l0.length : Int))) < 0 then (some (-1)) else (laws_szIntSSS.l0 k l0 (wrap64 (a1 - (l0.length : Int))) 0)
theorem laws_szIntSSS.mono_l : ∀ k, (∀ y0 y1 y2, LeO (laws_szIntSSS.l0 k y0 y1 y2) (laws_szIntSSS.l0 (k + 1) y0 y1 y2))
 | 0 => fun _ _ _ r h => by simp [laws_szIntSSS.l0] at h
 | k + 1 => by
  have ih0 := laws_szIntSSS.mono_l k
  ·intro y0 y1 y2; unfold laws_szIntSSS.l0
   with_reducible repeat' first | exact ih0 _ _ _ | exact laws_szIntSS.mono _ _ _ | exact LeO.refl _ | exact LeO.none _ | refine LeO.ite ?_ ?_ | refine LeO.bind ?_ (fun _ => ?_)
theorem laws_szIntSSS.mono : ∀ a0 a1 k, LeO (laws_szIntSSS.f k a0 a1) (laws_szIntSSS.f (k + 1) a0 a1) := by
 intro a0 a1 k; have ih0 := laws_szIntSSS.mono_l k; unfold laws_szIntSSS.f
 with_reducible repeat' first | exact ih0 _ _ _ | exact laws_szIntSS.mono _ _ _ | exact LeO.refl _ | exact LeO.none _ | refine LeO.ite ?_ ?_ | refine LeO.bind ?_ (fun _ => ?_)
theorem laws_szIntSSS.calls (k : Nat) (A0 : Option Addr) (c0 : Nat) (l0 : List (List (List Int))) (a1 : Int) (r : Int) (w : World) (hr0 : Kd.C (Kd.slice 22 (Kd.slice 3 (Kd.int .i64))) w A0 l0.length l0) (hc0 : l0.length ≤ c0) (h : laws_szIntSSS.f k l0 a1 = some r) :
  Calls Try.prog 12 #[.slice A0 l0.length c0, .int .i64 a1] w fun e w' => e = .returned (.int .i64 r) ∧ Drawn0 w w' := by
 have HR0 := A_ hr0; have HC0 := A_ hc0; clear hr0 hc0; unfold laws_szIntSSS.f at h; have H := h; clear h
 by_cases c3 : (wrap64 (a1 - (l0.length : Int))) < 0
 ·rw [if_pos c3] at H; have av := decide_eq_true c3; clear c3; obtain rfl := Option.some.inj H; go_enter Try.func12, Try.ntmps12
  go_wp2
  go_ret
  exact ⟨by rfl, by repeat (first | exact Drawn0.refl _ | apply Drawn0.step)⟩
 rw [if_neg c3] at H; have av := decide_eq_false c3; clear c3
 have H' := A_ H
 clear H; go_enter Try.func12, Try.ntmps12
 go_wp2
 go_loopg [1, 5] k (fun kq v1 v5 w' => ∃ (am : Int) (aa : Int), v1 = .int .i64 am ∧ v5 = .int .i64 aa ∧ Aside0 (laws_szIntSSS.l0 kq l0 am aa = some r) ∧ Aside0 (kq ≤ k) ∧ Drawn0 w w')
 case atStart => exact ⟨(wrap64 (a1 - (l0.length : Int))), (0), (by rfl), (by rfl), H', ⟨Nat.le_refl _⟩, by repeat (first | exact Drawn0.refl _ | apply Drawn0.step)⟩
 case round =>
  clear H'
  try clear av
  obtain ⟨am, aa, rfl, rfl, HA, bq, ⟨m1, rfl⟩⟩ := hrel
  cases gk with
  | zero => exact nz_ HA.o
  | succ k1 =>
   have H := HA.o; clear HA; simp only [laws_szIntSSS.l0] at H
   by_cases c4 : aa < (l0.length : Int)
   ·rw [if_pos c4] at H; have aw := decide_eq_true c4; clear c4
    by_cases c5 : 0 ≤ aa
    ·rw [if_pos c5] at H; have bz := decide_eq_true c5; clear c5; replace H := bA_ H; obtain ⟨aD, A6, H⟩ := H
     by_cases c7 : aD < 0
     ·rw [if_pos c7] at H; have bm := decide_eq_true c7; clear c7; obtain rfl := Option.some.inj H
      have ay : 0 ≤ (aa : Int) := oa_
      have aA : aa < (l0.length : Int) := oa_
      obtain ⟨bs, bj, bl, bp, a8, ah, af⟩ := at_L2 HR0.o aa ay aA
      cases bp
      have aq := A_ af; have ao := A_ ah; clear af ah; replace ay := eq_true ay; replace aA := eq_true aA
      go_wp2_with (first | ((with_reducible refine gc_ 25 rfl ?_); refine cM_ E25 23 (laws_szIntSS.calls k1 _ _ (rd_L2 l0 aa) am aD _ (by repeat (first | exact aq.o | (with_reducible refine Kd.C_alloc ?_ _) | (with_reducible refine Kd.C_drewN ?_ _) | (with_reducible refine Kd.C_drew ?_))) ao.o A6.o) ?_; rintro e w' ⟨rfl, ⟨nd, rfl⟩⟩; refine ⟨_, rfl, ?_⟩))
      go_ret
      exact ⟨by rfl, by repeat (first | exact Drawn0.refl _ | apply Drawn0.step)⟩
     rw [if_neg c7] at H; have bm := decide_eq_false c7; clear c7
     have H' := A_ H
     clear H
     have ay : 0 ≤ (aa : Int) := oa_
     have aA : aa < (l0.length : Int) := oa_
     obtain ⟨bs, bj, bl, bp, a8, ah, af⟩ := at_L2 HR0.o aa ay aA
     cases bp
     have aq := A_ af; have ao := A_ ah; clear af ah; replace ay := eq_true ay; replace aA := eq_true aA
     go_wp2_with (first | ((with_reducible refine gc_ 25 rfl ?_); refine cM_ E25 23 (laws_szIntSS.calls k1 _ _ (rd_L2 l0 aa) am aD _ (by repeat (first | exact aq.o | (with_reducible refine Kd.C_alloc ?_ _) | (with_reducible refine Kd.C_drewN ?_ _) | (with_reducible refine Kd.C_drew ?_))) ao.o A6.o) ?_; rintro e w' ⟨rfl, ⟨nd, rfl⟩⟩; refine ⟨_, rfl, ?_⟩))
     go_roundg k1
     case measure => have := bq.o; omega
     case rel => exact ⟨(aD), (wrap64 (aa + 1)), (by rfl), (by rfl), H', ⟨by have := bq.o; omega⟩, by repeat (first | exact Drawn0.refl _ | apply Drawn0.step)⟩
    rw [if_neg c5] at H
    cases H
   rw [if_neg c4] at H; have aw := decide_eq_false c4; clear c4; obtain rfl := Option.some.inj H
   go_wp2
   go_ret
   exact ⟨by rfl, by repeat (first | exact Drawn0.refl _ | apply Drawn0.step)⟩

def laws_szLinear.f (k : Nat) (au : Int) (ac : List Int) (ai : List (List (List Int))) (aj : List Int) (a1 : Int) : Option (Int) := (laws_szIntS.f ac a1).bind fun al => (if al < 0 then (some (-1)) else ((laws_szIntSSS.f k ai al).bind fun ar => (if ar < 0 then (some (-1)) else ((laws_szIntS.f aj ar).bind fun aT => (if aT < 0 then (some (-1)) else (some aT))))))
theorem laws_szLinear.mono : ∀ a0 a1 a2 a3 a4 k, LeO (laws_szLinear.f k a0 a1 a2 a3 a4) (laws_szLinear.f (k + 1) a0 a1 a2 a3 a4) := by
 intro a0 a1 a2 a3 a4 k; unfold laws_szLinear.f
 with_reducible repeat' first | exact laws_szIntSSS.mono _ _ _ | exact LeO.refl _ | exact LeO.none _ | refine LeO.ite ?_ ?_ | refine LeO.bind ?_ (fun _ => ?_)
theorem laws_szLinear.calls (k : Nat) (au : Int) (aH : Option Addr) (aM : Nat) (ac : List Int) (aI : Option Addr) (aN : Nat) (ai : List (List (List Int))) (aJ : Option Addr) (aQ : Nat) (aj : List Int) (a1 : Int) (r : Int) (w : World) (bf : Kd.C (Kd.int .i64) w aH ac.length ac) (bb : ac.length ≤ aM) (bg : Kd.C (Kd.slice 22 (Kd.slice 3 (Kd.int .i64))) w aI ai.length ai) (bc : ai.length ≤ aN) (bh : Kd.C (Kd.int .i64) w aJ aj.length aj) (be : aj.length ≤ aQ) (h : laws_szLinear.f k au ac ai aj a1 = some r) :
  Calls Try.prog 4 #[.agg #[.int .i64 au, .slice aH ac.length aM, .slice aI ai.length aN, .slice aJ aj.length aQ], .int .i64 a1] w fun e w' => e = .returned (.int .i64 r) ∧ Below w.heap.size w w' := by
 have hu25 := Try.underlying25; have aG := A_ bf; have aE := A_ bb; clear bf bb; have aW := A_ bg; have aV := A_ bc; clear bg bc; have ba := A_ bh; have a9 := A_ be; clear bh be; have HB := A_ (Below.refl w.heap.size w); unfold laws_szLinear.f at h; have H := h; clear h; replace H := bA_ H; obtain ⟨al, A3, H⟩ := H
 by_cases c4 : al < 0
 ·rw [if_pos c4] at H; have aw := decide_eq_true c4; clear c4; obtain rfl := Option.some.inj H; go_enter Try.func4, Try.ntmps4
  go_wp2_with (first | ((with_reducible refine gate_dst (N := 2) rfl ?_); refine box_event rfl (N := 2) rfl (cs := #[.int .i64 au, .slice aH ac.length aM, .slice aI ai.length aN, .slice aJ aj.length aQ]) (t := 25) (by go_simp; done) ?_; intro aX hg w5 hbox hb; have ak := A_ (hbox); have aU := A_ (lg_ (below_size HB.o) hg); have ab := A_ (lg_ (below_size HB.o) hg); replace HB := bs_ HB hb; clear hb hbox hg; have bB := bq4 ak.o) | ((with_reducible refine gc_ 11 rfl ?_); refine cM_ E11 8 (laws_szIntS.calls _ _ ac a1 al _ (Kd.C_below aG.o HB.o) aE.o A3.o) ?_; rintro e w' ⟨rfl, ⟨nd, rfl⟩⟩; refine ⟨_, rfl, ?_⟩))
  go_ret
  exact ⟨by rfl, by repeat (first | (with_reducible first | exact HB.o | apply below_alloc | apply pw_below_drewN | apply below_drew1 | refine below_set ?_ ab.o) | exact HB.o)⟩
 rw [if_neg c4] at H; have aw := decide_eq_false c4; clear c4; replace H := bA_ H; obtain ⟨ar, A7, H⟩ := H
 by_cases c8 : ar < 0
 ·rw [if_pos c8] at H; have bA := decide_eq_true c8; clear c8; obtain rfl := Option.some.inj H; go_enter Try.func4, Try.ntmps4
  go_wp2_with (first | ((with_reducible refine gate_dst (N := 2) rfl ?_); refine box_event rfl (N := 2) rfl (cs := #[.int .i64 au, .slice aH ac.length aM, .slice aI ai.length aN, .slice aJ aj.length aQ]) (t := 25) (by go_simp; done) ?_; intro aX hg w9 hbox hb; have ak := A_ (hbox); have aU := A_ (lg_ (below_size HB.o) hg); have ab := A_ (lg_ (below_size HB.o) hg); replace HB := bs_ HB hb; clear hb hbox hg; have bv := bq4 ak.o) | ((with_reducible refine gc_ 11 rfl ?_); refine cM_ E11 8 (laws_szIntS.calls _ _ ac a1 al _ (Kd.C_below aG.o HB.o) aE.o A3.o) ?_; rintro e w' ⟨rfl, ⟨nd, rfl⟩⟩; refine ⟨_, rfl, ?_⟩) | ((with_reducible refine gc_ 12 rfl ?_); refine cM_ E12 14 (laws_szIntSSS.calls k _ _ ai al ar _ (by repeat (first | exact (Kd.C_below aW.o (by repeat (first | (with_reducible first | exact HB.o | apply below_alloc | apply pw_below_drewN | apply below_drew1 | refine below_set ?_ ab.o) | exact HB.o))) | (with_reducible refine Kd.C_alloc ?_ _) | (with_reducible refine Kd.C_drewN ?_ _) | (with_reducible refine Kd.C_drew ?_))) aV.o A7.o) ?_; rintro e w' ⟨rfl, ⟨nd, rfl⟩⟩; refine ⟨_, rfl, ?_⟩))
  go_ret
  exact ⟨by rfl, by repeat (first | (with_reducible first | exact HB.o | apply below_alloc | apply pw_below_drewN | apply below_drew1 | refine below_set ?_ ab.o) | exact HB.o)⟩
 rw [if_neg c8] at H; have bA := decide_eq_false c8; clear c8; replace H := bA_ H; obtain ⟨aT, A11, H⟩ := H
 by_cases c12 : aT < 0
 ·rw [if_pos c12] at H; have bu := decide_eq_true c12; clear c12; obtain rfl := Option.some.inj H; go_enter Try.func4, Try.ntmps4
  go_wp2_with (first | ((with_reducible refine gate_dst (N := 2) rfl ?_); refine box_event rfl (N := 2) rfl (cs := #[.int .i64 au, .slice aH ac.length aM, .slice aI ai.length aN, .slice aJ aj.length aQ]) (t := 25) (by go_simp; done) ?_; intro aX hg w13 hbox hb; have ak := A_ (hbox); have aU := A_ (lg_ (below_size HB.o) hg); have ab := A_ (lg_ (below_size HB.o) hg); replace HB := bs_ HB hb; clear hb hbox hg; have bw := bq4 ak.o) | ((with_reducible refine gc_ 11 rfl ?_); refine cL_ E11 8 rfl rfl rfl (laws_szIntS.calls _ _ ac a1 al _ (Kd.C_below aG.o HB.o) aE.o A3.o) (by (try simp only [mA, mB, mC]); first | done | rfl | (simp only [List.length_drop, List.length_take]; rfl)) ?_; rintro e w' ⟨rfl, ⟨nd, rfl⟩⟩; refine ⟨_, rfl, ?_⟩) | ((with_reducible refine gc_ 12 rfl ?_); refine cM_ E12 14 (laws_szIntSSS.calls k _ _ ai al ar _ (by repeat (first | exact (Kd.C_below aW.o (by repeat (first | (with_reducible first | exact HB.o | apply below_alloc | apply pw_below_drewN | apply below_drew1 | refine below_set ?_ ab.o) | exact HB.o))) | (with_reducible refine Kd.C_alloc ?_ _) | (with_reducible refine Kd.C_drewN ?_ _) | (with_reducible refine Kd.C_drew ?_))) aV.o A7.o) ?_; rintro e w' ⟨rfl, ⟨nd, rfl⟩⟩; refine ⟨_, rfl, ?_⟩) | ((with_reducible refine gc_ 11 rfl ?_); refine cM_ E11 20 (laws_szIntS.calls _ _ aj ar aT _ (by repeat (first | exact (Kd.C_below ba.o (by repeat (first | (with_reducible first | exact HB.o | apply below_alloc | apply pw_below_drewN | apply below_drew1 | refine below_set ?_ ab.o) | exact HB.o))) | (with_reducible refine Kd.C_alloc ?_ _) | (with_reducible refine Kd.C_drewN ?_ _) | (with_reducible refine Kd.C_drew ?_))) a9.o A11.o) ?_; rintro e w' ⟨rfl, ⟨nd, rfl⟩⟩; refine ⟨_, rfl, ?_⟩))
  go_ret
  exact ⟨by rfl, by repeat (first | (with_reducible first | exact HB.o | apply below_alloc | apply pw_below_drewN | apply below_drew1 | refine below_set ?_ ab.o) | exact HB.o)⟩
 rw [if_neg c12] at H; have bu := decide_eq_false c12; clear c12; obtain rfl := Option.some.inj H; go_enter Try.func4, Try.ntmps4
 go_wp2_with (first | ((with_reducible refine gate_dst (N := 2) rfl ?_); refine box_event rfl (N := 2) rfl (cs := #[.int .i64 au, .slice aH ac.length aM, .slice aI ai.length aN, .slice aJ aj.length aQ]) (t := 25) (by go_simp; done) ?_; intro aX hg w15 hbox hb; have ak := A_ (hbox); have aU := A_ (lg_ (below_size HB.o) hg); have ab := A_ (lg_ (below_size HB.o) hg); replace HB := bs_ HB hb; clear hb hbox hg; have bx := bq4 ak.o) | ((with_reducible refine gc_ 11 rfl ?_); refine cL_ E11 8 rfl rfl rfl (laws_szIntS.calls _ _ ac a1 al _ (Kd.C_below aG.o HB.o) aE.o A3.o) (by (try simp only [mA, mB, mC]); first | done | rfl | (simp only [List.length_drop, List.length_take]; rfl)) ?_; rintro e w' ⟨rfl, ⟨nd, rfl⟩⟩; refine ⟨_, rfl, ?_⟩) | ((with_reducible refine gc_ 12 rfl ?_); refine cM_ E12 14 (laws_szIntSSS.calls k _ _ ai al ar _ (by repeat (first | exact (Kd.C_below aW.o (by repeat (first | (with_reducible first | exact HB.o | apply below_alloc | apply pw_below_drewN | apply below_drew1 | refine below_set ?_ ab.o) | exact HB.o))) | (with_reducible refine Kd.C_alloc ?_ _) | (with_reducible refine Kd.C_drewN ?_ _) | (with_reducible refine Kd.C_drew ?_))) aV.o A7.o) ?_; rintro e w' ⟨rfl, ⟨nd, rfl⟩⟩; refine ⟨_, rfl, ?_⟩) | ((with_reducible refine gc_ 11 rfl ?_); refine cM_ E11 20 (laws_szIntS.calls _ _ aj ar aT _ (by repeat (first | exact (Kd.C_below ba.o (by repeat (first | (with_reducible first | exact HB.o | apply below_alloc | apply pw_below_drewN | apply below_drew1 | refine below_set ?_ ab.o) | exact HB.o))) | (with_reducible refine Kd.C_alloc ?_ _) | (with_reducible refine Kd.C_drewN ?_ _) | (with_reducible refine Kd.C_drew ?_))) a9.o A11.o) ?_; rintro e w' ⟨rfl, ⟨nd, rfl⟩⟩; refine ⟨_, rfl, ?_⟩))
 go_ret
 exact ⟨by rfl, by repeat (first | (with_reducible first | exact HB.o | apply below_alloc | apply pw_below_drewN | apply below_drew1 | refine below_set ?_ ab.o) | exact HB.o)⟩

def spec_l1In.f (a0 : Int) (a1 : Int) (a2 : Int) : Option (Bool) := if a0 ≥ a1 then (some (decide (a0 ≤ a2))) else (some false)
theorem spec_l1In.calls (a0 : Int) (a1 : Int) (a2 : Int) (r : Bool) (w : World) (h : spec_l1In.f a0 a1 a2 = some r) :
  Calls Try.prog 26 #[.int .i64 a0, .int .i64 a1, .int .i64 a2] w fun e w' => e = .returned (.bool r) ∧ Drawn0 w w' := by
 unfold spec_l1In.f at h; have H := h; clear h
 by_cases c4 : a0 ≥ a1
 ·rw [if_pos c4] at H
  have aw : decide (a1 ≤ a0) = true := decide_eq_true c4
  clear c4; obtain rfl := Option.some.inj H; go_enter Try.func26, Try.ntmps26
  go_wp2
  go_ret
  exact ⟨by rfl, by repeat (first | exact Drawn0.refl _ | apply Drawn0.step)⟩
 rw [if_neg c4] at H
 have aw : decide (a1 ≤ a0) = false := decide_eq_false c4
 clear c4; obtain rfl := Option.some.inj H; go_enter Try.func26, Try.ntmps26
 go_wp2
 go_ret
 exact ⟨by rfl, by repeat (first | exact Drawn0.refl _ | apply Drawn0.step)⟩

end Go.Proofs.Ytlcepacbbfekoaa.PFnExactSumForms
