/- Walks of the functions that the law reaches. -/
import Derived.Test.YtgmfjcckmapkbaaPFnExactCountingFormx0
namespace Go.Proofs.Ytgmfjcckmapkbaa.PFnExactCountingForm
open Go.RowKit Go.Proofs.YtgmfjcckmapkbaaW.PrintWords Go.Proofs.YtgmfjcckmapkbaaW.PrintLast Go.Proofs.YtgmfjcckmapkbaaW.PrintMore
attribute [local go_sem] max2_int min2_int max_two min_two max_three min_three max_four min_four
set_option linter.unusedVariables false
set_option maxHeartbeats 8000000
set_option maxRecDepth 100000
set_option linter.unusedSimpArgs false

def laws_szIntS.f (l0 : List Int) (a1 : Int) : Option (Int) := if (wrap64 (a1 - (l0.length : Int))) < 0 then (some (-1)) else (some (wrap64 (a1 - (l0.length : Int))))
theorem laws_szIntS.calls (A0 : Option Addr) (c0 : Nat) (l0 : List Int) (a1 : Int) (r : Int) (w : World) (hr0 : Kd.C (Kd.int .i64) w A0 l0.length l0) (hc0 : l0.length ≤ c0) (h : laws_szIntS.f l0 a1 = some r) :
  Calls Try.prog 20 #[.slice A0 l0.length c0, .int .i64 a1] w fun e w' => e = .returned (.int .i64 r) ∧ Drawn0 w w' := by
 have HR0 := A_ hr0; have HC0 := A_ hc0; clear hr0 hc0; unfold laws_szIntS.f at h; have H := h; clear h
 by_cases c3 : (wrap64 (a1 - (l0.length : Int))) < 0
 ·rw [if_pos c3] at H; have aA := decide_eq_true c3; clear c3; obtain rfl := Option.some.inj H; go_enter Try.func20, Try.ntmps20
  go_wp2
  go_ret
  exact ⟨by rfl, by repeat (first | exact Drawn0.refl _ | apply Drawn0.step)⟩
 rw [if_neg c3] at H; have aA := decide_eq_false c3; clear c3; obtain rfl := Option.some.inj H; go_enter Try.func20, Try.ntmps20
 go_wp2
 go_ret
 exact ⟨by rfl, by repeat (first | exact Drawn0.refl _ | apply Drawn0.step)⟩

def laws_szIntSS.l0 : Nat → List (List Int) → Int → Int → Option (Int)
 | 0, _, _, _ => none
 | k + 1, x0, x1, x5 => if x5 < (x0.length : Int) then (if 0 ≤ x5 then ((laws_szIntS.f (rd_L1 x0 x5) x1).bind fun an => (if an < 0 then (some (-1)) else (laws_szIntSS.l0 k x0 an (wrap64 (x5 + 1))))) else (none)) else (some x1)
def laws_szIntSS.f (k : Nat) (l0 : List (List Int)) (a1 : Int) : Option (Int) := if (wrap64 (a1 - (l0.length : Int))) < 0 then (some (-1)) else (laws_szIntSS.l0 k l0 (wrap64 (a1 - (l0.length : Int))) 0)
theorem laws_szIntSS.calls (k : Nat) (A0 : Option Addr) (c0 : Nat) (l0 : List (List Int)) (a1 : Int) (r : Int) (w : World) (hr0 : Kd.C (Kd.slice 3 (Kd.int .i64)) w A0 l0.length l0) (hc0 : l0.length ≤ c0) (h : laws_szIntSS.f k l0 a1 = some r) :
  Calls Try.prog 19 #[.slice A0 l0.length c0, .int .i64 a1] w fun e w' => e = .returned (.int .i64 r) ∧ Drawn0 w w' := by
 have HR0 := A_ hr0; have HC0 := A_ hc0; clear hr0 hc0; unfold laws_szIntSS.f at h; have H := h; clear h
 by_cases c3 : (wrap64 (a1 - (l0.length : Int))) < 0
 ·rw [if_pos c3] at H; have aA := decide_eq_true c3; clear c3; obtain rfl := Option.some.inj H; go_enter Try.func19, Try.ntmps19
  go_wp2
  go_ret
  exact ⟨by rfl, by repeat (first | exact Drawn0.refl _ | apply Drawn0.step)⟩
 rw [if_neg c3] at H; have aA := decide_eq_false c3; clear c3
 have H' := A_ H
 clear H; go_enter Try.func19, Try.ntmps19
 go_wp2
 go_loopg [1, 5] k (fun kq v1 v5 w' => ∃ (az : Int) (ac : Int), v1 = .int .i64 az ∧ v5 = .int .i64 ac ∧ Aside0 (laws_szIntSS.l0 kq l0 az ac = some r) ∧ Aside0 (kq ≤ k) ∧ Drawn0 w w')
 case atStart => exact ⟨(wrap64 (a1 - (l0.length : Int))), (0), (by rfl), (by rfl), H', ⟨Nat.le_refl _⟩, by repeat (first | exact Drawn0.refl _ | apply Drawn0.step)⟩
 case round =>
  clear H'
  try clear aA
  obtain ⟨az, ac, rfl, rfl, HA, a8, ⟨m1, rfl⟩⟩ := hrel
  cases gk with
  | zero => exact nz_ HA.o
  | succ k1 =>
   have H := HA.o; clear HA; simp only [laws_szIntSS.l0] at H
   by_cases c4 : ac < (l0.length : Int)
   ·rw [if_pos c4] at H; have ay := decide_eq_true c4; clear c4
    by_cases c5 : 0 ≤ ac
    ·rw [if_pos c5] at H; have a9 := decide_eq_true c5; clear c5; replace H := bA_ H; obtain ⟨an, A6, H⟩ := H
     by_cases c7 : an < 0
     ·rw [if_pos c7] at H; have aX := decide_eq_true c7; clear c7; obtain rfl := Option.some.inj H
      have al : 0 ≤ (ac : Int) := oa_
      have am : ac < (l0.length : Int) := oa_
      obtain ⟨aU, aN, aQ, aT, aC, ab, aa⟩ := at_L1 HR0.o ac al am
      cases aT
      have ai := A_ aa; have ah := A_ ab; clear aa ab; replace al := eq_true al; replace am := eq_true am
      go_wp2_with (first | ((with_reducible refine gc_ 20 rfl ?_); refine cM_ E20 23 (laws_szIntS.calls _ _ (rd_L1 l0 ac) az an _ (by repeat (first | exact ai.o | (with_reducible refine Kd.C_alloc ?_ _) | (with_reducible refine Kd.C_drewN ?_ _) | (with_reducible refine Kd.C_drew ?_))) ah.o A6.o) ?_; rintro e w' ⟨rfl, ⟨nd, rfl⟩⟩; refine ⟨_, rfl, ?_⟩))
      go_ret
      exact ⟨by rfl, by repeat (first | exact Drawn0.refl _ | apply Drawn0.step)⟩
     rw [if_neg c7] at H; have aX := decide_eq_false c7; clear c7
     have H' := A_ H
     clear H
     have al : 0 ≤ (ac : Int) := oa_
     have am : ac < (l0.length : Int) := oa_
     obtain ⟨aU, aN, aQ, aT, aC, ab, aa⟩ := at_L1 HR0.o ac al am
     cases aT
     have ai := A_ aa; have ah := A_ ab; clear aa ab; replace al := eq_true al; replace am := eq_true am
     go_wp2_with (first | ((with_reducible refine gc_ 20 rfl ?_); refine cM_ E20 23 (laws_szIntS.calls _ _ (rd_L1 l0 ac) az an _ (by repeat (first | exact ai.o | (with_reducible refine Kd.C_alloc ?_ _) | (with_reducible refine Kd.C_drewN ?_ _) | (with_reducible refine Kd.C_drew ?_))) ah.o A6.o) ?_; rintro e w' ⟨rfl, ⟨nd, rfl⟩⟩; refine ⟨_, rfl, ?_⟩))
     go_roundg k1
     case measure => have := a8.o; omega
     case rel => exact ⟨(an), (wrap64 (ac + 1)), (by rfl), (by rfl), H', ⟨by have := a8.o; omega⟩, by repeat (first | exact Drawn0.refl _ | apply Drawn0.step)⟩
    rw [if_neg c5] at H
    cases H
   rw [if_neg c4] at H; have ay := decide_eq_false c4; clear c4; obtain rfl := Option.some.inj H
   go_wp2
   go_ret
   exact ⟨by rfl, by repeat (first | exact Drawn0.refl _ | apply Drawn0.step)⟩

def laws_szSequence.f (k : Nat) (ao : Int) (ae : List (List Int)) (af : List Int) (a1 : Int) : Option (Int) := (laws_szIntSS.f k ae a1).bind fun aj => (if aj < 0 then (some (-1)) else ((laws_szIntS.f af aj).bind fun ap => (if ap < 0 then (some (-1)) else (some ap))))
theorem laws_szSequence.calls (k : Nat) (ao : Int) (aq : Option Addr) (aw : Nat) (ae : List (List Int)) (ar : Option Addr) (ax : Nat) (af : List Int) (a1 : Int) (r : Int) (w : World) (aK : Kd.C (Kd.slice 3 (Kd.int .i64)) w aq ae.length ae) (aI : ae.length ≤ aw) (aM : Kd.C (Kd.int .i64) w ar af.length af) (aJ : af.length ≤ ax) (h : laws_szSequence.f k ao ae af a1 = some r) :
  Calls Try.prog 6 #[.agg #[.int .i64 ao, .slice aq ae.length aw, .slice ar af.length ax], .int .i64 a1] w fun e w' => e = .returned (.int .i64 r) ∧ Below w.heap.size w w' := by
 have hu25 := Try.underlying25; have av := A_ aK; have au := A_ aI; clear aK aI; have aG := A_ aM; have aE := A_ aJ; clear aM aJ; have HB := A_ (Below.refl w.heap.size w); unfold laws_szSequence.f at h; have H := h; clear h; replace H := bA_ H; obtain ⟨aj, A3, H⟩ := H
 by_cases c4 : aj < 0
 ·rw [if_pos c4] at H; have ay := decide_eq_true c4; clear c4; obtain rfl := Option.some.inj H; go_enter Try.func6, Try.ntmps6
  go_wp2_with (first | ((with_reducible refine gate_dst (N := 2) rfl ?_); refine box_event rfl (N := 2) rfl (cs := #[.int .i64 ao, .slice aq ae.length aw, .slice ar af.length ax]) (t := 25) (by go_simp; done) ?_; intro aH hg w5 hbox hb; have ak := A_ (hbox); have aD := A_ (lg_ (below_size HB.o) hg); have ag := A_ (lg_ (below_size HB.o) hg); replace HB := bs_ HB hb; clear hb hbox hg; have aZ := bq3 ak.o) | ((with_reducible refine gc_ 19 rfl ?_); refine cM_ E19 8 (laws_szIntSS.calls k _ _ ae a1 aj _ (Kd.C_below av.o HB.o) au.o A3.o) ?_; rintro e w' ⟨rfl, ⟨nd, rfl⟩⟩; refine ⟨_, rfl, ?_⟩))
  go_ret
  exact ⟨by rfl, by repeat (first | (with_reducible first | exact HB.o | apply below_alloc | apply pw_below_drewN | apply below_drew1 | refine below_set ?_ ag.o) | exact HB.o)⟩
 rw [if_neg c4] at H; have ay := decide_eq_false c4; clear c4; replace H := bA_ H; obtain ⟨ap, A7, H⟩ := H
 by_cases c8 : ap < 0
 ·rw [if_pos c8] at H; have aY := decide_eq_true c8; clear c8; obtain rfl := Option.some.inj H; go_enter Try.func6, Try.ntmps6
  go_wp2_with (first | ((with_reducible refine gate_dst (N := 2) rfl ?_); refine box_event rfl (N := 2) rfl (cs := #[.int .i64 ao, .slice aq ae.length aw, .slice ar af.length ax]) (t := 25) (by go_simp; done) ?_; intro aH hg w9 hbox hb; have ak := A_ (hbox); have aD := A_ (lg_ (below_size HB.o) hg); have ag := A_ (lg_ (below_size HB.o) hg); replace HB := bs_ HB hb; clear hb hbox hg; have aV := bq3 ak.o) | ((with_reducible refine gc_ 19 rfl ?_); refine cM_ E19 8 (laws_szIntSS.calls k _ _ ae a1 aj _ (Kd.C_below av.o HB.o) au.o A3.o) ?_; rintro e w' ⟨rfl, ⟨nd, rfl⟩⟩; refine ⟨_, rfl, ?_⟩) | ((with_reducible refine gc_ 20 rfl ?_); refine cM_ E20 14 (laws_szIntS.calls _ _ af aj ap _ (by repeat (first | exact (Kd.C_below aG.o (by repeat (first | (with_reducible first | exact HB.o | apply below_alloc | apply pw_below_drewN | apply below_drew1 | refine below_set ?_ ag.o) | exact HB.o))) | (with_reducible refine Kd.C_alloc ?_ _) | (with_reducible refine Kd.C_drewN ?_ _) | (with_reducible refine Kd.C_drew ?_))) aE.o A7.o) ?_; rintro e w' ⟨rfl, ⟨nd, rfl⟩⟩; refine ⟨_, rfl, ?_⟩))
  go_ret
  exact ⟨by rfl, by repeat (first | (with_reducible first | exact HB.o | apply below_alloc | apply pw_below_drewN | apply below_drew1 | refine below_set ?_ ag.o) | exact HB.o)⟩
 rw [if_neg c8] at H; have aY := decide_eq_false c8; clear c8; obtain rfl := Option.some.inj H; go_enter Try.func6, Try.ntmps6
 go_wp2_with (first | ((with_reducible refine gate_dst (N := 2) rfl ?_); refine box_event rfl (N := 2) rfl (cs := #[.int .i64 ao, .slice aq ae.length aw, .slice ar af.length ax]) (t := 25) (by go_simp; done) ?_; intro aH hg w11 hbox hb; have ak := A_ (hbox); have aD := A_ (lg_ (below_size HB.o) hg); have ag := A_ (lg_ (below_size HB.o) hg); replace HB := bs_ HB hb; clear hb hbox hg; have aW := bq3 ak.o) | ((with_reducible refine gc_ 19 rfl ?_); refine cM_ E19 8 (laws_szIntSS.calls k _ _ ae a1 aj _ (Kd.C_below av.o HB.o) au.o A3.o) ?_; rintro e w' ⟨rfl, ⟨nd, rfl⟩⟩; refine ⟨_, rfl, ?_⟩) | ((with_reducible refine gc_ 20 rfl ?_); refine cM_ E20 14 (laws_szIntS.calls _ _ af aj ap _ (by repeat (first | exact (Kd.C_below aG.o (by repeat (first | (with_reducible first | exact HB.o | apply below_alloc | apply pw_below_drewN | apply below_drew1 | refine below_set ?_ ag.o) | exact HB.o))) | (with_reducible refine Kd.C_alloc ?_ _) | (with_reducible refine Kd.C_drewN ?_ _) | (with_reducible refine Kd.C_drew ?_))) aE.o A7.o) ?_; rintro e w' ⟨rfl, ⟨nd, rfl⟩⟩; refine ⟨_, rfl, ?_⟩))
 go_ret
 exact ⟨by rfl, by repeat (first | (with_reducible first | exact HB.o | apply below_alloc | apply pw_below_drewN | apply below_drew1 | refine below_set ?_ ag.o) | exact HB.o)⟩

def spec_l1In.f (a0 : Int) (a1 : Int) (a2 : Int) : Option (Bool) := if a0 ≥ a1 then (some (decide (a0 ≤ a2))) else (some false)
theorem spec_l1In.calls (a0 : Int) (a1 : Int) (a2 : Int) (r : Bool) (w : World) (h : spec_l1In.f a0 a1 a2 = some r) :
  Calls Try.prog 22 #[.int .i64 a0, .int .i64 a1, .int .i64 a2] w fun e w' => e = .returned (.bool r) ∧ Drawn0 w w' := by
 unfold spec_l1In.f at h; have H := h; clear h
 by_cases c4 : a0 ≥ a1
 ·rw [if_pos c4] at H
  have ay : decide (a1 ≤ a0) = true := decide_eq_true c4
  clear c4; obtain rfl := Option.some.inj H; go_enter Try.func22, Try.ntmps22
  go_wp2
  go_ret
  exact ⟨by rfl, by repeat (first | exact Drawn0.refl _ | apply Drawn0.step)⟩
 rw [if_neg c4] at H
 have ay : decide (a1 ≤ a0) = false := decide_eq_false c4
 clear c4; obtain rfl := Option.some.inj H; go_enter Try.func22, Try.ntmps22
 go_wp2
 go_ret
 exact ⟨by rfl, by repeat (first | exact Drawn0.refl _ | apply Drawn0.step)⟩

end Go.Proofs.Ytgmfjcckmapkbaa.PFnExactCountingForm

