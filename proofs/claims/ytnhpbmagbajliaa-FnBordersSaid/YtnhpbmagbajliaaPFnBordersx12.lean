/- Walks of the functions that the law reaches. -/
import Derived.Test.YtnhpbmagbajliaaPFnBordersx11
namespace Go.Proofs.Ytnhpbmagbajliaa.PFnBorders
open Go.RowKit Go.Proofs.YtnhpbmagbajliaaW.PrintWords Go.Proofs.YtnhpbmagbajliaaW.PrintLast Go.Proofs.YtnhpbmagbajliaaW.PrintMore
attribute [local go_sem] max2_int min2_int max_two min_two max_three min_three max_four min_four
set_option linter.unusedVariables false
set_option maxHeartbeats 8000000
set_option maxRecDepth 100000
set_option linter.unusedSimpArgs false

def impl_PeriodsOf.l0 : Nat → List Int → List Int → List Int → Int → Int → Option (List Int)
 | 0, _, _, _, _, _ => none
 | k + 1, x0, x3, x8, x9, x10 => if x10 < x9 then (if 0 ≤ x10 then (if x10 < (x8.length : Int) then (if x3.length < 17592186044416 then (impl_PeriodsOf.l0 k x0 (x3 ++ [wrap64 ((x0.length : Int) - (rd x8 x10))]) x8 x9 (wrap64 (x10 + 1))) else (none)) else (none)) else (none)) else ((slices_Reverse_int_int.f k x3).bind fun t621 => (some t621))
def impl_PeriodsOf.f (k : Nat) (l0 : List Int) : Option (List Int) := (impl_BordersOf.f k l0).bind fun t614 => (impl_PeriodsOf.l0 k l0 (([] : List Int)) t614 (t614.length : Int) 0)
theorem impl_PeriodsOf.calls (k : Nat) (A0 : Option Addr) (c0 : Nat) (l0 : List Int) (r : List Int) (w : World) (hr0 : Kd.C (Kd.int .i64) w A0 l0.length l0) (hc0 : l0.length ≤ c0) (h : impl_PeriodsOf.f k l0 = some r) :
  Calls Try.prog 7 #[.slice A0 l0.length c0] w fun e w' => ∃ v0_ : Value, e = .returned (v0_) ∧ Kd.R (Kd.int .i64) 3 w' w.heap.size (fun _ => True) v0_ r ∧ Below w.heap.size w w' := by
 have HR0 := A_ hr0; have HC0 := A_ hc0; clear hr0 hc0; have HB := A_ (Below.refl w.heap.size w); unfold impl_PeriodsOf.f at h; have H := h; clear h; obtain ⟨y611, hy611⟩ := ex_ ((([] : List Int)) : List Int); replace H : ((impl_BordersOf.f k l0).bind fun t614 => (impl_PeriodsOf.l0 k l0 y611 t614 (t614.length : Int) 0)) = some r := by (rw [hy611]; with_reducible exact H)
 have Ny611 := A_ hy611; clear hy611; replace H := bA_ H; obtain ⟨t614, A2, H⟩ := H
 have H' := A_ H
 clear H; go_enter Try.func7, Try.ntmps7
 go_wp2_with (first | ((with_reducible refine gd_ 6 rfl ?_); refine RL_ 6 3 [] [] rfl rfl (by go_simp; done) rfl rfl ?_; rintro v612 w3 ho4 hb - -; (rw [← Ny611.out] at ho4); have HO613 := A_ (Kd.R_lower ho4 (below_size HB.out)); replace HB := bs_ HB hb; clear hb ho4) | ((with_reducible refine gc_ 6 rfl ?_); refine cL_ E6 8 rfl rfl rfl (impl_BordersOf.calls k _ _ l0 t614 _ (Kd.C_below HR0.out HB.out) HC0.out A2.out) (by simp only [mA, mB, mC]; rfl) ?_; rintro e w5 ⟨v615, rfl, ho0, hb⟩; refine ⟨_, rfl, ?_⟩; have HO616 := A_ (Kd.R_lower (Kd.R_new' ho0 (Kd.R_lt HO613.out)) (below_size HB.out)); replace HO613 := A_ (Kd.R_elder' HO613.out (Kd.R_base ho0) hb); replace HB := bs_ HB hb; clear hb ho0; obtain ⟨Ao6, co6, eo6⟩ := Kd.R_slice HO616.out; subst eo6))
 go_loopg [3, 10] k (fun kq v3 v10 w' => ∃ (x3_1 : List Int) (x10_1 : Int), v10 = .int .i64 x10_1 ∧ Aside0 (impl_PeriodsOf.l0 kq l0 x3_1 t614 (t614.length : Int) x10_1 = some r) ∧ Aside0 (kq ≤ k) ∧ Aside0 (Kd.R (Kd.int .i64) 3 w' w.heap.size (fun k_ => some k_ ≠ ((.slice Ao6 t614.length co6) : Value).ownBlock) v3 x3_1) ∧ Aside0 (Kd.R (Kd.int .i64) 3 w' w.heap.size (fun k_ => some k_ ≠ (v3 : Value).ownBlock) (.slice Ao6 t614.length co6) t614) ∧ Aside0 (Below w.heap.size w w'))
 case atStart => exact ⟨(y611), (0), (by rfl), H', ⟨Nat.le_refl _⟩, ⟨by exact Kd.R_mono HO613.out (fun _ hk => hk.2)⟩, ⟨by exact Kd.R_mono HO616.out (fun _ hk => hk.2)⟩, ⟨HB.out⟩⟩
 case round =>
  clear H'; obtain ⟨x3_1, x10_1, rfl, HA, HK1, HO_3, HO_8, HB⟩ := hrel
  cases gk with
  | zero => exact absurd HA.out (by simp [impl_PeriodsOf.l0])
  | succ k1 =>
   have H := HA.out; clear HA; simp only [impl_PeriodsOf.l0] at H
   by_cases c7 : x10_1 < (t614.length : Int)
   ·rw [if_pos c7] at H; have c7b0 := decide_eq_true c7; clear c7
    by_cases c8 : 0 ≤ x10_1
    ·rw [if_pos c8] at H; have c8b0 := decide_eq_true c8; clear c8
     by_cases c9 : x10_1 < (t614.length : Int)
     ·rw [if_pos c9] at H; have c9b0 := decide_eq_true c9; clear c9
      by_cases c10 : x3_1.length < 17592186044416
      ·rw [if_pos c10] at H; have LMc10 := A_ c10; clear c10; obtain ⟨y618, hy618⟩ := ex_ ((x3_1 ++ [wrap64 ((l0.length : Int) - (rd t614 x10_1))]) : List Int); replace H : (impl_PeriodsOf.l0 k1 l0 y618 t614 (t614.length : Int) (wrap64 (x10_1 + 1))) = some r := by (rw [hy618]; with_reducible exact H)
       have Ny618 := A_ hy618; clear hy618
       have H' := A_ H
       clear H
       have p617 : 0 ≤ (x10_1 : Int) := od_ (by assumption)
       have q617 : x10_1 < (t614.length : Int) := od_ (by assumption)
       obtain ⟨ad617, e617, hx617_0⟩ := Kd.at_int (Kd.R_reads' HO_8.out).2.2 x10_1 p617 q617
       cases e617
       replace p617 := eq_true p617; replace q617 := eq_true q617
       go_wp2_with (first | ((with_reducible refine gate_builtin (b := .append) (xs := #[.tmp 14, .tmp 19]) rfl ?_); at_builtin; refine Kd.R_append (Kd.int .i64) (w0 := w) w.heap.size rfl (.tmp 14) (.tmp 19) 24 3 (.int .i64 0) 8 rfl Try.underlying24 info3 rfl (by decide) (by omega) u3 x3_1 (wrap64 ((l0.length : Int) - (rd t614 x10_1))) [.int .i64 (wrap64 ((l0.length : Int) - (rd t614 x10_1)))] (fun k_ => some k_ ≠ (.slice (some ad617) t614.length co6 : Value).ownBlock) (fun _ => False) rfl rfl ?aP (fun _ hk => hk.elim) ?aF ?aO ?aB ?aS ?aL ?_; (case aP => exact rfl); (case aB => exact HB.out); (case aF => exact (fun k_ hk => Kd.fresh' (Kd.R_lt HO_8.out) k_ hk)); (case aO => exact HO_3.out); (case aS => exact (below_size HB.out)); (case aL => have := LMc10.out; omega); intro v619 w11 ho hb hg hat; rw [← Ny618.out] at ho; replace HO_8 := A_ (Kd.R_after (ok := (fun _ => True)) (by exact Kd.R_mono HO_8.out (fun _ hk => ⟨trivial, hk⟩)) hg hat); replace HB := A_ (hb); have HO620 := A_ (ho); clear HO_3; clear ho hb hg hat))
       go_roundg k1
       case measure => have := HK1.out; omega
       case rel => exact ⟨(y618), (wrap64 (x10_1 + 1)), (by rfl), H', ⟨by have := HK1.out; omega⟩, ⟨HO620.out⟩, ⟨by exact Kd.R_mono HO_8.out (fun _ hk => hk.2)⟩, ⟨HB.out⟩⟩
      rw [if_neg c10] at H
      cases H
     rw [if_neg c9] at H
     cases H
    rw [if_neg c8] at H
    cases H
   rw [if_neg c7] at H; have c7b0 := decide_eq_false c7; clear c7; replace H := bA_ H; obtain ⟨t621, A12, H⟩ := H; obtain rfl := Option.some.inj H; obtain ⟨Ao13, co13, eo13⟩ := Kd.R_slice HO_3.out; subst eo13
   go_wp2_with (first | ((with_reducible refine gc_ 35 rfl ?_); refine cL_ E35 23 rfl rfl rfl (slices_Reverse_int_int.calls k1 (fun k_ => some k_ = (.slice Ao13 x3_1.length co13 : Value).ownBlock) (.slice Ao13 x3_1.length co13) x3_1 t621 w _ HB.out (Kd.R_tight rfl HO_3.out) A12.out) (by simp only [mA, mB, mC]; rfl) ?_; rintro e w14 ⟨rfl, hy0, hb, hkp⟩; refine ⟨_, rfl, ?_⟩; replace HO_3 := A_ (Kd.R_reok rfl hy0 (fun k_ e_ => HO_3.out.1 k_ e_)); replace HO_8 := A_ (Kd.R_mono (ok' := fun k_ => some k_ ≠ (.slice Ao13 x3_1.length co13 : Value).ownBlock) (Kd.R_keptB (HO_8.out) hkp (fun k_ hk_ hs_ => (hk_) hs_)) (fun k_ hk_ => hk_.1)); replace HB := A_ (hb); clear hb hkp; (try clear hy0)))
   go_ret
   exact ⟨_, by rfl, by exact Kd.R_mono HO_3.out (fun _ hk => trivial), HB.out⟩

def laws_sameInts.l0 : Nat → List Int → List Int → Int → Option (Bool)
 | 0, _, _, _ => none
 | k + 1, x0, x1, x5 => if x5 < (x0.length : Int) then (if 0 ≤ x5 then (if x5 < (x1.length : Int) then (if (rd x0 x5) = (rd x1 x5) then (laws_sameInts.l0 k x0 x1 (wrap64 (x5 + 1))) else (some false)) else (none)) else (none)) else (some true)
def laws_sameInts.f (k : Nat) (l0 : List Int) (l1 : List Int) : Option (Bool) := if (l0.length : Int) = (l1.length : Int) then (laws_sameInts.l0 k l0 l1 0) else (some false)
theorem laws_sameInts.calls (k : Nat) (A0 : Option Addr) (c0 : Nat) (l0 : List Int) (A1 : Option Addr) (c1 : Nat) (l1 : List Int) (r : Bool) (w : World) (hr0 : Kd.C (Kd.int .i64) w A0 l0.length l0) (hc0 : l0.length ≤ c0) (hr1 : Kd.C (Kd.int .i64) w A1 l1.length l1) (hc1 : l1.length ≤ c1) (h : laws_sameInts.f k l0 l1 = some r) :
  Calls Try.prog 8 #[.slice A0 l0.length c0, .slice A1 l1.length c1] w fun e w' => e = .returned (.bool r) ∧ Drawn0 w w' := by
 have HR0 := A_ hr0; have HC0 := A_ hc0; clear hr0 hc0; have HR1 := A_ hr1; have HC1 := A_ hc1; clear hr1 hc1; unfold laws_sameInts.f at h; have H := h; clear h
 by_cases c3 : (l0.length : Int) = (l1.length : Int)
 ·rw [if_pos c3] at H
  have c3b0 : ((l0.length : Int) == (l1.length : Int)) = true := beq_iff_eq.mpr c3
  have c3b1 : ((l0.length : Int) != (l1.length : Int)) = false := bne_eq_false_iff_eq.mpr c3
  have c3b2 : (l0.length == l1.length) = true := by first | simpa using c3 | (simp at c3 ⊢; omega)
  clear c3
  have H' := A_ H
  clear H; go_enter Try.func8, Try.ntmps8
  go_wp2
  repeat (go_quiet (fail); try go_wp2)
  go_loopg [5] k (fun kq v5 w' => ∃ (x5_1 : Int), v5 = .int .i64 x5_1 ∧ Aside0 (laws_sameInts.l0 kq l0 l1 x5_1 = some r) ∧ Aside0 (kq ≤ k) ∧ Drawn0 w w')
  case atStart => exact ⟨(0), (by rfl), H', ⟨Nat.le_refl _⟩, by repeat (first | exact Drawn0.refl _ | apply Drawn0.step)⟩
  case round =>
   clear H'
   try clear c3b0
   try clear c3b1
   try clear c3b2
   obtain ⟨x5_1, rfl, HA, HK1, ⟨m1, rfl⟩⟩ := hrel
   cases gk with
   | zero => exact absurd HA.out (by simp [laws_sameInts.l0])
   | succ k1 =>
    have H := HA.out; clear HA; simp only [laws_sameInts.l0] at H
    by_cases c4 : x5_1 < (l0.length : Int)
    ·rw [if_pos c4] at H; have c4b0 := decide_eq_true c4; clear c4
     by_cases c5 : 0 ≤ x5_1
     ·rw [if_pos c5] at H; have c5b0 := decide_eq_true c5; clear c5
      by_cases c6 : x5_1 < (l1.length : Int)
      ·rw [if_pos c6] at H; have c6b0 := decide_eq_true c6; clear c6
       by_cases c7 : (rd l0 x5_1) = (rd l1 x5_1)
       ·rw [if_pos c7] at H
        have c7b0 : ((rd l0 x5_1) == (rd l1 x5_1)) = true := beq_iff_eq.mpr c7
        have c7b1 : ((rd l0 x5_1) != (rd l1 x5_1)) = false := bne_eq_false_iff_eq.mpr c7
        clear c7
        have H' := A_ H
        clear H
        have p622 : 0 ≤ (x5_1 : Int) := od_ (by assumption)
        have q622 : x5_1 < (l0.length : Int) := od_ (by assumption)
        obtain ⟨ad622, e622, hx622_0⟩ := Kd.at_int HR0.out x5_1 p622 q622
        cases e622
        replace p622 := eq_true p622; replace q622 := eq_true q622
        have p623 : 0 ≤ (x5_1 : Int) := od_ (by assumption)
        have q623 : x5_1 < (l1.length : Int) := od_ (by assumption)
        obtain ⟨ad623, e623, hx623_0⟩ := Kd.at_int HR1.out x5_1 p623 q623
        cases e623
        replace p623 := eq_true p623; replace q623 := eq_true q623
        go_wp2
        repeat (go_quiet (fail); try go_wp2)
        go_roundg k1
        case measure => have := HK1.out; omega
        case rel => exact ⟨(wrap64 (x5_1 + 1)), (by rfl), H', ⟨by have := HK1.out; omega⟩, by repeat (first | exact Drawn0.refl _ | apply Drawn0.step)⟩
       rw [if_neg c7] at H
       have c7b0 : ((rd l0 x5_1) == (rd l1 x5_1)) = false := beq_eq_false_iff_ne.mpr c7
       have c7b1 : ((rd l0 x5_1) != (rd l1 x5_1)) = true := bne_iff_ne.mpr c7
       obtain rfl := Option.some.inj H
       have p622 : 0 ≤ (x5_1 : Int) := od_ (by assumption)
       have q622 : x5_1 < (l0.length : Int) := od_ (by assumption)
       obtain ⟨ad622, e622, hx622_0⟩ := Kd.at_int HR0.out x5_1 p622 q622
       cases e622
       replace p622 := eq_true p622; replace q622 := eq_true q622
       have p623 : 0 ≤ (x5_1 : Int) := od_ (by assumption)
       have q623 : x5_1 < (l1.length : Int) := od_ (by assumption)
       obtain ⟨ad623, e623, hx623_0⟩ := Kd.at_int HR1.out x5_1 p623 q623
       cases e623
       replace p623 := eq_true p623; replace q623 := eq_true q623
       go_wp2
       repeat (go_quiet (fail); try go_wp2)
       go_ret
       exact ⟨by rfl, by repeat (first | exact Drawn0.refl _ | apply Drawn0.step)⟩
      rw [if_neg c6] at H
      cases H
     rw [if_neg c5] at H
     cases H
    rw [if_neg c4] at H; have c4b0 := decide_eq_false c4; clear c4; obtain rfl := Option.some.inj H
    go_wp2
    repeat (go_quiet (fail); try go_wp2)
    go_ret
    exact ⟨by rfl, by repeat (first | exact Drawn0.refl _ | apply Drawn0.step)⟩
 rw [if_neg c3] at H
 have c3b0 : ((l0.length : Int) == (l1.length : Int)) = false := beq_eq_false_iff_ne.mpr c3
 have c3b1 : ((l0.length : Int) != (l1.length : Int)) = true := bne_iff_ne.mpr c3
 have c3b2 : (l0.length == l1.length) = false := by first | simpa using c3 | (simp at c3 ⊢; omega)
 obtain rfl := Option.some.inj H; go_enter Try.func8, Try.ntmps8
 go_wp2
 repeat (go_quiet (fail); try go_wp2)
 go_ret
 exact ⟨by rfl, by repeat (first | exact Drawn0.refl _ | apply Drawn0.step)⟩

mutual
def spec_l9Borders.l0 : Nat → List Int → List Int → Int → Int → Option (List Int)
 | 0, _, _, _, _ => none
 | k + 1, x0, x3, x4, x5 => if x5 < (x0.length : Int) then (if x5 = 0 then (if x3.length < 17592186044416 then (spec_l9Borders.l0 k x0 (x3 ++ [0]) x4 (wrap64 (x5 + 1))) else (none)) else (spec_l9Borders.l1 k x0 x3 x4 x5)) else (some x3)
def spec_l9Borders.l1 : Nat → List Int → List Int → Int → Int → Option (List Int)
 | 0, _, _, _, _ => none
 | k + 1, x0, x3, x4, x5 => if x4 > 0 then (if 0 ≤ x5 then (if x5 < (x0.length : Int) then (if 0 ≤ x4 then (if x4 < (x0.length : Int) then (if (rd x0 x5) = (rd x0 x4) then (if x3.length < 17592186044416 then (spec_l9Borders.l0 k x0 (x3 ++ [wrap64 (x4 + 1)]) (wrap64 (x4 + 1)) (wrap64 (x5 + 1))) else (none)) else (if 0 ≤ (wrap64 (x4 - 1)) then (if (wrap64 (x4 - 1)) < (x3.length : Int) then (spec_l9Borders.l1 k x0 x3 (rd x3 (wrap64 (x4 - 1))) x5) else (none)) else (none))) else (none)) else (none)) else (none)) else (none)) else (if 0 ≤ x5 then (if x5 < (x0.length : Int) then (if 0 ≤ x4 then (if x4 < (x0.length : Int) then (if (rd x0 x5) = (rd x0 x4) then (if x3.length < 17592186044416 then (spec_l9Borders.l0 k x0 (x3 ++ [wrap64 (x4 + 1)]) (wrap64 (x4 + 1)) (wrap64 (x5 + 1))) else (none)) else (if x3.length < 17592186044416 then (spec_l9Borders.l0 k x0 (x3 ++ [x4]) x4 (wrap64 (x5 + 1))) else (none))) else (none)) else (none)) else (none)) else (none))
end
def spec_l9Borders.f (k : Nat) (l0 : List Int) : Option (List Int) := spec_l9Borders.l0 k l0 (([] : List Int)) 0 0
theorem spec_l9Borders.calls (k : Nat) (A0 : Option Addr) (c0 : Nat) (l0 : List Int) (r : List Int) (w : World) (hr0 : Kd.C (Kd.int .i64) w A0 l0.length l0) (hc0 : l0.length ≤ c0) (h : spec_l9Borders.f k l0 = some r) :
  Calls Try.prog 36 #[.slice A0 l0.length c0] w fun e w' => ∃ v0_ : Value, e = .returned (v0_) ∧ Kd.R (Kd.int .i64) 3 w' w.heap.size (fun _ => True) v0_ r ∧ Below w.heap.size w w' := by
 have HR0 := A_ hr0; have HC0 := A_ hc0; clear hr0 hc0; have HB := A_ (Below.refl w.heap.size w); unfold spec_l9Borders.f at h; have H := h; clear h; obtain ⟨y624, hy624⟩ := ex_ ((([] : List Int)) : List Int); replace H : (spec_l9Borders.l0 k l0 y624 0 0) = some r := by (rw [hy624]; with_reducible exact H)
 have Ny624 := A_ hy624; clear hy624
 have H' := A_ H
 clear H; go_enter Try.func36, Try.ntmps36
 go_wp2_with (first | ((with_reducible refine gd_ 6 rfl ?_); refine RL_ 6 3 [] [] rfl rfl (by go_simp; done) rfl rfl ?_; rintro v625 w2 ho3 hb - -; (rw [← Ny624.out] at ho3); have HO626 := A_ (Kd.R_lower ho3 (below_size HB.out)); replace HB := bs_ HB hb; clear hb ho3))
 repeat (go_quiet (first | ((with_reducible refine gate_dst (N := 6) rfl ?_); refine Kd.R_lit (Kd.int .i64) _ 3 ?hg (N := 6) ?hd (xs := ([] : List Int)) (inner := []) (ok := fun _ => True) (okp := fun _ => True) ?hr ?hp (fun _ hk => hk) trivial (Below.refl _ _) (Nat.le_refl _) (by simp) ?_; (case hd | hg => rfl); (case hr => first | (go_simp; done) | (go_simp; rfl)); (case hp => exact (Reps.none _ _)); rintro v625 w2 ho3 hb - -; (first | rw [← Ny624.out] at ho3 | (simp only [Int.reduceToNat] at ho3; rw [← Ny624.out] at ho3)); have HO626 := A_ (Kd.R_lower ho3 (below_size HB.out)); replace HB := bs_ HB hb; clear hb ho3)); try go_wp2_with (first | ((with_reducible refine gate_dst (N := 6) rfl ?_); refine Kd.R_lit (Kd.int .i64) _ 3 ?hg (N := 6) ?hd (xs := ([] : List Int)) (inner := []) (ok := fun _ => True) (okp := fun _ => True) ?hr ?hp (fun _ hk => hk) trivial (Below.refl _ _) (Nat.le_refl _) (by simp) ?_; (case hd | hg => rfl); (case hr => first | (go_simp; done) | (go_simp; rfl)); (case hp => exact (Reps.none _ _)); rintro v625 w2 ho3 hb - -; (first | rw [← Ny624.out] at ho3 | (simp only [Int.reduceToNat] at ho3; rw [← Ny624.out] at ho3)); have HO626 := A_ (Kd.R_lower ho3 (below_size HB.out)); replace HB := bs_ HB hb; clear hb ho3)))
 go_loopg [3, 4, 5] k (fun kq v3 v4 v5 w' => ∃ (x3_1 : List Int) (x4_1 : Int) (x5_1 : Int), v4 = .int .i64 x4_1 ∧ v5 = .int .i64 x5_1 ∧ Aside0 (spec_l9Borders.l0 kq l0 x3_1 x4_1 x5_1 = some r) ∧ Aside0 (kq ≤ k) ∧ Aside0 (Kd.R (Kd.int .i64) 3 w' w.heap.size (fun _ => True) v3 x3_1) ∧ Aside0 (Below w.heap.size w w'))
 case atStart => exact ⟨(y624), (0), (0), (by rfl), (by rfl), H', ⟨Nat.le_refl _⟩, ⟨HO626.out⟩, ⟨HB.out⟩⟩
 case round =>
  clear H'; obtain ⟨x3_1, x4_1, x5_1, rfl, rfl, HA, HK1, HO_3, HB⟩ := hrel
  cases gk with
  | zero => exact absurd HA.out (by simp [spec_l9Borders.l0])
  | succ k1 =>
   have H := HA.out; clear HA; simp only [spec_l9Borders.l0] at H
   by_cases c4 : x5_1 < (l0.length : Int)
   ·rw [if_pos c4] at H; have c4b0 := decide_eq_true c4; clear c4
    by_cases c5 : x5_1 = 0
    ·rw [if_pos c5] at H
     have c5b0 : (x5_1 == 0) = true := beq_iff_eq.mpr c5
     have c5b1 : (x5_1 != 0) = false := bne_eq_false_iff_eq.mpr c5
     clear c5
     by_cases c6 : x3_1.length < 17592186044416
     ·rw [if_pos c6] at H; have LMc6 := A_ c6; clear c6; obtain ⟨y627, hy627⟩ := ex_ ((x3_1 ++ [0]) : List Int); replace H : (spec_l9Borders.l0 k1 l0 y627 x4_1 (wrap64 (x5_1 + 1))) = some r := by (rw [hy627]; with_reducible exact H)
      have Ny627 := A_ hy627; clear hy627
      have H' := A_ H
      clear H
      go_wp2_with (first | ((with_reducible refine gate_builtin (b := .append) (xs := #[.tmp 15, .tmp 16]) rfl ?_); at_builtin; refine Kd.R_append (Kd.int .i64) (w0 := w) w.heap.size rfl (.tmp 15) (.tmp 16) 24 3 (.int .i64 0) 8 rfl Try.underlying24 info3 rfl (by decide) (by omega) u3 x3_1 0 [.int .i64 0] (fun _ => True) (fun _ => False) rfl rfl ?aP (fun _ hk => hk.elim) ?aF ?aO ?aB ?aS ?aL ?_; (case aP => exact rfl); (case aB => exact HB.out); (case aF => exact (fun _ _ => trivial)); (case aO => exact HO_3.out); (case aS => exact (below_size HB.out)); (case aL => have := LMc6.out; omega); intro v628 w7 ho hb hg hat; rw [← Ny627.out] at ho; replace HB := A_ (hb); have HO629 := A_ (ho); clear HO_3; clear ho hb hg hat))
      repeat (go_quiet (first | ((with_reducible refine gate_builtin (b := .append) (xs := #[.tmp 15, .tmp 16]) rfl ?_); at_builtin; refine Kd.R_append (Kd.int .i64) (w0 := w) w.heap.size rfl (.tmp 15) (.tmp 16) 24 3 (.int .i64 0) 8 rfl Try.underlying24 info3 rfl (by decide) (by omega) u3 x3_1 0 [.int .i64 0] (fun _ => True) (fun _ => False) rfl rfl ?aP (fun _ hk => hk.elim) ?aF ?aO ?aB ?aS ?aL ?_; (case aP => exact rfl); (case aB => exact HB.out); (case aF => exact (fun _ _ => trivial)); (case aO => exact HO_3.out); (case aS => exact (below_size HB.out)); (case aL => have := LMc6.out; omega); intro v628 w7 ho hb hg hat; rw [← Ny627.out] at ho; replace HB := A_ (hb); have HO629 := A_ (ho); clear HO_3; clear ho hb hg hat)); try go_wp2_with (first | ((with_reducible refine gate_builtin (b := .append) (xs := #[.tmp 15, .tmp 16]) rfl ?_); at_builtin; refine Kd.R_append (Kd.int .i64) (w0 := w) w.heap.size rfl (.tmp 15) (.tmp 16) 24 3 (.int .i64 0) 8 rfl Try.underlying24 info3 rfl (by decide) (by omega) u3 x3_1 0 [.int .i64 0] (fun _ => True) (fun _ => False) rfl rfl ?aP (fun _ hk => hk.elim) ?aF ?aO ?aB ?aS ?aL ?_; (case aP => exact rfl); (case aB => exact HB.out); (case aF => exact (fun _ _ => trivial)); (case aO => exact HO_3.out); (case aS => exact (below_size HB.out)); (case aL => have := LMc6.out; omega); intro v628 w7 ho hb hg hat; rw [← Ny627.out] at ho; replace HB := A_ (hb); have HO629 := A_ (ho); clear HO_3; clear ho hb hg hat)))
      go_roundg k1
      case measure => have := HK1.out; omega
      case rel => exact ⟨(y627), (x4_1), (wrap64 (x5_1 + 1)), (by rfl), (by rfl), H', ⟨by have := HK1.out; omega⟩, ⟨HO629.out⟩, ⟨HB.out⟩⟩
     rw [if_neg c6] at H
     cases H
    rw [if_neg c5] at H
    have c5b0 : (x5_1 == 0) = false := beq_eq_false_iff_ne.mpr c5
    have c5b1 : (x5_1 != 0) = true := bne_iff_ne.mpr c5
    have H' := A_ H
    clear H
    go_wp2
    repeat (go_quiet (fail); try go_wp2)
    go_loopg [4] k1 (fun kq v4 w' => ∃ (x4_2 : Int), v4 = .int .i64 x4_2 ∧ Aside0 (spec_l9Borders.l1 kq l0 x3_1 x4_2 x5_1 = some r) ∧ Aside0 (kq ≤ k1) ∧ Aside0 (Kd.R (Kd.int .i64) 3 w' w.heap.size (fun _ => True) u3 x3_1) ∧ Aside0 (Below w.heap.size w w'))
    case atStart => exact ⟨(x4_1), (by rfl), H', ⟨Nat.le_refl _⟩, ⟨HO_3.out⟩, ⟨HB.out⟩⟩
    case round =>
     clear H'
     try clear c4b0
     try clear c5
     try clear c5b0
     try clear c5b1
     obtain ⟨x4_2, rfl, HA, HK2, HO_3, HB⟩ := hrel
     cases gk with
     | zero => exact absurd HA.out (by simp [spec_l9Borders.l1])
     | succ k2 =>
      have H := HA.out; clear HA; simp only [spec_l9Borders.l1] at H
      by_cases c8 : x4_2 > 0
      ·rw [if_pos c8] at H
       have c8b0 : decide (0 < x4_2) = true := decide_eq_true c8
       clear c8
       by_cases c9 : 0 ≤ x5_1
       ·rw [if_pos c9] at H; have c9b0 := decide_eq_true c9; clear c9
        by_cases c10 : x5_1 < (l0.length : Int)
        ·rw [if_pos c10] at H; have c10b0 := decide_eq_true c10; clear c10
         by_cases c11 : 0 ≤ x4_2
         ·rw [if_pos c11] at H; have c11b0 := decide_eq_true c11; clear c11
          by_cases c12 : x4_2 < (l0.length : Int)
          ·rw [if_pos c12] at H; have c12b0 := decide_eq_true c12; clear c12
           by_cases c13 : (rd l0 x5_1) = (rd l0 x4_2)
           ·rw [if_pos c13] at H
            have c13b0 : ((rd l0 x5_1) == (rd l0 x4_2)) = true := beq_iff_eq.mpr c13
            have c13b1 : ((rd l0 x5_1) != (rd l0 x4_2)) = false := bne_eq_false_iff_eq.mpr c13
            clear c13
            by_cases c14 : x3_1.length < 17592186044416
            ·rw [if_pos c14] at H; have LMc14 := A_ c14; clear c14; obtain ⟨y634, hy634⟩ := ex_ ((x3_1 ++ [wrap64 (x4_2 + 1)]) : List Int); replace H : (spec_l9Borders.l0 k2 l0 y634 (wrap64 (x4_2 + 1)) (wrap64 (x5_1 + 1))) = some r := by (rw [hy634]; with_reducible exact H)
             have Ny634 := A_ hy634; clear hy634
             have H' := A_ H
             clear H
             have p630 : 0 ≤ (x5_1 : Int) := od_ (by assumption)
             have q630 : x5_1 < (l0.length : Int) := od_ (by assumption)
             obtain ⟨ad630, e630, hx630_0⟩ := Kd.at_int HR0.out x5_1 p630 q630
             cases e630
             replace hx630_0 := (HB.out.cell (World.block_lt_of_cell? w _ hx630_0)).trans hx630_0; replace p630 := eq_true p630; replace q630 := eq_true q630
             have p631 : 0 ≤ (x4_2 : Int) := od_ (by assumption)
             have q631 : x4_2 < (l0.length : Int) := od_ (by assumption)
             obtain ⟨ad631, e631, hx631_0⟩ := Kd.at_int HR0.out x4_2 p631 q631; obtain rfl : ad630 = ad631 := (by injection e631); replace hx631_0 := (HB.out.cell (World.block_lt_of_cell? w _ hx631_0)).trans hx631_0; replace p631 := eq_true p631; replace q631 := eq_true q631
             have p632 : 0 ≤ (x5_1 : Int) := od_ (by assumption)
             have q632 : x5_1 < (l0.length : Int) := od_ (by assumption)
             obtain ⟨ad632, e632, hx632_0⟩ := Kd.at_int HR0.out x5_1 p632 q632; obtain rfl : ad630 = ad632 := (by injection e632); replace hx632_0 := (HB.out.cell (World.block_lt_of_cell? w _ hx632_0)).trans hx632_0; replace p632 := eq_true p632; replace q632 := eq_true q632
             have p633 : 0 ≤ (x4_2 : Int) := od_ (by assumption)
             have q633 : x4_2 < (l0.length : Int) := od_ (by assumption)
             obtain ⟨ad633, e633, hx633_0⟩ := Kd.at_int HR0.out x4_2 p633 q633; obtain rfl : ad630 = ad633 := (by injection e633); replace hx633_0 := (HB.out.cell (World.block_lt_of_cell? w _ hx633_0)).trans hx633_0; replace p633 := eq_true p633; replace q633 := eq_true q633
             go_wp2_with (first | ((with_reducible refine gate_builtin (b := .append) (xs := #[.tmp 47, .tmp 49]) rfl ?_); at_builtin; refine Kd.R_append (Kd.int .i64) (w0 := w) w.heap.size rfl (.tmp 47) (.tmp 49) 24 3 (.int .i64 0) 8 rfl Try.underlying24 info3 rfl (by decide) (by omega) u3 x3_1 (wrap64 (x4_2 + 1)) [.int .i64 (wrap64 (x4_2 + 1))] (fun _ => True) (fun _ => False) rfl rfl ?aP (fun _ hk => hk.elim) ?aF ?aO ?aB ?aS ?aL ?_; (case aP => exact rfl); (case aB => exact HB.out); (case aF => exact (fun _ _ => trivial)); (case aO => exact HO_3.out); (case aS => exact (below_size HB.out)); (case aL => have := LMc14.out; omega); intro v635 w15 ho hb hg hat; rw [← Ny634.out] at ho; replace HB := A_ (hb); have HO636 := A_ (ho); clear HO_3; clear ho hb hg hat))
             repeat (go_quiet (first | ((with_reducible refine gate_builtin (b := .append) (xs := #[.tmp 47, .tmp 49]) rfl ?_); at_builtin; refine Kd.R_append (Kd.int .i64) (w0 := w) w.heap.size rfl (.tmp 47) (.tmp 49) 24 3 (.int .i64 0) 8 rfl Try.underlying24 info3 rfl (by decide) (by omega) u3 x3_1 (wrap64 (x4_2 + 1)) [.int .i64 (wrap64 (x4_2 + 1))] (fun _ => True) (fun _ => False) rfl rfl ?aP (fun _ hk => hk.elim) ?aF ?aO ?aB ?aS ?aL ?_; (case aP => exact rfl); (case aB => exact HB.out); (case aF => exact (fun _ _ => trivial)); (case aO => exact HO_3.out); (case aS => exact (below_size HB.out)); (case aL => have := LMc14.out; omega); intro v635 w15 ho hb hg hat; rw [← Ny634.out] at ho; replace HB := A_ (hb); have HO636 := A_ (ho); clear HO_3; clear ho hb hg hat)); try go_wp2_with (first | ((with_reducible refine gate_builtin (b := .append) (xs := #[.tmp 47, .tmp 49]) rfl ?_); at_builtin; refine Kd.R_append (Kd.int .i64) (w0 := w) w.heap.size rfl (.tmp 47) (.tmp 49) 24 3 (.int .i64 0) 8 rfl Try.underlying24 info3 rfl (by decide) (by omega) u3 x3_1 (wrap64 (x4_2 + 1)) [.int .i64 (wrap64 (x4_2 + 1))] (fun _ => True) (fun _ => False) rfl rfl ?aP (fun _ hk => hk.elim) ?aF ?aO ?aB ?aS ?aL ?_; (case aP => exact rfl); (case aB => exact (by repeat (first | (with_reducible first | exact HB.out | apply below_alloc | apply pw_below_drewN | apply below_drew1) | exact HB.out))); (case aF => exact (fun _ _ => trivial)); (case aO => exact (by (with_reducible repeat (first | apply Kd.R_alloc | apply Kd.R_drewN | apply Kd.R_drew)); exact HO_3.out)); (case aS => exact (below_size (by repeat (first | (with_reducible first | exact HB.out | apply below_alloc | apply pw_below_drewN | apply below_drew1) | exact HB.out)))); (case aL => have := LMc14.out; omega); intro v635 w15 ho hb hg hat; rw [← Ny634.out] at ho; replace HB := A_ (hb); have HO636 := A_ (ho); clear HO_3; clear ho hb hg hat)))
             go_roundg k2
             case measure => have := HK1.out; have := HK2.out; omega
             case rel => exact ⟨(y634), (wrap64 (x4_2 + 1)), (wrap64 (x5_1 + 1)), (by rfl), (by rfl), H', ⟨by have := HK1.out; have := HK2.out; omega⟩, ⟨HO636.out⟩, ⟨HB.out⟩⟩
            rw [if_neg c14] at H
            cases H
           rw [if_neg c13] at H
           have c13b0 : ((rd l0 x5_1) == (rd l0 x4_2)) = false := beq_eq_false_iff_ne.mpr c13
           have c13b1 : ((rd l0 x5_1) != (rd l0 x4_2)) = true := bne_iff_ne.mpr c13
           obtain ⟨ji16, hji16⟩ : ∃ j_ : Int, (wrap64 (x4_2 - 1)) = j_ := ⟨_, rfl⟩; replace H : (if 0 ≤ (ji16) then (if (ji16) < (x3_1.length : Int) then (spec_l9Borders.l1 k2 l0 x3_1 (rd x3_1 (ji16)) x5_1) else (none)) else (none)) = some r := by first | (rw [hji16] at H; exact H) | (simp only [hji16] at H ⊢; exact H)
           have hji16w : (IntKind.i64.wrap (x4_2 - 1)) = ji16 := (i64_w _).trans hji16
           by_cases c17 : 0 ≤ (ji16)
           ·rw [if_pos c17] at H; have c17b0 := decide_eq_true c17; clear c17
            by_cases c18 : (ji16) < (x3_1.length : Int)
            ·rw [if_pos c18] at H; have c18b0 := decide_eq_true c18; clear c18
             have H' := A_ H
             clear H
             have p630 : 0 ≤ (x5_1 : Int) := od_ (by assumption)
             have q630 : x5_1 < (l0.length : Int) := od_ (by assumption)
             obtain ⟨ad630, e630, hx630_0⟩ := Kd.at_int HR0.out x5_1 p630 q630
             cases e630
             replace hx630_0 := (HB.out.cell (World.block_lt_of_cell? w _ hx630_0)).trans hx630_0; replace p630 := eq_true p630; replace q630 := eq_true q630
             have p631 : 0 ≤ (x4_2 : Int) := od_ (by assumption)
             have q631 : x4_2 < (l0.length : Int) := od_ (by assumption)
             obtain ⟨ad631, e631, hx631_0⟩ := Kd.at_int HR0.out x4_2 p631 q631; obtain rfl : ad630 = ad631 := (by injection e631); replace hx631_0 := (HB.out.cell (World.block_lt_of_cell? w _ hx631_0)).trans hx631_0; replace p631 := eq_true p631; replace q631 := eq_true q631; obtain ⟨Ao19, co19, eo19⟩ := Kd.R_slice HO_3.out; subst eo19
             have p637 : 0 ≤ ((ji16) : Int) := od_ (by assumption)
             have q637 : (ji16) < (x3_1.length : Int) := od_ (by assumption)
             obtain ⟨ad637, e637, hx637_0⟩ := Kd.at_int (Kd.R_reads' HO_3.out).2.2 (ji16) p637 q637
             cases e637
             replace p637 := eq_true p637; replace q637 := eq_true q637
             go_wp2
             repeat (go_quiet (fail); try go_wp2)
             go_roundg k2
             case measure => have := HK1.out; have := HK2.out; omega
             case rel => exact ⟨(rd x3_1 (ji16)), (by first | rfl | (simp; done) | (simp only [← hji16] <;> (first | rfl | simp)) | (simp [*]; done)), H', ⟨by have := HK1.out; have := HK2.out; omega⟩, ⟨by (with_reducible repeat (first | apply Kd.R_alloc | apply Kd.R_drewN | apply Kd.R_drew)); exact HO_3.out⟩, ⟨by repeat (first | (with_reducible first | exact HB.out | apply below_alloc | apply pw_below_drewN | apply below_drew1) | exact HB.out)⟩⟩
            rw [if_neg c18] at H
            cases H
           rw [if_neg c17] at H
           cases H
          rw [if_neg c12] at H
          cases H
         rw [if_neg c11] at H
         cases H
        rw [if_neg c10] at H
        cases H
       rw [if_neg c9] at H
       cases H
      rw [if_neg c8] at H
      have c8b0 : decide (0 < x4_2) = false := decide_eq_false c8
      clear c8
      by_cases c20 : 0 ≤ x5_1
      ·rw [if_pos c20] at H; have c20b0 := decide_eq_true c20; clear c20
       by_cases c21 : x5_1 < (l0.length : Int)
       ·rw [if_pos c21] at H; have c21b0 := decide_eq_true c21; clear c21
        by_cases c22 : 0 ≤ x4_2
        ·rw [if_pos c22] at H; have c22b0 := decide_eq_true c22; clear c22
         by_cases c23 : x4_2 < (l0.length : Int)
         ·rw [if_pos c23] at H; have c23b0 := decide_eq_true c23; clear c23
          by_cases c24 : (rd l0 x5_1) = (rd l0 x4_2)
          ·rw [if_pos c24] at H
           have c24b0 : ((rd l0 x5_1) == (rd l0 x4_2)) = true := beq_iff_eq.mpr c24
           have c24b1 : ((rd l0 x5_1) != (rd l0 x4_2)) = false := bne_eq_false_iff_eq.mpr c24
           clear c24
           by_cases c25 : x3_1.length < 17592186044416
           ·rw [if_pos c25] at H; have LMc25 := A_ c25; clear c25; obtain ⟨y640, hy640⟩ := ex_ ((x3_1 ++ [wrap64 (x4_2 + 1)]) : List Int); replace H : (spec_l9Borders.l0 k2 l0 y640 (wrap64 (x4_2 + 1)) (wrap64 (x5_1 + 1))) = some r := by (rw [hy640]; with_reducible exact H)
            have Ny640 := A_ hy640; clear hy640
            have H' := A_ H
            clear H
            have p638 : 0 ≤ (x5_1 : Int) := od_ (by assumption)
            have q638 : x5_1 < (l0.length : Int) := od_ (by assumption)
            obtain ⟨ad638, e638, hx638_0⟩ := Kd.at_int HR0.out x5_1 p638 q638
            cases e638
            replace hx638_0 := (HB.out.cell (World.block_lt_of_cell? w _ hx638_0)).trans hx638_0; replace p638 := eq_true p638; replace q638 := eq_true q638
            have p639 : 0 ≤ (x4_2 : Int) := od_ (by assumption)
            have q639 : x4_2 < (l0.length : Int) := od_ (by assumption)
            obtain ⟨ad639, e639, hx639_0⟩ := Kd.at_int HR0.out x4_2 p639 q639; obtain rfl : ad638 = ad639 := (by injection e639); replace hx639_0 := (HB.out.cell (World.block_lt_of_cell? w _ hx639_0)).trans hx639_0; replace p639 := eq_true p639; replace q639 := eq_true q639
            go_wp2_with (first | ((with_reducible refine gate_builtin (b := .append) (xs := #[.tmp 47, .tmp 49]) rfl ?_); at_builtin; refine Kd.R_append (Kd.int .i64) (w0 := w) w.heap.size rfl (.tmp 47) (.tmp 49) 24 3 (.int .i64 0) 8 rfl Try.underlying24 info3 rfl (by decide) (by omega) u3 x3_1 (wrap64 (x4_2 + 1)) [.int .i64 (wrap64 (x4_2 + 1))] (fun _ => True) (fun _ => False) rfl rfl ?aP (fun _ hk => hk.elim) ?aF ?aO ?aB ?aS ?aL ?_; (case aP => exact rfl); (case aB => exact HB.out); (case aF => exact (fun _ _ => trivial)); (case aO => exact HO_3.out); (case aS => exact (below_size HB.out)); (case aL => have := LMc25.out; omega); intro v641 w26 ho hb hg hat; rw [← Ny640.out] at ho; replace HB := A_ (hb); have HO642 := A_ (ho); clear HO_3; clear ho hb hg hat))
            repeat (go_quiet (first | ((with_reducible refine gate_builtin (b := .append) (xs := #[.tmp 47, .tmp 49]) rfl ?_); at_builtin; refine Kd.R_append (Kd.int .i64) (w0 := w) w.heap.size rfl (.tmp 47) (.tmp 49) 24 3 (.int .i64 0) 8 rfl Try.underlying24 info3 rfl (by decide) (by omega) u3 x3_1 (wrap64 (x4_2 + 1)) [.int .i64 (wrap64 (x4_2 + 1))] (fun _ => True) (fun _ => False) rfl rfl ?aP (fun _ hk => hk.elim) ?aF ?aO ?aB ?aS ?aL ?_; (case aP => exact rfl); (case aB => exact HB.out); (case aF => exact (fun _ _ => trivial)); (case aO => exact HO_3.out); (case aS => exact (below_size HB.out)); (case aL => have := LMc25.out; omega); intro v641 w26 ho hb hg hat; rw [← Ny640.out] at ho; replace HB := A_ (hb); have HO642 := A_ (ho); clear HO_3; clear ho hb hg hat)); try go_wp2_with (first | ((with_reducible refine gate_builtin (b := .append) (xs := #[.tmp 47, .tmp 49]) rfl ?_); at_builtin; refine Kd.R_append (Kd.int .i64) (w0 := w) w.heap.size rfl (.tmp 47) (.tmp 49) 24 3 (.int .i64 0) 8 rfl Try.underlying24 info3 rfl (by decide) (by omega) u3 x3_1 (wrap64 (x4_2 + 1)) [.int .i64 (wrap64 (x4_2 + 1))] (fun _ => True) (fun _ => False) rfl rfl ?aP (fun _ hk => hk.elim) ?aF ?aO ?aB ?aS ?aL ?_; (case aP => exact rfl); (case aB => exact (by repeat (first | (with_reducible first | exact HB.out | apply below_alloc | apply pw_below_drewN | apply below_drew1) | exact HB.out))); (case aF => exact (fun _ _ => trivial)); (case aO => exact (by (with_reducible repeat (first | apply Kd.R_alloc | apply Kd.R_drewN | apply Kd.R_drew)); exact HO_3.out)); (case aS => exact (below_size (by repeat (first | (with_reducible first | exact HB.out | apply below_alloc | apply pw_below_drewN | apply below_drew1) | exact HB.out)))); (case aL => have := LMc25.out; omega); intro v641 w26 ho hb hg hat; rw [← Ny640.out] at ho; replace HB := A_ (hb); have HO642 := A_ (ho); clear HO_3; clear ho hb hg hat)))
            go_roundg k2
            case measure => have := HK1.out; have := HK2.out; omega
            case rel => exact ⟨(y640), (wrap64 (x4_2 + 1)), (wrap64 (x5_1 + 1)), (by rfl), (by rfl), H', ⟨by have := HK1.out; have := HK2.out; omega⟩, ⟨HO642.out⟩, ⟨HB.out⟩⟩
           rw [if_neg c25] at H
           cases H
          rw [if_neg c24] at H
          have c24b0 : ((rd l0 x5_1) == (rd l0 x4_2)) = false := beq_eq_false_iff_ne.mpr c24
          have c24b1 : ((rd l0 x5_1) != (rd l0 x4_2)) = true := bne_iff_ne.mpr c24
          by_cases c27 : x3_1.length < 17592186044416
          ·rw [if_pos c27] at H; have LMc27 := A_ c27; clear c27; obtain ⟨y643, hy643⟩ := ex_ ((x3_1 ++ [x4_2]) : List Int); replace H : (spec_l9Borders.l0 k2 l0 y643 x4_2 (wrap64 (x5_1 + 1))) = some r := by (rw [hy643]; with_reducible exact H)
           have Ny643 := A_ hy643; clear hy643
           have H' := A_ H
           clear H
           have p638 : 0 ≤ (x5_1 : Int) := od_ (by assumption)
           have q638 : x5_1 < (l0.length : Int) := od_ (by assumption)
           obtain ⟨ad638, e638, hx638_0⟩ := Kd.at_int HR0.out x5_1 p638 q638
           cases e638
           replace hx638_0 := (HB.out.cell (World.block_lt_of_cell? w _ hx638_0)).trans hx638_0; replace p638 := eq_true p638; replace q638 := eq_true q638
           have p639 : 0 ≤ (x4_2 : Int) := od_ (by assumption)
           have q639 : x4_2 < (l0.length : Int) := od_ (by assumption)
           obtain ⟨ad639, e639, hx639_0⟩ := Kd.at_int HR0.out x4_2 p639 q639; obtain rfl : ad638 = ad639 := (by injection e639); replace hx639_0 := (HB.out.cell (World.block_lt_of_cell? w _ hx639_0)).trans hx639_0; replace p639 := eq_true p639; replace q639 := eq_true q639
           go_wp2_with (first | ((with_reducible refine gate_builtin (b := .append) (xs := #[.tmp 47, .tmp 49]) rfl ?_); at_builtin; refine Kd.R_append (Kd.int .i64) (w0 := w) w.heap.size rfl (.tmp 47) (.tmp 49) 24 3 (.int .i64 0) 8 rfl Try.underlying24 info3 rfl (by decide) (by omega) u3 x3_1 x4_2 [.int .i64 x4_2] (fun _ => True) (fun _ => False) rfl rfl ?aP (fun _ hk => hk.elim) ?aF ?aO ?aB ?aS ?aL ?_; (case aP => exact rfl); (case aB => exact HB.out); (case aF => exact (fun _ _ => trivial)); (case aO => exact HO_3.out); (case aS => exact (below_size HB.out)); (case aL => have := LMc27.out; omega); intro v644 w28 ho hb hg hat; rw [← Ny643.out] at ho; replace HB := A_ (hb); have HO645 := A_ (ho); clear HO_3; clear ho hb hg hat))
           repeat (go_quiet (first | ((with_reducible refine gate_builtin (b := .append) (xs := #[.tmp 47, .tmp 49]) rfl ?_); at_builtin; refine Kd.R_append (Kd.int .i64) (w0 := w) w.heap.size rfl (.tmp 47) (.tmp 49) 24 3 (.int .i64 0) 8 rfl Try.underlying24 info3 rfl (by decide) (by omega) u3 x3_1 x4_2 [.int .i64 x4_2] (fun _ => True) (fun _ => False) rfl rfl ?aP (fun _ hk => hk.elim) ?aF ?aO ?aB ?aS ?aL ?_; (case aP => exact rfl); (case aB => exact HB.out); (case aF => exact (fun _ _ => trivial)); (case aO => exact HO_3.out); (case aS => exact (below_size HB.out)); (case aL => have := LMc27.out; omega); intro v644 w28 ho hb hg hat; rw [← Ny643.out] at ho; replace HB := A_ (hb); have HO645 := A_ (ho); clear HO_3; clear ho hb hg hat)); try go_wp2_with (first | ((with_reducible refine gate_builtin (b := .append) (xs := #[.tmp 47, .tmp 49]) rfl ?_); at_builtin; refine Kd.R_append (Kd.int .i64) (w0 := w) w.heap.size rfl (.tmp 47) (.tmp 49) 24 3 (.int .i64 0) 8 rfl Try.underlying24 info3 rfl (by decide) (by omega) u3 x3_1 x4_2 [.int .i64 x4_2] (fun _ => True) (fun _ => False) rfl rfl ?aP (fun _ hk => hk.elim) ?aF ?aO ?aB ?aS ?aL ?_; (case aP => exact rfl); (case aB => exact (by repeat (first | (with_reducible first | exact HB.out | apply below_alloc | apply pw_below_drewN | apply below_drew1) | exact HB.out))); (case aF => exact (fun _ _ => trivial)); (case aO => exact (by (with_reducible repeat (first | apply Kd.R_alloc | apply Kd.R_drewN | apply Kd.R_drew)); exact HO_3.out)); (case aS => exact (below_size (by repeat (first | (with_reducible first | exact HB.out | apply below_alloc | apply pw_below_drewN | apply below_drew1) | exact HB.out)))); (case aL => have := LMc27.out; omega); intro v644 w28 ho hb hg hat; rw [← Ny643.out] at ho; replace HB := A_ (hb); have HO645 := A_ (ho); clear HO_3; clear ho hb hg hat)))
           go_roundg k2
           case measure => have := HK1.out; have := HK2.out; omega
           case rel => exact ⟨(y643), (x4_2), (wrap64 (x5_1 + 1)), (by rfl), (by rfl), H', ⟨by have := HK1.out; have := HK2.out; omega⟩, ⟨HO645.out⟩, ⟨HB.out⟩⟩
          rw [if_neg c27] at H
          cases H
         rw [if_neg c23] at H
         cases H
        rw [if_neg c22] at H
        cases H
       rw [if_neg c21] at H
       cases H
      rw [if_neg c20] at H
      cases H
   rw [if_neg c4] at H; have c4b0 := decide_eq_false c4; clear c4; obtain rfl := Option.some.inj H
   go_wp2
   repeat (go_quiet (fail); try go_wp2)
   go_ret
   exact ⟨_, by rfl, HO_3.out, HB.out⟩

def spec_BordersOf.l0 : Nat → List Int → List Int → Int → Option (List Int)
 | 0, _, _, _ => none
 | k + 1, x3, x4, x5 => if x5 > 0 then (if 0 ≤ (wrap64 (x5 - 1)) then (if (wrap64 (x5 - 1)) < (x4.length : Int) then ((some (([rd x4 (wrap64 (x5 - 1))] : List Int) : List Int)).bind fun y653 => (if y653.length + x3.length < 17592186044416 then (spec_BordersOf.l0 k (y653 ++ x3) x4 (rd x4 (wrap64 (x5 - 1)))) else (none))) else (none)) else (none)) else (some x3)
def spec_BordersOf.f (k : Nat) (l0 : List Int) : Option (List Int) := (spec_l9Borders.f k l0).bind fun t649 => (spec_BordersOf.l0 k (([] : List Int)) t649 (l0.length : Int))
theorem spec_BordersOf.calls (k : Nat) (A0 : Option Addr) (c0 : Nat) (l0 : List Int) (r : List Int) (w : World) (hr0 : Kd.C (Kd.int .i64) w A0 l0.length l0) (hc0 : l0.length ≤ c0) (h : spec_BordersOf.f k l0 = some r) :
  Calls Try.prog 9 #[.slice A0 l0.length c0] w fun e w' => ∃ v0_ : Value, e = .returned (v0_) ∧ Kd.R (Kd.int .i64) 3 w' w.heap.size (fun _ => True) v0_ r ∧ Below w.heap.size w w' := by
 have HR0 := A_ hr0; have HC0 := A_ hc0; clear hr0 hc0; have HB := A_ (Below.refl w.heap.size w); unfold spec_BordersOf.f at h; have H := h; clear h; obtain ⟨y646, hy646⟩ := ex_ ((([] : List Int)) : List Int); replace H : ((spec_l9Borders.f k l0).bind fun t649 => (spec_BordersOf.l0 k y646 t649 (l0.length : Int))) = some r := by (rw [hy646]; with_reducible exact H)
 have Ny646 := A_ hy646; clear hy646; replace H := bA_ H; obtain ⟨t649, A2, H⟩ := H
 have H' := A_ H
 clear H; go_enter Try.func9, Try.ntmps9
 go_wp2_with (first | ((with_reducible refine gd_ 6 rfl ?_); refine RL_ 6 3 [] [] rfl rfl (by go_simp; done) rfl rfl ?_; rintro v647 w3 ho4 hb - -; (rw [← Ny646.out] at ho4); have HO648 := A_ (Kd.R_lower ho4 (below_size HB.out)); replace HB := bs_ HB hb; clear hb ho4) | ((with_reducible refine gc_ 36 rfl ?_); refine cL_ E36 8 rfl rfl rfl (spec_l9Borders.calls k _ _ l0 t649 _ (Kd.C_below HR0.out HB.out) HC0.out A2.out) (by simp only [mA, mB, mC]; rfl) ?_; rintro e w5 ⟨v650, rfl, ho0, hb⟩; refine ⟨_, rfl, ?_⟩; have HO651 := A_ (Kd.R_lower (Kd.R_new' ho0 (Kd.R_lt HO648.out)) (below_size HB.out)); replace HO648 := A_ (Kd.R_elder' HO648.out (Kd.R_base ho0) hb); replace HB := bs_ HB hb; clear hb; (try clear ho0)))
 go_loopg [3, 5] k (fun kq v3 v5 w' => ∃ (x3_1 : List Int) (x5_1 : Int), v5 = .int .i64 x5_1 ∧ Aside0 (spec_BordersOf.l0 kq x3_1 t649 x5_1 = some r) ∧ Aside0 (kq ≤ k) ∧ Aside0 (Kd.R (Kd.int .i64) 3 w' w.heap.size (fun k_ => some k_ ≠ (v650 : Value).ownBlock) v3 x3_1) ∧ Aside0 (Kd.R (Kd.int .i64) 3 w' w.heap.size (fun k_ => some k_ ≠ (v3 : Value).ownBlock) v650 t649) ∧ Aside0 (Below w.heap.size w w'))
 case atStart => exact ⟨(y646), ((l0.length : Int)), (by rfl), H', ⟨Nat.le_refl _⟩, ⟨by exact Kd.R_mono HO648.out (fun _ hk => hk.2)⟩, ⟨by exact Kd.R_mono HO651.out (fun _ hk => hk.2)⟩, ⟨HB.out⟩⟩
 case round =>
  clear H'; obtain ⟨x3_1, x5_1, rfl, HA, HK1, HO_3, HO_4, HB⟩ := hrel
  cases gk with
  | zero => exact absurd HA.out (by simp [spec_BordersOf.l0])
  | succ k1 =>
   have H := HA.out; clear HA; simp only [spec_BordersOf.l0] at H
   by_cases c6 : x5_1 > 0
   ·rw [if_pos c6] at H
    have c6b0 : decide (0 < x5_1) = true := decide_eq_true c6
    clear c6; obtain ⟨ji7, hji7⟩ : ∃ j_ : Int, (wrap64 (x5_1 - 1)) = j_ := ⟨_, rfl⟩; replace H : (if 0 ≤ (ji7) then (if (ji7) < (t649.length : Int) then ((some (([rd t649 (ji7)] : List Int) : List Int)).bind fun y653 => (if y653.length + x3_1.length < 17592186044416 then (spec_BordersOf.l0 k1 (y653 ++ x3_1) t649 (rd t649 (ji7))) else (none))) else (none)) else (none)) = some r := by first | (rw [hji7] at H; exact H) | (simp only [hji7] at H ⊢; exact H)
    have hji7w : (IntKind.i64.wrap (x5_1 - 1)) = ji7 := (i64_w _).trans hji7
    by_cases c8 : 0 ≤ (ji7)
    ·rw [if_pos c8] at H; have c8b0 := decide_eq_true c8; clear c8
     by_cases c9 : (ji7) < (t649.length : Int)
     ·rw [if_pos c9] at H; have c9b0 := decide_eq_true c9; clear c9; obtain ⟨y653, hy653⟩ := ex_ ((([rd t649 (ji7)] : List Int)) : List Int); replace H : (if y653.length + x3_1.length < 17592186044416 then (spec_BordersOf.l0 k1 (y653 ++ x3_1) t649 (rd t649 (ji7))) else (none)) = some r := by (have H2_ := (Option.bind_some _ _).symm.trans H; rw [hy653]; with_reducible exact H2_)
      have Ny653 := A_ hy653; clear hy653
      by_cases c10 : y653.length + x3_1.length < 17592186044416
      ·rw [if_pos c10] at H; have LMc10 := A_ c10; clear c10; obtain ⟨y656, hy656⟩ := ex_ ((y653 ++ x3_1) : List Int); replace H : (spec_BordersOf.l0 k1 y656 t649 (rd t649 (ji7))) = some r := by (rw [hy656]; with_reducible exact H)
       have Ny656 := A_ hy656; clear hy656
       have H' := A_ H
       clear H; obtain ⟨Ao11, co11, eo11⟩ := Kd.R_slice HO_4.out; subst eo11
       have p652 : 0 ≤ ((ji7) : Int) := od_ (by assumption)
       have q652 : (ji7) < (t649.length : Int) := od_ (by assumption)
       obtain ⟨ad652, e652, hx652_0⟩ := Kd.at_int (Kd.R_reads' HO_4.out).2.2 (ji7) p652 q652
       cases e652
       replace p652 := eq_true p652; replace q652 := eq_true q652
       go_wp2_with (first | ((with_reducible refine gate_dst (N := 19) rfl ?_); refine Kd.R_lit (Kd.int .i64) _ 3 ?hg (N := 19) ?hd (xs := ([rd t649 (ji7)] : List Int)) (inner := [.int .i64 (rd t649 (ji7))]) (ok := fun _ => True) (okp := fun _ => True) ?hr ?hp (fun _ hk => hk) trivial (Below.refl _ _) (Nat.le_refl _) (by simp) ?_; (case hd | hg => rfl); (case hr => go_simp; done); (case hp => exact (Reps.one (show Kd.M (Kd.int .i64) _ _ _ (rd t649 (ji7)) [.int .i64 (rd t649 (ji7))] from rfl) (Reps.none _ _))); rintro v654 w12 ho13 hb - -; (rw [← Ny653.out] at ho13); have HO655 := A_ (Kd.R_lower (Kd.R_new' (Kd.R_new' ho13 (Kd.R_lt HO_3.out)) (Kd.R_lt HO_4.out)) (below_size HB.out)); replace HO_3 := A_ (Kd.R_elder' HO_3.out (Kd.R_base ho13) hb); replace HO_4 := A_ (Kd.R_elder' HO_4.out (Kd.R_base ho13) hb); replace HB := bs_ HB hb; clear hb ho13; obtain ⟨Ao15, co15, eo15⟩ := Kd.R_slice HO_3.out; subst eo15) | ((with_reducible refine gate_builtin (b := .append) (xs := #[.tmp 19, .tmp 20]) rfl ?_); at_builtin; refine Kd.R_append_rows (Kd.int .i64) (w0 := w) w.heap.size rfl (.tmp 19) (.tmp 20) 24 3 (.int .i64 0) 8 rfl Try.underlying24 info3 rfl (by decide) (by omega) v654 y653 x3_1 _ _ _ (fun k_ => some k_ ≠ (.slice Ao15 x3_1.length co15 : Value).ownBlock ∧ some k_ ≠ (.slice (some ad652) t649.length co11 : Value).ownBlock) (fun _ => False) rfl rfl ?aO ?aR (fun _ _ h => h) (fun _ h => h.elim) ?aF ?aB ?aS ?aL ?_; (case aR => exact (Kd.R_reads' HO_3.out).2.2); (case aB => exact HB.out); (case aF => exact (fun k_ hk => ⟨Kd.fresh' (Kd.R_lt HO_3.out) k_ hk, Kd.fresh' (Kd.R_lt HO_4.out) k_ hk⟩)); (case aO => exact (by exact Kd.R_mono HO655.out (fun _ hk => ⟨hk.1.2, hk.2⟩))); (case aS => exact (below_size HB.out)); (case aL => have := LMc10.out; omega); intro v657 w14 ho hb hg hat; rw [← Ny656.out] at ho; replace HO_3 := A_ (Kd.R_after (ok := (fun k_ => some k_ ≠ (.slice (some ad652) t649.length co11 : Value).ownBlock)) HO_3.out hg hat); replace HO_4 := A_ (Kd.R_after (ok := (fun k_ => some k_ ≠ (.slice Ao15 x3_1.length co15 : Value).ownBlock)) HO_4.out hg hat); replace HB := A_ (hb); have HO658 := A_ (ho); clear HO655; clear ho hb hg hat))
       go_roundg k1
       case measure => have := HK1.out; omega
       case rel => exact ⟨(y656), (rd t649 (ji7)), (by first | rfl | (simp; done) | (simp only [← hji7] <;> (first | rfl | simp)) | (simp [*]; done)), H', ⟨by have := HK1.out; omega⟩, ⟨by exact Kd.R_mono HO658.out (fun _ hk => hk.2)⟩, ⟨by exact Kd.R_mono HO_4.out (fun _ hk => hk.2)⟩, ⟨HB.out⟩⟩
      rw [if_neg c10] at H
      cases H
     rw [if_neg c9] at H
     cases H
    rw [if_neg c8] at H
    cases H
   rw [if_neg c6] at H
   have c6b0 : decide (0 < x5_1) = false := decide_eq_false c6
   clear c6; obtain rfl := Option.some.inj H
   go_wp2
   go_ret
   exact ⟨_, by rfl, by exact Kd.R_mono HO_3.out (fun _ hk => trivial), HB.out⟩

end Go.Proofs.Ytnhpbmagbajliaa.PFnBorders

