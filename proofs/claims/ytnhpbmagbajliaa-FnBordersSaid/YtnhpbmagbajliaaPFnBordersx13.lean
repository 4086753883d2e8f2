/- Walks of the functions that the law reaches. -/
import Derived.Test.YtnhpbmagbajliaaPFnBordersx12
namespace Go.Proofs.Ytnhpbmagbajliaa.PFnBorders
open Go.RowKit Go.Proofs.YtnhpbmagbajliaaW.PrintWords Go.Proofs.YtnhpbmagbajliaaW.PrintLast Go.Proofs.YtnhpbmagbajliaaW.PrintMore
attribute [local go_sem] max2_int min2_int max_two min_two max_three min_three max_four min_four
set_option linter.unusedVariables false
set_option maxHeartbeats 8000000
set_option maxRecDepth 100000
set_option linter.unusedSimpArgs false

def spec_PeriodsOf.l0 : Nat → List Int → List Int → List Int → Int → Option (List Int)
 | 0, _, _, _, _ => none
 | k + 1, x0, x3, x4, x5 => if x5 ≥ 0 then (if 0 ≤ x5 then (if x5 < (x4.length : Int) then (if x3.length < 17592186044416 then (spec_PeriodsOf.l0 k x0 (x3 ++ [wrap64 ((x0.length : Int) - (rd x4 x5))]) x4 (wrap64 (x5 - 1))) else (none)) else (none)) else (none)) else (some x3)
def spec_PeriodsOf.f (k : Nat) (l0 : List Int) : Option (List Int) := (spec_BordersOf.f k l0).bind fun t662 => (spec_PeriodsOf.l0 k l0 (([] : List Int)) t662 (wrap64 ((t662.length : Int) - 1)))
theorem spec_PeriodsOf.calls (k : Nat) (A0 : Option Addr) (c0 : Nat) (l0 : List Int) (r : List Int) (w : World) (hr0 : Kd.C (Kd.int .i64) w A0 l0.length l0) (hc0 : l0.length ≤ c0) (h : spec_PeriodsOf.f k l0 = some r) :
  Calls Try.prog 10 #[.slice A0 l0.length c0] w fun e w' => ∃ v0_ : Value, e = .returned (v0_) ∧ Kd.R (Kd.int .i64) 3 w' w.heap.size (fun _ => True) v0_ r ∧ Below w.heap.size w w' := by
 have HR0 := A_ hr0; have HC0 := A_ hc0; clear hr0 hc0; have HB := A_ (Below.refl w.heap.size w); unfold spec_PeriodsOf.f at h; have H := h; clear h; obtain ⟨y659, hy659⟩ := ex_ ((([] : List Int)) : List Int); replace H : ((spec_BordersOf.f k l0).bind fun t662 => (spec_PeriodsOf.l0 k l0 y659 t662 (wrap64 ((t662.length : Int) - 1)))) = some r := by (rw [hy659]; with_reducible exact H)
 have Ny659 := A_ hy659; clear hy659; replace H := bA_ H; obtain ⟨t662, A2, H⟩ := H
 have H' := A_ H
 clear H; go_enter Try.func10, Try.ntmps10
 go_wp2_with (first | ((with_reducible refine gd_ 6 rfl ?_); refine RL_ 6 3 [] [] rfl rfl (by go_simp; done) rfl rfl ?_; rintro v660 w3 ho4 hb - -; (rw [← Ny659.out] at ho4); have HO661 := A_ (Kd.R_lower ho4 (below_size HB.out)); replace HB := bs_ HB hb; clear hb ho4) | ((with_reducible refine gc_ 9 rfl ?_); refine cL_ E9 8 rfl rfl rfl (spec_BordersOf.calls k _ _ l0 t662 _ (Kd.C_below HR0.out HB.out) HC0.out A2.out) (by simp only [mA, mB, mC]; rfl) ?_; rintro e w5 ⟨v663, rfl, ho0, hb⟩; refine ⟨_, rfl, ?_⟩; have HO664 := A_ (Kd.R_lower (Kd.R_new' ho0 (Kd.R_lt HO661.out)) (below_size HB.out)); replace HO661 := A_ (Kd.R_elder' HO661.out (Kd.R_base ho0) hb); replace HB := bs_ HB hb; clear hb ho0; obtain ⟨Ao6, co6, eo6⟩ := Kd.R_slice HO664.out; subst eo6))
 go_loopg [3, 5] k (fun kq v3 v5 w' => ∃ (x3_1 : List Int) (x5_1 : Int), v5 = .int .i64 x5_1 ∧ Aside0 (spec_PeriodsOf.l0 kq l0 x3_1 t662 x5_1 = some r) ∧ Aside0 (kq ≤ k) ∧ Aside0 (Kd.R (Kd.int .i64) 3 w' w.heap.size (fun k_ => some k_ ≠ ((.slice Ao6 t662.length co6) : Value).ownBlock) v3 x3_1) ∧ Aside0 (Kd.R (Kd.int .i64) 3 w' w.heap.size (fun k_ => some k_ ≠ (v3 : Value).ownBlock) (.slice Ao6 t662.length co6) t662) ∧ Aside0 (Below w.heap.size w w'))
 case atStart => exact ⟨(y659), (wrap64 ((t662.length : Int) - 1)), (by rfl), H', ⟨Nat.le_refl _⟩, ⟨by exact Kd.R_mono HO661.out (fun _ hk => hk.2)⟩, ⟨by exact Kd.R_mono HO664.out (fun _ hk => hk.2)⟩, ⟨HB.out⟩⟩
 case round =>
  clear H'; obtain ⟨x3_1, x5_1, rfl, HA, HK1, HO_3, HO_4, HB⟩ := hrel
  cases gk with
  | zero => exact absurd HA.out (by simp [spec_PeriodsOf.l0])
  | succ k1 =>
   have H := HA.out; clear HA; simp only [spec_PeriodsOf.l0] at H
   by_cases c7 : x5_1 ≥ 0
   ·rw [if_pos c7] at H
    have c7b0 : decide (0 ≤ x5_1) = true := decide_eq_true c7
    clear c7
    by_cases c8 : 0 ≤ x5_1
    ·rw [if_pos c8] at H; have c8b0 := decide_eq_true c8; clear c8
     by_cases c9 : x5_1 < (t662.length : Int)
     ·rw [if_pos c9] at H; have c9b0 := decide_eq_true c9; clear c9
      by_cases c10 : x3_1.length < 17592186044416
      ·rw [if_pos c10] at H; have LMc10 := A_ c10; clear c10; obtain ⟨y666, hy666⟩ := ex_ ((x3_1 ++ [wrap64 ((l0.length : Int) - (rd t662 x5_1))]) : List Int); replace H : (spec_PeriodsOf.l0 k1 l0 y666 t662 (wrap64 (x5_1 - 1))) = some r := by (rw [hy666]; with_reducible exact H)
       have Ny666 := A_ hy666; clear hy666
       have H' := A_ H
       clear H
       have p665 : 0 ≤ (x5_1 : Int) := od_ (by assumption)
       have q665 : x5_1 < (t662.length : Int) := od_ (by assumption)
       obtain ⟨ad665, e665, hx665_0⟩ := Kd.at_int (Kd.R_reads' HO_4.out).2.2 x5_1 p665 q665
       cases e665
       replace p665 := eq_true p665; replace q665 := eq_true q665
       go_wp2_with (first | ((with_reducible refine gate_builtin (b := .append) (xs := #[.tmp 16, .tmp 24]) rfl ?_); at_builtin; refine Kd.R_append (Kd.int .i64) (w0 := w) w.heap.size rfl (.tmp 16) (.tmp 24) 24 3 (.int .i64 0) 8 rfl Try.underlying24 info3 rfl (by decide) (by omega) u3 x3_1 (wrap64 ((l0.length : Int) - (rd t662 x5_1))) [.int .i64 (wrap64 ((l0.length : Int) - (rd t662 x5_1)))] (fun k_ => some k_ ≠ (.slice (some ad665) t662.length co6 : Value).ownBlock) (fun _ => False) rfl rfl ?aP (fun _ hk => hk.elim) ?aF ?aO ?aB ?aS ?aL ?_; (case aP => exact rfl); (case aB => exact HB.out); (case aF => exact (fun k_ hk => Kd.fresh' (Kd.R_lt HO_4.out) k_ hk)); (case aO => exact HO_3.out); (case aS => exact (below_size HB.out)); (case aL => have := LMc10.out; omega); intro v667 w11 ho hb hg hat; rw [← Ny666.out] at ho; replace HO_4 := A_ (Kd.R_after (ok := (fun _ => True)) (by exact Kd.R_mono HO_4.out (fun _ hk => ⟨trivial, hk⟩)) hg hat); replace HB := A_ (hb); have HO668 := A_ (ho); clear HO_3; clear ho hb hg hat))
       go_roundg k1
       case measure => have := HK1.out; omega
       case rel => exact ⟨(y666), (wrap64 (x5_1 - 1)), (by rfl), H', ⟨by have := HK1.out; omega⟩, ⟨HO668.out⟩, ⟨by exact Kd.R_mono HO_4.out (fun _ hk => hk.2)⟩, ⟨HB.out⟩⟩
      rw [if_neg c10] at H
      cases H
     rw [if_neg c9] at H
     cases H
    rw [if_neg c8] at H
    cases H
   rw [if_neg c7] at H
   have c7b0 : decide (0 ≤ x5_1) = false := decide_eq_false c7
   clear c7; obtain rfl := Option.some.inj H
   go_wp2
   go_ret
   exact ⟨_, by rfl, by exact Kd.R_mono HO_3.out (fun _ hk => trivial), HB.out⟩

def impl_LeastPeriod.f (k : Nat) (l0 : List Int) : Option (Int) := if (l0.length : Int) = 0 then (some 0) else ((impl_borders.f k l0).bind fun t669 => (if 0 ≤ (l0.length : Int) then (if (l0.length : Int) < (t669.length : Int) then (some (wrap64 ((l0.length : Int) - (rd t669 (l0.length : Int))))) else (none)) else (none)))
theorem impl_LeastPeriod.calls (k : Nat) (A0 : Option Addr) (c0 : Nat) (l0 : List Int) (r : Int) (w : World) (hr0 : Kd.C (Kd.int .i64) w A0 l0.length l0) (hc0 : l0.length ≤ c0) (h : impl_LeastPeriod.f k l0 = some r) :
  Calls Try.prog 11 #[.slice A0 l0.length c0] w fun e w' => e = .returned (.int .i64 r) ∧ Below w.heap.size w w' := by
 have HR0 := A_ hr0; have HC0 := A_ hc0; clear hr0 hc0; have HB := A_ (Below.refl w.heap.size w); unfold impl_LeastPeriod.f at h; have H := h; clear h
 by_cases c2 : (l0.length : Int) = 0
 ·rw [if_pos c2] at H
  have c2b0 : ((l0.length : Int) == 0) = true := beq_iff_eq.mpr c2
  have c2b1 : ((l0.length : Int) != 0) = false := bne_eq_false_iff_eq.mpr c2
  clear c2; obtain rfl := Option.some.inj H; go_enter Try.func11, Try.ntmps11
  go_wp2
  go_ret
  exact ⟨by rfl, HB.out⟩
 rw [if_neg c2] at H
 have c2b0 : ((l0.length : Int) == 0) = false := beq_eq_false_iff_ne.mpr c2
 have c2b1 : ((l0.length : Int) != 0) = true := bne_iff_ne.mpr c2
 have c2b2 : ¬ (l0 = []) := fun h_ => c2 (by rw [h_]; rfl)
 replace H := bA_ H; obtain ⟨t669, A3, H⟩ := H
 by_cases c4 : 0 ≤ (l0.length : Int)
 ·rw [if_pos c4] at H; have c4b0 := decide_eq_true c4
  have c4b1 : decide (0 ≤ l0.length) = true := decide_eq_true (by omega)
  clear c4
  by_cases c5 : (l0.length : Int) < (t669.length : Int)
  ·rw [if_pos c5] at H; have c5b0 := decide_eq_true c5
   have c5b1 : decide (l0.length < t669.length) = true := decide_eq_true (Int.ofNat_lt.mp c5)
   clear c5; obtain rfl := Option.some.inj H; go_enter Try.func11, Try.ntmps11
   go_wp2_with (first | ((with_reducible refine gc_ 34 rfl ?_); refine cL_ E34 9 rfl rfl rfl (impl_borders.calls k _ _ l0 t669 _ (by repeat (first | exact HR0.out | (with_reducible refine Kd.C_alloc ?_ _) | (with_reducible refine Kd.C_drewN ?_ _) | (with_reducible refine Kd.C_drew ?_))) HC0.out A3.out) (by simp only [mA, mB, mC]; rfl) ?_; rintro e w6 ⟨v670, rfl, ho0, hb⟩; refine ⟨_, rfl, ?_⟩; have HO671 := A_ (Kd.R_lower ho0 (below_size HB.out)); replace HB := bs_ HB hb; clear hb ho0; obtain ⟨Ao7, co7, eo7⟩ := Kd.R_slice HO671.out; subst eo7; have p672 : 0 ≤ ((l0.length : Int) : Int) := od_ (by assumption); have q672 : (l0.length : Int) < (t669.length : Int) := od_ (by assumption); obtain ⟨ad672, e672, hx672_0⟩ := Kd.at_int (Kd.R_reads' HO671.out).2.2 (l0.length : Int) p672 q672; cases e672; (try simp only [Go.IntWalk.toNatUp] at hx672_0); replace p672 := eq_true p672; replace q672 := eq_true q672))
   go_ret
   exact ⟨by rfl, HB.out⟩
  rw [if_neg c5] at H
  cases H
 rw [if_neg c4] at H
 cases H

def spec_LeastPeriod.f (k : Nat) (l0 : List Int) : Option (Int) := (spec_PeriodsOf.f k l0).bind fun t673 => (if (t673.length : Int) = 0 then (some 0) else (if 0 < (t673.length : Int) then (some (rd t673 0)) else (none)))
theorem spec_LeastPeriod.calls (k : Nat) (A0 : Option Addr) (c0 : Nat) (l0 : List Int) (r : Int) (w : World) (hr0 : Kd.C (Kd.int .i64) w A0 l0.length l0) (hc0 : l0.length ≤ c0) (h : spec_LeastPeriod.f k l0 = some r) :
  Calls Try.prog 12 #[.slice A0 l0.length c0] w fun e w' => e = .returned (.int .i64 r) ∧ Below w.heap.size w w' := by
 have HR0 := A_ hr0; have HC0 := A_ hc0; clear hr0 hc0; have HB := A_ (Below.refl w.heap.size w); unfold spec_LeastPeriod.f at h; have H := h; clear h; replace H := bA_ H; obtain ⟨t673, A2, H⟩ := H
 by_cases c3 : (t673.length : Int) = 0
 ·rw [if_pos c3] at H
  have c3b0 : ((t673.length : Int) == 0) = true := beq_iff_eq.mpr c3
  have c3b1 : ((t673.length : Int) != 0) = false := bne_eq_false_iff_eq.mpr c3
  clear c3; obtain rfl := Option.some.inj H; go_enter Try.func12, Try.ntmps12
  go_wp2_with (first | ((with_reducible refine gc_ 10 rfl ?_); refine cL_ E10 5 rfl rfl rfl (spec_PeriodsOf.calls k _ _ l0 t673 _ (by repeat (first | exact HR0.out | (with_reducible refine Kd.C_alloc ?_ _) | (with_reducible refine Kd.C_drewN ?_ _) | (with_reducible refine Kd.C_drew ?_))) HC0.out A2.out) (by simp only [mA, mB, mC]; rfl) ?_; rintro e w4 ⟨v674, rfl, ho0, hb⟩; refine ⟨_, rfl, ?_⟩; have HO675 := A_ (Kd.R_lower ho0 (below_size HB.out)); replace HB := bs_ HB hb; clear hb ho0; obtain ⟨Ao5, co5, eo5⟩ := Kd.R_slice HO675.out; subst eo5))
  go_ret
  exact ⟨by rfl, HB.out⟩
 rw [if_neg c3] at H
 have c3b0 : ((t673.length : Int) == 0) = false := beq_eq_false_iff_ne.mpr c3
 have c3b1 : ((t673.length : Int) != 0) = true := bne_iff_ne.mpr c3
 have c3b2 : ¬ (t673 = []) := fun h_ => c3 (by rw [h_]; rfl)
 by_cases c6 : 0 < (t673.length : Int)
 ·rw [if_pos c6] at H; have c6b0 := decide_eq_true c6
  have c6b1 : decide (0 < t673.length) = true := decide_eq_true (by omega)
  clear c6; obtain rfl := Option.some.inj H; go_enter Try.func12, Try.ntmps12
  go_wp2_with (first | ((with_reducible refine gc_ 10 rfl ?_); refine cL_ E10 5 rfl rfl rfl (spec_PeriodsOf.calls k _ _ l0 t673 _ (by repeat (first | exact HR0.out | (with_reducible refine Kd.C_alloc ?_ _) | (with_reducible refine Kd.C_drewN ?_ _) | (with_reducible refine Kd.C_drew ?_))) HC0.out A2.out) (by simp only [mA, mB, mC]; rfl) ?_; rintro e w7 ⟨v674, rfl, ho0, hb⟩; refine ⟨_, rfl, ?_⟩; have HO675 := A_ (Kd.R_lower ho0 (below_size HB.out)); replace HB := bs_ HB hb; clear hb ho0; obtain ⟨Ao8, co8, eo8⟩ := Kd.R_slice HO675.out; subst eo8; have p676 : 0 ≤ (0 : Int) := (by omega); have q676 : 0 < (t673.length : Int) := od_ (by assumption); obtain ⟨ad676, e676, hx676_0⟩ := Kd.at_int (Kd.R_reads' HO675.out).2.2 0 p676 q676; cases e676; have qi676 : (0 < t673.length) = True := eq_true (by omega); (try rw [show ((0 : Int)).toNat = 0 from rfl] at hx676_0); (try rw [Addr.add_zero'] at hx676_0); replace p676 := eq_true p676; replace q676 := eq_true q676))
  go_ret
  exact ⟨by rfl, HB.out⟩
 rw [if_neg c6] at H
 cases H

def impl_RootOf.f (k : Nat) (l0 : List Int) : Option (List Int) := (impl_LeastPeriod.f k l0).bind fun t677 => (if t677 = 0 then ((some (([] : List Int) : List Int)).bind fun y678 => (if 0 ≤ (l0.length : Int) then (if (l0.length : Int) ≤ (l0.length : Int) then (if y678.length + (l0.take ((l0.length : Int) : Int).toNat).length < 17592186044416 then (some (y678 ++ (l0.take ((l0.length : Int) : Int).toNat))) else (none)) else (none)) else (none))) else (if ((l0.length : Int) % t677) = 0 then ((some (([] : List Int) : List Int)).bind fun y685 => (if 0 ≤ t677 then (if t677 ≤ (l0.length : Int) then (if y685.length + (l0.take (t677 : Int).toNat).length < 17592186044416 then (some (y685 ++ (l0.take (t677 : Int).toNat))) else (none)) else (none)) else (none))) else ((some (([] : List Int) : List Int)).bind fun y692 => (if 0 ≤ (l0.length : Int) then (if (l0.length : Int) ≤ (l0.length : Int) then (if y692.length + (l0.take ((l0.length : Int) : Int).toNat).length < 17592186044416 then (some (y692 ++ (l0.take ((l0.length : Int) : Int).toNat))) else (none)) else (none)) else (none)))))
theorem impl_RootOf.calls (k : Nat) (A0 : Option Addr) (c0 : Nat) (l0 : List Int) (r : List Int) (w : World) (hr0 : Kd.C (Kd.int .i64) w A0 l0.length l0) (hc0 : l0.length ≤ c0) (h : impl_RootOf.f k l0 = some r) :
  Calls Try.prog 17 #[.slice A0 l0.length c0] w fun e w' => ∃ v0_ : Value, e = .returned (v0_) ∧ Kd.R (Kd.int .i64) 3 w' w.heap.size (fun _ => True) v0_ r ∧ Below w.heap.size w w' := by
 have HR0 := A_ hr0; have HC0 := A_ hc0; clear hr0 hc0; have HB := A_ (Below.refl w.heap.size w); unfold impl_RootOf.f at h; have H := h; clear h; replace H := bA_ H; obtain ⟨t677, A2, H⟩ := H
 by_cases c3 : t677 = 0
 ·rw [if_pos c3] at H
  have c3b0 : (t677 == 0) = true := beq_iff_eq.mpr c3
  have c3b1 : (t677 != 0) = false := bne_eq_false_iff_eq.mpr c3
  clear c3; obtain ⟨y678, hy678⟩ := ex_ ((([] : List Int)) : List Int); replace H : (if 0 ≤ (l0.length : Int) then (if (l0.length : Int) ≤ (l0.length : Int) then (if y678.length + (l0.take ((l0.length : Int) : Int).toNat).length < 17592186044416 then (some (y678 ++ (l0.take ((l0.length : Int) : Int).toNat))) else (none)) else (none)) else (none)) = some r := by (have H2_ := (Option.bind_some _ _).symm.trans H; rw [hy678]; with_reducible exact H2_)
  have Ny678 := A_ hy678; clear hy678
  by_cases c4 : 0 ≤ (l0.length : Int)
  ·rw [if_pos c4] at H; have c4b0 := eq_true c4; have c4b1 := decide_eq_true c4; clear c4
   by_cases c5 : (l0.length : Int) ≤ (l0.length : Int)
   ·rw [if_pos c5] at H; have c5b0 := eq_true c5; have c5b1 := decide_eq_true c5; clear c5
    by_cases c6 : y678.length + (l0.take ((l0.length : Int) : Int).toNat).length < 17592186044416
    ·rw [if_pos c6] at H; have LMc6 := A_ c6; clear c6; obtain ⟨y682, hy682⟩ := ex_ ((y678 ++ (l0.take ((l0.length : Int) : Int).toNat)) : List Int); replace H : (some y682) = some r := by (rw [hy682]; with_reducible exact H)
     have Ny682 := A_ hy682; clear hy682; obtain rfl := Option.some.inj H; go_enter Try.func17, Try.ntmps17
     go_wp2_with (first | ((with_reducible refine gc_ 11 rfl ?_); refine cL_ E11 5 rfl rfl rfl (impl_LeastPeriod.calls k _ _ l0 t677 _ (by repeat (first | exact HR0.out | (with_reducible refine Kd.C_alloc ?_ _) | (with_reducible refine Kd.C_drewN ?_ _) | (with_reducible refine Kd.C_drew ?_))) HC0.out A2.out) (by simp only [mA, mB, mC]; rfl) ?_; rintro e w7 ⟨rfl, hb⟩; refine ⟨_, rfl, ?_⟩; replace HB := bs_ HB hb; clear hb; (try clear hi)) | ((with_reducible refine gate_dst (N := 17) rfl ?_); (try (refine gate_guard (by rfl) ?_; dsimp only)); refine Kd.R_lit (Kd.int .i64) _ 3 ?hg (N := 17) ?hd (xs := ([] : List Int)) (inner := []) (ok := fun _ => True) (okp := fun _ => True) ?hr ?hp (fun _ hk => hk) trivial (Below.refl _ _) (Nat.le_refl _) (by simp) ?_; (case hd | hg => rfl); (case hr => go_simp; done); (case hp => exact (Reps.none _ _)); rintro v679 w8 ho9 hb - -; (rw [← Ny678.out] at ho9); have HO680 := A_ (Kd.R_lower ho9 (below_size HB.out)); replace HB := bs_ HB hb; clear hb ho9; obtain ⟨i010, hi010, _, hsz10, _⟩ := info_parts info3; obtain ⟨hcut10, hA10, hC10⟩ := print_take_of (P := Try.prog) (Value.int .i64) 0 24 3 .i64 Try.underlying24 hi010 hsz10 A0 c0 l0 (l0.length : Int) (od_ (by assumption)) (od_ (by assumption)) HC0.out; have HR681 := A_ (Kd.C_of_reads (h1 := fun _ => rfl) (hA10 _ (Kd.reads_of_C HR0.out))); have HC681 := A_ hC10; clear hA10 hC10 hi010 hsz10) | ((with_reducible refine gate_builtin (b := .append) (xs := #[.tmp 17, .tmp 20]) rfl ?_); (try (refine gate_guard (by rfl) ?_; dsimp only)); at_builtin; refine Kd.R_append_rows (Kd.int .i64) (w0 := w) w.heap.size rfl (.tmp 17) (.tmp 20) 24 3 (.int .i64 0) 8 rfl Try.underlying24 info3 rfl (by decide) (by omega) v679 y678 (l0.take ((l0.length : Int) : Int).toNat) _ _ _ (fun _ => True) (fun _ => False) rfl rfl ?aO ?aR (fun _ _ h => h) (fun _ h => h.elim) ?aF ?aB ?aS ?aL ?_; (case aR => first | (have h9_ := Kd.C_below HR681.out HB.out; rw [show (l0.take ((l0.length : Int) : Int).toNat).length = (l0.length : Int).toNat from (by rw [List.length_take]; have h_ : ((l0.length : Int) : Int) ≤ (l0.length : Int) := od_ (by assumption); omega)] at h9_; exact h9_) | (rw [← show (l0.take ((l0.length : Int) : Int).toNat).length = (l0.length : Int).toNat from (by rw [List.length_take]; have h_ : ((l0.length : Int) : Int) ≤ (l0.length : Int) := od_ (by first | (with_reducible assumption) | assumption); omega)]; exact (Kd.C_below HR681.out HB.out)) | (exact (Kd.C_below HR681.out HB.out))); (case aB => exact HB.out); (case aF => exact (fun _ _ => trivial)); (case aO => exact HO680.out); (case aS => exact (below_size HB.out)); (case aL => have := LMc6.out; have hlx_ := (show (l0.take ((l0.length : Int) : Int).toNat).length = (l0.length : Int).toNat from (by rw [List.length_take]; have h_ : ((l0.length : Int) : Int) ≤ (l0.length : Int) := od_ (by assumption); omega)); omega); intro v683 w11 ho hb hg hat; rw [← Ny682.out] at ho; replace HB := A_ (hb); have HO684 := A_ (ho); clear HO680; clear ho hb hg hat))
     go_ret
     exact ⟨_, by rfl, HO684.out, HB.out⟩
    rw [if_neg c6] at H
    cases H
   rw [if_neg c5] at H
   cases H
  rw [if_neg c4] at H
  cases H
 rw [if_neg c3] at H
 have c3b0 : (t677 == 0) = false := beq_eq_false_iff_ne.mpr c3
 have c3b1 : (t677 != 0) = true := bne_iff_ne.mpr c3
 by_cases c12 : ((l0.length : Int) % t677) = 0
 ·rw [if_pos c12] at H
  have c12b0 : (((l0.length : Int) % t677) == 0) = true := beq_iff_eq.mpr c12
  have c12b1 : (((l0.length : Int) % t677) != 0) = false := bne_eq_false_iff_eq.mpr c12
  clear c12; obtain ⟨y685, hy685⟩ := ex_ ((([] : List Int)) : List Int); replace H : (if 0 ≤ t677 then (if t677 ≤ (l0.length : Int) then (if y685.length + (l0.take (t677 : Int).toNat).length < 17592186044416 then (some (y685 ++ (l0.take (t677 : Int).toNat))) else (none)) else (none)) else (none)) = some r := by (have H2_ := (Option.bind_some _ _).symm.trans H; rw [hy685]; with_reducible exact H2_)
  have Ny685 := A_ hy685; clear hy685
  by_cases c13 : 0 ≤ t677
  ·rw [if_pos c13] at H; have c13b0 := eq_true c13; have c13b1 := decide_eq_true c13; clear c13
   by_cases c14 : t677 ≤ (l0.length : Int)
   ·rw [if_pos c14] at H; have c14b0 := eq_true c14; have c14b1 := decide_eq_true c14; clear c14
    by_cases c15 : y685.length + (l0.take (t677 : Int).toNat).length < 17592186044416
    ·rw [if_pos c15] at H; have LMc15 := A_ c15; clear c15; obtain ⟨y689, hy689⟩ := ex_ ((y685 ++ (l0.take (t677 : Int).toNat)) : List Int); replace H : (some y689) = some r := by (rw [hy689]; with_reducible exact H)
     have Ny689 := A_ hy689; clear hy689; obtain rfl := Option.some.inj H; go_enter Try.func17, Try.ntmps17
     go_wp2_with (first | ((with_reducible refine gc_ 11 rfl ?_); refine cL_ E11 5 rfl rfl rfl (impl_LeastPeriod.calls k _ _ l0 t677 _ (by repeat (first | exact HR0.out | (with_reducible refine Kd.C_alloc ?_ _) | (with_reducible refine Kd.C_drewN ?_ _) | (with_reducible refine Kd.C_drew ?_))) HC0.out A2.out) (by simp only [mA, mB, mC]; rfl) ?_; rintro e w16 ⟨rfl, hb⟩; refine ⟨_, rfl, ?_⟩; replace HB := bs_ HB hb; clear hb; (try clear hi)) | ((with_reducible refine gate_dst (N := 17) rfl ?_); (try (refine gate_guard (by rfl) ?_; dsimp only)); refine Kd.R_lit (Kd.int .i64) _ 3 ?hg (N := 17) ?hd (xs := ([] : List Int)) (inner := []) (ok := fun _ => True) (okp := fun _ => True) ?hr ?hp (fun _ hk => hk) trivial (Below.refl _ _) (Nat.le_refl _) (by simp) ?_; (case hd | hg => rfl); (case hr => go_simp; done); (case hp => exact (Reps.none _ _)); rintro v686 w17 ho18 hb - -; (rw [← Ny685.out] at ho18); have HO687 := A_ (Kd.R_lower ho18 (below_size HB.out)); replace HB := bs_ HB hb; clear hb ho18; obtain ⟨i019, hi019, _, hsz19, _⟩ := info_parts info3; obtain ⟨hcut19, hA19, hC19⟩ := print_take_of (P := Try.prog) (Value.int .i64) 0 24 3 .i64 Try.underlying24 hi019 hsz19 A0 c0 l0 t677 (od_ (by assumption)) (od_ (by assumption)) HC0.out; have HR688 := A_ (Kd.C_of_reads (h1 := fun _ => rfl) (hA19 _ (Kd.reads_of_C HR0.out))); have HC688 := A_ hC19; clear hA19 hC19 hi019 hsz19) | ((with_reducible refine gate_builtin (b := .append) (xs := #[.tmp 17, .tmp 20]) rfl ?_); (try (refine gate_guard (by rfl) ?_; dsimp only)); at_builtin; refine Kd.R_append_rows (Kd.int .i64) (w0 := w) w.heap.size rfl (.tmp 17) (.tmp 20) 24 3 (.int .i64 0) 8 rfl Try.underlying24 info3 rfl (by decide) (by omega) v686 y685 (l0.take (t677 : Int).toNat) _ _ _ (fun _ => True) (fun _ => False) rfl rfl ?aO ?aR (fun _ _ h => h) (fun _ h => h.elim) ?aF ?aB ?aS ?aL ?_; (case aR => first | (have h9_ := Kd.C_below HR688.out HB.out; rw [show (l0.take (t677 : Int).toNat).length = t677.toNat from (by rw [List.length_take]; have h_ : (t677 : Int) ≤ (l0.length : Int) := od_ (by assumption); omega)] at h9_; exact h9_) | (rw [← show (l0.take (t677 : Int).toNat).length = t677.toNat from (by rw [List.length_take]; have h_ : (t677 : Int) ≤ (l0.length : Int) := od_ (by first | (with_reducible assumption) | assumption); omega)]; exact (Kd.C_below HR688.out HB.out)) | (exact (Kd.C_below HR688.out HB.out))); (case aB => exact HB.out); (case aF => exact (fun _ _ => trivial)); (case aO => exact HO687.out); (case aS => exact (below_size HB.out)); (case aL => have := LMc15.out; have hlx_ := (show (l0.take (t677 : Int).toNat).length = t677.toNat from (by rw [List.length_take]; have h_ : (t677 : Int) ≤ (l0.length : Int) := od_ (by assumption); omega)); omega); intro v690 w20 ho hb hg hat; rw [← Ny689.out] at ho; replace HB := A_ (hb); have HO691 := A_ (ho); clear HO687; clear ho hb hg hat))
     go_ret
     exact ⟨_, by rfl, HO691.out, HB.out⟩
    rw [if_neg c15] at H
    cases H
   rw [if_neg c14] at H
   cases H
  rw [if_neg c13] at H
  cases H
 rw [if_neg c12] at H
 have c12b0 : (((l0.length : Int) % t677) == 0) = false := beq_eq_false_iff_ne.mpr c12
 have c12b1 : (((l0.length : Int) % t677) != 0) = true := bne_iff_ne.mpr c12
 obtain ⟨y692, hy692⟩ := ex_ ((([] : List Int)) : List Int); replace H : (if 0 ≤ (l0.length : Int) then (if (l0.length : Int) ≤ (l0.length : Int) then (if y692.length + (l0.take ((l0.length : Int) : Int).toNat).length < 17592186044416 then (some (y692 ++ (l0.take ((l0.length : Int) : Int).toNat))) else (none)) else (none)) else (none)) = some r := by (have H2_ := (Option.bind_some _ _).symm.trans H; rw [hy692]; with_reducible exact H2_)
 have Ny692 := A_ hy692; clear hy692
 by_cases c21 : 0 ≤ (l0.length : Int)
 ·rw [if_pos c21] at H; have c21b0 := eq_true c21; have c21b1 := decide_eq_true c21; clear c21
  by_cases c22 : (l0.length : Int) ≤ (l0.length : Int)
  ·rw [if_pos c22] at H; have c22b0 := eq_true c22; have c22b1 := decide_eq_true c22; clear c22
   by_cases c23 : y692.length + (l0.take ((l0.length : Int) : Int).toNat).length < 17592186044416
   ·rw [if_pos c23] at H; have LMc23 := A_ c23; clear c23; obtain ⟨y696, hy696⟩ := ex_ ((y692 ++ (l0.take ((l0.length : Int) : Int).toNat)) : List Int); replace H : (some y696) = some r := by (rw [hy696]; with_reducible exact H)
    have Ny696 := A_ hy696; clear hy696; obtain rfl := Option.some.inj H; go_enter Try.func17, Try.ntmps17
    go_wp2_with (first | ((with_reducible refine gc_ 11 rfl ?_); refine cL_ E11 5 rfl rfl rfl (impl_LeastPeriod.calls k _ _ l0 t677 _ (by repeat (first | exact HR0.out | (with_reducible refine Kd.C_alloc ?_ _) | (with_reducible refine Kd.C_drewN ?_ _) | (with_reducible refine Kd.C_drew ?_))) HC0.out A2.out) (by simp only [mA, mB, mC]; rfl) ?_; rintro e w24 ⟨rfl, hb⟩; refine ⟨_, rfl, ?_⟩; replace HB := bs_ HB hb; clear hb; (try clear hi)) | ((with_reducible refine gate_dst (N := 17) rfl ?_); (try (refine gate_guard (by rfl) ?_; dsimp only)); refine Kd.R_lit (Kd.int .i64) _ 3 ?hg (N := 17) ?hd (xs := ([] : List Int)) (inner := []) (ok := fun _ => True) (okp := fun _ => True) ?hr ?hp (fun _ hk => hk) trivial (Below.refl _ _) (Nat.le_refl _) (by simp) ?_; (case hd | hg => rfl); (case hr => go_simp; done); (case hp => exact (Reps.none _ _)); rintro v693 w25 ho26 hb - -; (rw [← Ny692.out] at ho26); have HO694 := A_ (Kd.R_lower ho26 (below_size HB.out)); replace HB := bs_ HB hb; clear hb ho26; obtain ⟨i027, hi027, _, hsz27, _⟩ := info_parts info3; obtain ⟨hcut27, hA27, hC27⟩ := print_take_of (P := Try.prog) (Value.int .i64) 0 24 3 .i64 Try.underlying24 hi027 hsz27 A0 c0 l0 (l0.length : Int) (od_ (by assumption)) (od_ (by assumption)) HC0.out; have HR695 := A_ (Kd.C_of_reads (h1 := fun _ => rfl) (hA27 _ (Kd.reads_of_C HR0.out))); have HC695 := A_ hC27; clear hA27 hC27 hi027 hsz27) | ((with_reducible refine gate_builtin (b := .append) (xs := #[.tmp 17, .tmp 20]) rfl ?_); (try (refine gate_guard (by rfl) ?_; dsimp only)); at_builtin; refine Kd.R_append_rows (Kd.int .i64) (w0 := w) w.heap.size rfl (.tmp 17) (.tmp 20) 24 3 (.int .i64 0) 8 rfl Try.underlying24 info3 rfl (by decide) (by omega) v693 y692 (l0.take ((l0.length : Int) : Int).toNat) _ _ _ (fun _ => True) (fun _ => False) rfl rfl ?aO ?aR (fun _ _ h => h) (fun _ h => h.elim) ?aF ?aB ?aS ?aL ?_; (case aR => first | (have h9_ := Kd.C_below HR695.out HB.out; rw [show (l0.take ((l0.length : Int) : Int).toNat).length = (l0.length : Int).toNat from (by rw [List.length_take]; have h_ : ((l0.length : Int) : Int) ≤ (l0.length : Int) := od_ (by assumption); omega)] at h9_; exact h9_) | (rw [← show (l0.take ((l0.length : Int) : Int).toNat).length = (l0.length : Int).toNat from (by rw [List.length_take]; have h_ : ((l0.length : Int) : Int) ≤ (l0.length : Int) := od_ (by first | (with_reducible assumption) | assumption); omega)]; exact (Kd.C_below HR695.out HB.out)) | (exact (Kd.C_below HR695.out HB.out))); (case aB => exact HB.out); (case aF => exact (fun _ _ => trivial)); (case aO => exact HO694.out); (case aS => exact (below_size HB.out)); (case aL => have := LMc23.out; have hlx_ := (show (l0.take ((l0.length : Int) : Int).toNat).length = (l0.length : Int).toNat from (by rw [List.length_take]; have h_ : ((l0.length : Int) : Int) ≤ (l0.length : Int) := od_ (by assumption); omega)); omega); intro v697 w28 ho hb hg hat; rw [← Ny696.out] at ho; replace HB := A_ (hb); have HO698 := A_ (ho); clear HO694; clear ho hb hg hat))
    go_ret
    exact ⟨_, by rfl, HO698.out, HB.out⟩
   rw [if_neg c23] at H
   cases H
  rw [if_neg c22] at H
  cases H
 rw [if_neg c21] at H
 cases H

def impl_IsPrimitive.f (k : Nat) (l0 : List Int) : Option (Bool) := if (l0.length : Int) > 0 then ((impl_RootOf.f k l0).bind fun t699 => (some ((t699.length : Int) == (l0.length : Int)))) else (some false)
theorem impl_IsPrimitive.calls (k : Nat) (A0 : Option Addr) (c0 : Nat) (l0 : List Int) (r : Bool) (w : World) (hr0 : Kd.C (Kd.int .i64) w A0 l0.length l0) (hc0 : l0.length ≤ c0) (h : impl_IsPrimitive.f k l0 = some r) :
  Calls Try.prog 13 #[.slice A0 l0.length c0] w fun e w' => e = .returned (.bool r) ∧ Below w.heap.size w w' := by
 have HR0 := A_ hr0; have HC0 := A_ hc0; clear hr0 hc0; have HB := A_ (Below.refl w.heap.size w); unfold impl_IsPrimitive.f at h; have H := h; clear h
 by_cases c2 : (l0.length : Int) > 0
 ·rw [if_pos c2] at H
  have c2b0 : decide (0 < (l0.length : Int)) = true := decide_eq_true c2
  have c2b1 : decide (0 < l0.length) = true := decide_eq_true (by omega)
  clear c2; replace H := bA_ H; obtain ⟨t699, A3, H⟩ := H; obtain rfl := Option.some.inj H; go_enter Try.func13, Try.ntmps13
  go_wp2_with (first | (go_at_call 17; (with_reducible refine (impl_RootOf.calls k _ _ l0 t699 _ ?side1 ?side2 A3.out).mono ?_); (case side1 => repeat (first | exact HR0.out | (with_reducible refine Kd.C_alloc ?_ _) | (with_reducible refine Kd.C_drewN ?_ _) | (with_reducible refine Kd.C_drew ?_))); (case side2 => exact HC0.out); rintro e w4 ⟨v700, rfl, ho0, hb⟩; have HO701 := A_ (Kd.R_lower ho0 (below_size HB.out)); replace HB := bs_ HB hb; clear hb ho0; obtain ⟨Ao5, co5, eo5⟩ := Kd.R_slice HO701.out; subst eo5))
  go_ret
  exact ⟨by rfl, HB.out⟩
 rw [if_neg c2] at H
 have c2b0 : decide (0 < (l0.length : Int)) = false := decide_eq_false c2
 have c2b1 : decide (0 < l0.length) = false := decide_eq_false (by omega)
 clear c2; obtain rfl := Option.some.inj H; go_enter Try.func13, Try.ntmps13
 go_wp2
 go_ret
 exact ⟨by rfl, HB.out⟩

def spec_IsPrimitive.f (k : Nat) (l0 : List Int) : Option (Bool) := (spec_LeastPeriod.f k l0).bind fun t702 => (if (l0.length : Int) > 0 then (if t702 = (l0.length : Int) then (some true) else (if t702 = 0 then (none) else (some (((l0.length : Int) % t702) != 0)))) else (some false))
theorem spec_IsPrimitive.calls (k : Nat) (A0 : Option Addr) (c0 : Nat) (l0 : List Int) (r : Bool) (w : World) (hr0 : Kd.C (Kd.int .i64) w A0 l0.length l0) (hc0 : l0.length ≤ c0) (h : spec_IsPrimitive.f k l0 = some r) :
  Calls Try.prog 14 #[.slice A0 l0.length c0] w fun e w' => e = .returned (.bool r) ∧ Below w.heap.size w w' := by
 have HR0 := A_ hr0; have HC0 := A_ hc0; clear hr0 hc0; have HB := A_ (Below.refl w.heap.size w); unfold spec_IsPrimitive.f at h; have H := h; clear h; replace H := bA_ H; obtain ⟨t702, A2, H⟩ := H
 by_cases c3 : (l0.length : Int) > 0
 ·rw [if_pos c3] at H
  have c3b0 : decide (0 < (l0.length : Int)) = true := decide_eq_true c3
  have c3b1 : decide (0 < l0.length) = true := decide_eq_true (by omega)
  clear c3
  by_cases c4 : t702 = (l0.length : Int)
  ·rw [if_pos c4] at H
   have c4b0 : (t702 == (l0.length : Int)) = true := beq_iff_eq.mpr c4
   have c4b1 : (t702 != (l0.length : Int)) = false := bne_eq_false_iff_eq.mpr c4
   clear c4; obtain rfl := Option.some.inj H; go_enter Try.func14, Try.ntmps14
   go_wp2_with (first | ((with_reducible refine gc_ 12 rfl ?_); refine cL_ E12 5 rfl rfl rfl (spec_LeastPeriod.calls k _ _ l0 t702 _ (by repeat (first | exact HR0.out | (with_reducible refine Kd.C_alloc ?_ _) | (with_reducible refine Kd.C_drewN ?_ _) | (with_reducible refine Kd.C_drew ?_))) HC0.out A2.out) (by simp only [mA, mB, mC]; rfl) ?_; rintro e w5 ⟨rfl, hb⟩; refine ⟨_, rfl, ?_⟩; replace HB := bs_ HB hb; clear hb; (try clear hi)))
   go_ret
   exact ⟨by rfl, HB.out⟩
  rw [if_neg c4] at H
  have c4b0 : (t702 == (l0.length : Int)) = false := beq_eq_false_iff_ne.mpr c4
  have c4b1 : (t702 != (l0.length : Int)) = true := bne_iff_ne.mpr c4
  by_cases c6 : t702 = 0
  ·rw [if_pos c6] at H
   cases H
  rw [if_neg c6] at H
  have c6b0 : (t702 == 0) = false := beq_eq_false_iff_ne.mpr c6
  have c6b1 : (t702 != 0) = true := bne_iff_ne.mpr c6
  obtain rfl := Option.some.inj H; go_enter Try.func14, Try.ntmps14
  go_wp2_with (first | ((with_reducible refine gc_ 12 rfl ?_); refine cL_ E12 5 rfl rfl rfl (spec_LeastPeriod.calls k _ _ l0 t702 _ (by repeat (first | exact HR0.out | (with_reducible refine Kd.C_alloc ?_ _) | (with_reducible refine Kd.C_drewN ?_ _) | (with_reducible refine Kd.C_drew ?_))) HC0.out A2.out) (by simp only [mA, mB, mC]; rfl) ?_; rintro e w7 ⟨rfl, hb⟩; refine ⟨_, rfl, ?_⟩; replace HB := bs_ HB hb; clear hb; (try clear hi)))
  go_ret
  exact ⟨by rfl, HB.out⟩
 rw [if_neg c3] at H
 have c3b0 : decide (0 < (l0.length : Int)) = false := decide_eq_false c3
 have c3b1 : decide (0 < l0.length) = false := decide_eq_false (by omega)
 clear c3; obtain rfl := Option.some.inj H; go_enter Try.func14, Try.ntmps14
 go_wp2_with (first | ((with_reducible refine gc_ 12 rfl ?_); refine cL_ E12 5 rfl rfl rfl (spec_LeastPeriod.calls k _ _ l0 t702 _ (by repeat (first | exact HR0.out | (with_reducible refine Kd.C_alloc ?_ _) | (with_reducible refine Kd.C_drewN ?_ _) | (with_reducible refine Kd.C_drew ?_))) HC0.out A2.out) (by simp only [mA, mB, mC]; rfl) ?_; rintro e w8 ⟨rfl, hb⟩; refine ⟨_, rfl, ?_⟩; replace HB := bs_ HB hb; clear hb; (try clear hi)))
 go_ret
 exact ⟨by rfl, HB.out⟩

def laws_gcd.l0 : Nat → Int → Int → Option (Int)
 | 0, _, _ => none
 | k + 1, x0, x1 => if x1 > 0 then (if x1 = 0 then (none) else (laws_gcd.l0 k x1 (Int.tmod x0 x1))) else (some x0)
def laws_gcd.f (k : Nat) (a0 : Int) (a1 : Int) : Option (Int) := laws_gcd.l0 k a0 a1
theorem laws_gcd.calls (k : Nat) (a0 : Int) (a1 : Int) (r : Int) (w : World) (h : laws_gcd.f k a0 a1 = some r) :
  Calls Try.prog 15 #[.int .i64 a0, .int .i64 a1] w fun e w' => e = .returned (.int .i64 r) ∧ Drawn0 w w' := by
 unfold laws_gcd.f at h; have H := h; clear h
 have H' := A_ H
 clear H; go_enter Try.func15, Try.ntmps15
 go_wp2
 go_loopg [0, 1] k (fun kq v0 v1 w' => ∃ (x0_1 : Int) (x1_1 : Int), v0 = .int .i64 x0_1 ∧ v1 = .int .i64 x1_1 ∧ Aside0 (laws_gcd.l0 kq x0_1 x1_1 = some r) ∧ Aside0 (kq ≤ k) ∧ Drawn0 w w')
 case atStart => exact ⟨(a0), (a1), (by rfl), (by rfl), H', ⟨Nat.le_refl _⟩, by repeat (first | exact Drawn0.refl _ | apply Drawn0.step)⟩
 case round =>
  clear H'; obtain ⟨x0_1, x1_1, rfl, rfl, HA, HK1, ⟨m1, rfl⟩⟩ := hrel
  cases gk with
  | zero => exact absurd HA.out (by simp [laws_gcd.l0])
  | succ k1 =>
   have H := HA.out; clear HA; simp only [laws_gcd.l0] at H
   by_cases c3 : x1_1 > 0
   ·rw [if_pos c3] at H
    have c3b0 : decide (0 < x1_1) = true := decide_eq_true c3
    clear c3
    by_cases c4 : x1_1 = 0
    ·rw [if_pos c4] at H
     cases H
    rw [if_neg c4] at H
    have c4b0 : (x1_1 == 0) = false := beq_eq_false_iff_ne.mpr c4
    have c4b1 : (x1_1 != 0) = true := bne_iff_ne.mpr c4
    have H' := A_ H
    clear H
    go_wp2
    go_roundg k1
    case measure => have := HK1.out; omega
    case rel => exact ⟨(x1_1), (Int.tmod x0_1 x1_1), (by rfl), (by rfl), H', ⟨by have := HK1.out; omega⟩, by repeat (first | exact Drawn0.refl _ | apply Drawn0.step)⟩
   rw [if_neg c3] at H
   have c3b0 : decide (0 < x1_1) = false := decide_eq_false c3
   clear c3; obtain rfl := Option.some.inj H
   go_wp2
   go_ret
   exact ⟨by rfl, by repeat (first | exact Drawn0.refl _ | apply Drawn0.step)⟩

def laws_has.l0 : Nat → List Int → Int → Int → Option (Bool)
 | 0, _, _, _ => none
 | k + 1, x0, x1, x5 => if x5 < (x0.length : Int) then (if 0 ≤ x5 then (if (rd x0 x5) = x1 then (some true) else (laws_has.l0 k x0 x1 (wrap64 (x5 + 1)))) else (none)) else (some false)
def laws_has.f (k : Nat) (l0 : List Int) (a1 : Int) : Option (Bool) := laws_has.l0 k l0 a1 0
theorem laws_has.calls (k : Nat) (A0 : Option Addr) (c0 : Nat) (l0 : List Int) (a1 : Int) (r : Bool) (w : World) (hr0 : Kd.C (Kd.int .i64) w A0 l0.length l0) (hc0 : l0.length ≤ c0) (h : laws_has.f k l0 a1 = some r) :
  Calls Try.prog 16 #[.slice A0 l0.length c0, .int .i64 a1] w fun e w' => e = .returned (.bool r) ∧ Drawn0 w w' := by
 have HR0 := A_ hr0; have HC0 := A_ hc0; clear hr0 hc0; unfold laws_has.f at h; have H := h; clear h
 have H' := A_ H
 clear H; go_enter Try.func16, Try.ntmps16
 go_wp2
 go_loopg [5] k (fun kq v5 w' => ∃ (x5_1 : Int), v5 = .int .i64 x5_1 ∧ Aside0 (laws_has.l0 kq l0 a1 x5_1 = some r) ∧ Aside0 (kq ≤ k) ∧ Drawn0 w w')
 case atStart => exact ⟨(0), (by rfl), H', ⟨Nat.le_refl _⟩, by repeat (first | exact Drawn0.refl _ | apply Drawn0.step)⟩
 case round =>
  clear H'; obtain ⟨x5_1, rfl, HA, HK1, ⟨m1, rfl⟩⟩ := hrel
  cases gk with
  | zero => exact absurd HA.out (by simp [laws_has.l0])
  | succ k1 =>
   have H := HA.out; clear HA; simp only [laws_has.l0] at H
   by_cases c3 : x5_1 < (l0.length : Int)
   ·rw [if_pos c3] at H; have c3b0 := decide_eq_true c3; clear c3
    by_cases c4 : 0 ≤ x5_1
    ·rw [if_pos c4] at H; have c4b0 := decide_eq_true c4; clear c4
     by_cases c5 : (rd l0 x5_1) = a1
     ·rw [if_pos c5] at H
      have c5b0 : ((rd l0 x5_1) == a1) = true := beq_iff_eq.mpr c5
      have c5b1 : ((rd l0 x5_1) != a1) = false := bne_eq_false_iff_eq.mpr c5
      clear c5; obtain rfl := Option.some.inj H
      have p703 : 0 ≤ (x5_1 : Int) := od_ (by assumption)
      have q703 : x5_1 < (l0.length : Int) := od_ (by assumption)
      obtain ⟨ad703, e703, hx703_0⟩ := Kd.at_int HR0.out x5_1 p703 q703
      cases e703
      replace p703 := eq_true p703; replace q703 := eq_true q703
      go_wp2
      go_ret
      exact ⟨by rfl, by repeat (first | exact Drawn0.refl _ | apply Drawn0.step)⟩
     rw [if_neg c5] at H
     have c5b0 : ((rd l0 x5_1) == a1) = false := beq_eq_false_iff_ne.mpr c5
     have c5b1 : ((rd l0 x5_1) != a1) = true := bne_iff_ne.mpr c5
     have H' := A_ H
     clear H
     have p703 : 0 ≤ (x5_1 : Int) := od_ (by assumption)
     have q703 : x5_1 < (l0.length : Int) := od_ (by assumption)
     obtain ⟨ad703, e703, hx703_0⟩ := Kd.at_int HR0.out x5_1 p703 q703
     cases e703
     replace p703 := eq_true p703; replace q703 := eq_true q703
     go_wp2
     go_roundg k1
     case measure => have := HK1.out; omega
     case rel => exact ⟨(wrap64 (x5_1 + 1)), (by rfl), H', ⟨by have := HK1.out; omega⟩, by repeat (first | exact Drawn0.refl _ | apply Drawn0.step)⟩
    rw [if_neg c4] at H
    cases H
   rw [if_neg c3] at H; have c3b0 := decide_eq_false c3; clear c3; obtain rfl := Option.some.inj H
   go_wp2
   go_ret
   exact ⟨by rfl, by repeat (first | exact Drawn0.refl _ | apply Drawn0.step)⟩

def spec_RootOf.f (k : Nat) (l0 : List Int) : Option (List Int) := (spec_LeastPeriod.f k l0).bind fun t704 => (if (l0.length : Int) = 0 then ((some (([] : List Int) : List Int)).bind fun y705 => (if y705.length + l0.length < 17592186044416 then (some (y705 ++ l0)) else (none))) else (if t704 = 0 then (none) else (if ((l0.length : Int) % t704) = 0 then ((some (([] : List Int) : List Int)).bind fun y711 => (if 0 ≤ t704 then (if t704 ≤ (l0.length : Int) then (if y711.length + (l0.take (t704 : Int).toNat).length < 17592186044416 then (some (y711 ++ (l0.take (t704 : Int).toNat))) else (none)) else (none)) else (none))) else ((some (([] : List Int) : List Int)).bind fun y718 => (if y718.length + l0.length < 17592186044416 then (some (y718 ++ l0)) else (none))))))
theorem spec_RootOf.calls (k : Nat) (A0 : Option Addr) (c0 : Nat) (l0 : List Int) (r : List Int) (w : World) (hr0 : Kd.C (Kd.int .i64) w A0 l0.length l0) (hc0 : l0.length ≤ c0) (h : spec_RootOf.f k l0 = some r) :
  Calls Try.prog 18 #[.slice A0 l0.length c0] w fun e w' => ∃ v0_ : Value, e = .returned (v0_) ∧ Kd.R (Kd.int .i64) 3 w' w.heap.size (fun _ => True) v0_ r ∧ Below w.heap.size w w' := by
 have HR0 := A_ hr0; have HC0 := A_ hc0; clear hr0 hc0; have HB := A_ (Below.refl w.heap.size w); unfold spec_RootOf.f at h; have H := h; clear h; replace H := bA_ H; obtain ⟨t704, A2, H⟩ := H
 by_cases c3 : (l0.length : Int) = 0
 ·rw [if_pos c3] at H
  have c3b0 : ((l0.length : Int) == 0) = true := beq_iff_eq.mpr c3
  have c3b1 : ((l0.length : Int) != 0) = false := bne_eq_false_iff_eq.mpr c3
  clear c3; obtain ⟨y705, hy705⟩ := ex_ ((([] : List Int)) : List Int); replace H : (if y705.length + l0.length < 17592186044416 then (some (y705 ++ l0)) else (none)) = some r := by (have H2_ := (Option.bind_some _ _).symm.trans H; rw [hy705]; with_reducible exact H2_)
  have Ny705 := A_ hy705; clear hy705
  by_cases c4 : y705.length + l0.length < 17592186044416
  ·rw [if_pos c4] at H; have LMc4 := A_ c4; clear c4; obtain ⟨y708, hy708⟩ := ex_ ((y705 ++ l0) : List Int); replace H : (some y708) = some r := by (rw [hy708]; with_reducible exact H)
   have Ny708 := A_ hy708; clear hy708; obtain rfl := Option.some.inj H; go_enter Try.func18, Try.ntmps18
   go_wp2_with (first | ((with_reducible refine gc_ 12 rfl ?_); refine cL_ E12 5 rfl rfl rfl (spec_LeastPeriod.calls k _ _ l0 t704 _ (by repeat (first | exact HR0.out | (with_reducible refine Kd.C_alloc ?_ _) | (with_reducible refine Kd.C_drewN ?_ _) | (with_reducible refine Kd.C_drew ?_))) HC0.out A2.out) (by simp only [mA, mB, mC]; rfl) ?_; rintro e w5 ⟨rfl, hb⟩; refine ⟨_, rfl, ?_⟩; replace HB := bs_ HB hb; clear hb; (try clear hi)) | ((with_reducible refine gate_dst (N := 16) rfl ?_); (try (refine gate_guard (by rfl) ?_; dsimp only)); refine Kd.R_lit (Kd.int .i64) _ 3 ?hg (N := 16) ?hd (xs := ([] : List Int)) (inner := []) (ok := fun _ => True) (okp := fun _ => True) ?hr ?hp (fun _ hk => hk) trivial (Below.refl _ _) (Nat.le_refl _) (by simp) ?_; (case hd | hg => rfl); (case hr => go_simp; done); (case hp => exact (Reps.none _ _)); rintro v706 w6 ho7 hb - -; (rw [← Ny705.out] at ho7); have HO707 := A_ (Kd.R_lower ho7 (below_size HB.out)); replace HB := bs_ HB hb; clear hb ho7) | ((with_reducible refine gate_builtin (b := .append) (xs := #[.tmp 16, .tmp 17]) rfl ?_); (try (refine gate_guard (by rfl) ?_; dsimp only)); at_builtin; refine Kd.R_append_rows (Kd.int .i64) (w0 := w) w.heap.size rfl (.tmp 16) (.tmp 17) 24 3 (.int .i64 0) 8 rfl Try.underlying24 info3 rfl (by decide) (by omega) v706 y705 l0 _ _ _ (fun _ => True) (fun _ => False) rfl rfl ?aO ?aR (fun _ _ h => h) (fun _ h => h.elim) ?aF ?aB ?aS ?aL ?_; (case aR => exact (Kd.C_below HR0.out HB.out)); (case aB => exact HB.out); (case aF => exact (fun _ _ => trivial)); (case aO => exact HO707.out); (case aS => exact (below_size HB.out)); (case aL => have := LMc4.out; omega); intro v709 w8 ho hb hg hat; rw [← Ny708.out] at ho; replace HB := A_ (hb); have HO710 := A_ (ho); clear HO707; clear ho hb hg hat))
   go_ret
   exact ⟨_, by rfl, HO710.out, HB.out⟩
  rw [if_neg c4] at H
  cases H
 rw [if_neg c3] at H
 have c3b0 : ((l0.length : Int) == 0) = false := beq_eq_false_iff_ne.mpr c3
 have c3b1 : ((l0.length : Int) != 0) = true := bne_iff_ne.mpr c3
 have c3b2 : ¬ (l0 = []) := fun h_ => c3 (by rw [h_]; rfl)
 by_cases c9 : t704 = 0
 ·rw [if_pos c9] at H
  cases H
 rw [if_neg c9] at H
 have c9b0 : (t704 == 0) = false := beq_eq_false_iff_ne.mpr c9
 have c9b1 : (t704 != 0) = true := bne_iff_ne.mpr c9
 by_cases c10 : ((l0.length : Int) % t704) = 0
 ·rw [if_pos c10] at H
  have c10b0 : (((l0.length : Int) % t704) == 0) = true := beq_iff_eq.mpr c10
  have c10b1 : (((l0.length : Int) % t704) != 0) = false := bne_eq_false_iff_eq.mpr c10
  clear c10; obtain ⟨y711, hy711⟩ := ex_ ((([] : List Int)) : List Int); replace H : (if 0 ≤ t704 then (if t704 ≤ (l0.length : Int) then (if y711.length + (l0.take (t704 : Int).toNat).length < 17592186044416 then (some (y711 ++ (l0.take (t704 : Int).toNat))) else (none)) else (none)) else (none)) = some r := by (have H2_ := (Option.bind_some _ _).symm.trans H; rw [hy711]; with_reducible exact H2_)
  have Ny711 := A_ hy711; clear hy711
  by_cases c11 : 0 ≤ t704
  ·rw [if_pos c11] at H; have c11b0 := eq_true c11; have c11b1 := decide_eq_true c11; clear c11
   by_cases c12 : t704 ≤ (l0.length : Int)
   ·rw [if_pos c12] at H; have c12b0 := eq_true c12; have c12b1 := decide_eq_true c12; clear c12
    by_cases c13 : y711.length + (l0.take (t704 : Int).toNat).length < 17592186044416
    ·rw [if_pos c13] at H; have LMc13 := A_ c13; clear c13; obtain ⟨y715, hy715⟩ := ex_ ((y711 ++ (l0.take (t704 : Int).toNat)) : List Int); replace H : (some y715) = some r := by (rw [hy715]; with_reducible exact H)
     have Ny715 := A_ hy715; clear hy715; obtain rfl := Option.some.inj H; go_enter Try.func18, Try.ntmps18
     go_wp2_with (first | ((with_reducible refine gc_ 12 rfl ?_); refine cL_ E12 5 rfl rfl rfl (spec_LeastPeriod.calls k _ _ l0 t704 _ (by repeat (first | exact HR0.out | (with_reducible refine Kd.C_alloc ?_ _) | (with_reducible refine Kd.C_drewN ?_ _) | (with_reducible refine Kd.C_drew ?_))) HC0.out A2.out) (by simp only [mA, mB, mC]; rfl) ?_; rintro e w14 ⟨rfl, hb⟩; refine ⟨_, rfl, ?_⟩; replace HB := bs_ HB hb; clear hb; (try clear hi)) | ((with_reducible refine gate_dst (N := 19) rfl ?_); (try (refine gate_guard (by rfl) ?_; dsimp only)); refine Kd.R_lit (Kd.int .i64) _ 3 ?hg (N := 19) ?hd (xs := ([] : List Int)) (inner := []) (ok := fun _ => True) (okp := fun _ => True) ?hr ?hp (fun _ hk => hk) trivial (Below.refl _ _) (Nat.le_refl _) (by simp) ?_; (case hd | hg => rfl); (case hr => go_simp; done); (case hp => exact (Reps.none _ _)); rintro v712 w15 ho16 hb - -; (rw [← Ny711.out] at ho16); have HO713 := A_ (Kd.R_lower ho16 (below_size HB.out)); replace HB := bs_ HB hb; clear hb ho16; obtain ⟨i017, hi017, _, hsz17, _⟩ := info_parts info3; obtain ⟨hcut17, hA17, hC17⟩ := print_take_of (P := Try.prog) (Value.int .i64) 0 24 3 .i64 Try.underlying24 hi017 hsz17 A0 c0 l0 t704 (od_ (by assumption)) (od_ (by assumption)) HC0.out; have HR714 := A_ (Kd.C_of_reads (h1 := fun _ => rfl) (hA17 _ (Kd.reads_of_C HR0.out))); have HC714 := A_ hC17; clear hA17 hC17 hi017 hsz17) | ((with_reducible refine gate_builtin (b := .append) (xs := #[.tmp 19, .tmp 22]) rfl ?_); (try (refine gate_guard (by rfl) ?_; dsimp only)); at_builtin; refine Kd.R_append_rows (Kd.int .i64) (w0 := w) w.heap.size rfl (.tmp 19) (.tmp 22) 24 3 (.int .i64 0) 8 rfl Try.underlying24 info3 rfl (by decide) (by omega) v712 y711 (l0.take (t704 : Int).toNat) _ _ _ (fun _ => True) (fun _ => False) rfl rfl ?aO ?aR (fun _ _ h => h) (fun _ h => h.elim) ?aF ?aB ?aS ?aL ?_; (case aR => first | (have h9_ := Kd.C_below HR714.out HB.out; rw [show (l0.take (t704 : Int).toNat).length = t704.toNat from (by rw [List.length_take]; have h_ : (t704 : Int) ≤ (l0.length : Int) := od_ (by assumption); omega)] at h9_; exact h9_) | (rw [← show (l0.take (t704 : Int).toNat).length = t704.toNat from (by rw [List.length_take]; have h_ : (t704 : Int) ≤ (l0.length : Int) := od_ (by first | (with_reducible assumption) | assumption); omega)]; exact (Kd.C_below HR714.out HB.out)) | (exact (Kd.C_below HR714.out HB.out))); (case aB => exact HB.out); (case aF => exact (fun _ _ => trivial)); (case aO => exact HO713.out); (case aS => exact (below_size HB.out)); (case aL => have := LMc13.out; have hlx_ := (show (l0.take (t704 : Int).toNat).length = t704.toNat from (by rw [List.length_take]; have h_ : (t704 : Int) ≤ (l0.length : Int) := od_ (by assumption); omega)); omega); intro v716 w18 ho hb hg hat; rw [← Ny715.out] at ho; replace HB := A_ (hb); have HO717 := A_ (ho); clear HO713; clear ho hb hg hat))
     go_ret
     exact ⟨_, by rfl, HO717.out, HB.out⟩
    rw [if_neg c13] at H
    cases H
   rw [if_neg c12] at H
   cases H
  rw [if_neg c11] at H
  cases H
 rw [if_neg c10] at H
 have c10b0 : (((l0.length : Int) % t704) == 0) = false := beq_eq_false_iff_ne.mpr c10
 have c10b1 : (((l0.length : Int) % t704) != 0) = true := bne_iff_ne.mpr c10
 obtain ⟨y718, hy718⟩ := ex_ ((([] : List Int)) : List Int); replace H : (if y718.length + l0.length < 17592186044416 then (some (y718 ++ l0)) else (none)) = some r := by (have H2_ := (Option.bind_some _ _).symm.trans H; rw [hy718]; with_reducible exact H2_)
 have Ny718 := A_ hy718; clear hy718
 by_cases c19 : y718.length + l0.length < 17592186044416
 ·rw [if_pos c19] at H; have LMc19 := A_ c19; clear c19; obtain ⟨y721, hy721⟩ := ex_ ((y718 ++ l0) : List Int); replace H : (some y721) = some r := by (rw [hy721]; with_reducible exact H)
  have Ny721 := A_ hy721; clear hy721; obtain rfl := Option.some.inj H; go_enter Try.func18, Try.ntmps18
  go_wp2_with (first | ((with_reducible refine gc_ 12 rfl ?_); refine cL_ E12 5 rfl rfl rfl (spec_LeastPeriod.calls k _ _ l0 t704 _ (by repeat (first | exact HR0.out | (with_reducible refine Kd.C_alloc ?_ _) | (with_reducible refine Kd.C_drewN ?_ _) | (with_reducible refine Kd.C_drew ?_))) HC0.out A2.out) (by simp only [mA, mB, mC]; rfl) ?_; rintro e w20 ⟨rfl, hb⟩; refine ⟨_, rfl, ?_⟩; replace HB := bs_ HB hb; clear hb; (try clear hi)) | ((with_reducible refine gate_dst (N := 16) rfl ?_); (try (refine gate_guard (by rfl) ?_; dsimp only)); refine Kd.R_lit (Kd.int .i64) _ 3 ?hg (N := 16) ?hd (xs := ([] : List Int)) (inner := []) (ok := fun _ => True) (okp := fun _ => True) ?hr ?hp (fun _ hk => hk) trivial (Below.refl _ _) (Nat.le_refl _) (by simp) ?_; (case hd | hg => rfl); (case hr => go_simp; done); (case hp => exact (Reps.none _ _)); rintro v719 w21 ho22 hb - -; (rw [← Ny718.out] at ho22); have HO720 := A_ (Kd.R_lower ho22 (below_size HB.out)); replace HB := bs_ HB hb; clear hb ho22) | ((with_reducible refine gate_builtin (b := .append) (xs := #[.tmp 16, .tmp 17]) rfl ?_); (try (refine gate_guard (by rfl) ?_; dsimp only)); at_builtin; refine Kd.R_append_rows (Kd.int .i64) (w0 := w) w.heap.size rfl (.tmp 16) (.tmp 17) 24 3 (.int .i64 0) 8 rfl Try.underlying24 info3 rfl (by decide) (by omega) v719 y718 l0 _ _ _ (fun _ => True) (fun _ => False) rfl rfl ?aO ?aR (fun _ _ h => h) (fun _ h => h.elim) ?aF ?aB ?aS ?aL ?_; (case aR => exact (Kd.C_below HR0.out HB.out)); (case aB => exact HB.out); (case aF => exact (fun _ _ => trivial)); (case aO => exact HO720.out); (case aS => exact (below_size HB.out)); (case aL => have := LMc19.out; omega); intro v722 w23 ho hb hg hat; rw [← Ny721.out] at ho; replace HB := A_ (hb); have HO723 := A_ (ho); clear HO720; clear ho hb hg hat))
  go_ret
  exact ⟨_, by rfl, HO723.out, HB.out⟩
 rw [if_neg c19] at H
 cases H

end Go.Proofs.Ytnhpbmagbajliaa.PFnBorders

