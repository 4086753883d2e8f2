/- Written by this session's own program (wip/myprint.py): the machine side of one law, some contracts of it typed by hand. -/
import Derived.Test.YtdcakddfibnllaaPFnFibonaccix0
import Derived.Test.YtdcakddfibnllaaPFnFibonaccix1
import Derived.Test.YtdcakddfibnllaaPFnFibonaccix3
import Derived.Test.YtdcakddfibnllaaPFnFibonaccix5
namespace Go.Proofs.Ytdcakddfibnllaa.PFnFibonacci
open Go.RowKit Go.Proofs.YtdcakddfibnllaaW.PrintWords Go.Proofs.YtdcakddfibnllaaW.PrintLast Go.Proofs.YtdcakddfibnllaaW.PrintMore
attribute [local go_sem] max2_int min2_int max_two min_two max_three min_three max_four min_four   -- for this text's walks alone
set_option linter.unusedVariables false
set_option maxHeartbeats 8000000
set_option maxRecDepth 100000
set_option linter.unusedSimpArgs false

/-! ### spec_FibonacciPrefix: function 18 -/
def spec_FibonacciPrefix.l0 : Nat → Int → List Int → Int → Option (List Int)
 | 0, _, _, _ => none
 | k + 1, x0, x3, x4 => if x4 < x0 then (if x0 ≤ 256 then ((spec_FibonacciLetter.f k x4).bind fun t211 => (if x3.length < 17592186044416 then (spec_FibonacciPrefix.l0 k x0 (x3 ++ [t211]) (wrap64 (x4 + 1))) else (none))) else (some x3)) else (some x3)
def spec_FibonacciPrefix.f (k : Nat) (a0 : Int) : Option (List Int) := spec_FibonacciPrefix.l0 k a0 (([] : List Int)) 0
theorem spec_FibonacciPrefix.mono_l : ∀ k, (∀ y0 y1 y2, LeO (spec_FibonacciPrefix.l0 k y0 y1 y2) (spec_FibonacciPrefix.l0 (k + 1) y0 y1 y2))
 | 0 => fun _ _ _ r h => by simp [spec_FibonacciPrefix.l0] at h
 | k + 1 => by
  have ih0 := spec_FibonacciPrefix.mono_l k
  ·intro y0 y1 y2
   unfold spec_FibonacciPrefix.l0
   with_reducible repeat' first | exact ih0 _ _ _ | exact spec_FibonacciLetter.mono _ _ | exact LeO.refl _ | exact LeO.none _ | refine LeO.ite ?_ ?_ | refine LeO.bind ?_ (fun _ => ?_)
theorem spec_FibonacciPrefix.mono : ∀ a0 k, LeO (spec_FibonacciPrefix.f k a0) (spec_FibonacciPrefix.f (k + 1) a0) := by
 intro a0 k
 have ih0 := spec_FibonacciPrefix.mono_l k
 unfold spec_FibonacciPrefix.f
 with_reducible repeat' first | exact ih0 _ _ _ | exact spec_FibonacciLetter.mono _ _ | exact LeO.refl _ | exact LeO.none _ | refine LeO.ite ?_ ?_ | refine LeO.bind ?_ (fun _ => ?_)
theorem spec_FibonacciPrefix.calls (k : Nat) (a0 : Int) (r : List Int) (w : World) (h : spec_FibonacciPrefix.f k a0 = some r) :
  Calls Try.prog 18 #[.int .i64 a0] w fun e w' => ∃ v0_ : Value, e = .returned (v0_) ∧ Kd.R (Kd.int .i64) 3 w' w.heap.size (fun _ => True) v0_ r ∧ Below w.heap.size w w' := by
 have HB := A_ (Below.refl w.heap.size w)
 unfold spec_FibonacciPrefix.f at h
 have H := h
 clear h
 obtain ⟨y208, hy208⟩ : ∃ y_ : List Int, y_ = (([] : List Int)) := ⟨_, rfl⟩
 replace H : (spec_FibonacciPrefix.l0 k a0 y208 0) = some r := by (rw [hy208]; with_reducible exact H)
 have Ny208 := A_ hy208
 clear hy208
 have H' := A_ H
 clear H
 go_enter Try.func18, Try.ntmps18
 go_wp2_with (first | ((with_reducible refine gate_dst (N := 5) rfl ?_); refine Kd.R_lit (Kd.int .i64) _ 3 ?hg (N := 5) ?hd (xs := ([] : List Int)) (inner := []) (ok := fun _ => True) (okp := fun _ => True) ?hr ?hp (fun _ hk => hk) trivial (Below.refl _ _) (Nat.le_refl _) (by simp) ?_; (case hd | hg => rfl); (case hr => go_simp; done); (case hp => exact (Reps.none _ _)); intro v209 w2 ho3 hb hg_ hnew_; clear hg_ hnew_; (first | rw [← Ny208.out] at ho3 | (simp only [Int.reduceToNat] at ho3; rw [← Ny208.out] at ho3)); have n0_ := A_ (Kd.R_lower ho3 (below_size HB.out)); have n1_ := A_ (below_step HB.out hb); clear HB; revert n0_ n1_; intro HO210 HB; clear hb ho3))
 go_loopg [3, 4] k (fun kq v3 v4 w' => ∃ (x3_1 : List Int) (x4_1 : Int), v4 = .int .i64 x4_1 ∧ Aside0 (spec_FibonacciPrefix.l0 kq a0 x3_1 x4_1 = some r) ∧ Aside0 (kq ≤ k) ∧ Aside0 (Kd.R (Kd.int .i64) 3 w' w.heap.size (fun _ => True) v3 x3_1) ∧ Aside0 (Below w.heap.size w w'))
 case atStart => exact ⟨(y208), (0), (by rfl), H', ⟨Nat.le_refl _⟩, ⟨HO210.out⟩, ⟨HB.out⟩⟩
 case round =>
  clear H'
  obtain ⟨x3_1, x4_1, rfl, HA, HK1, HO_3, HB⟩ := hrel
  cases gk with
  | zero => exact absurd HA.out (by simp [spec_FibonacciPrefix.l0])
  | succ k1 =>
   have H := HA.out
   clear HA
   simp only [spec_FibonacciPrefix.l0] at H
   by_cases c4 : x4_1 < a0
   ·rw [if_pos c4] at H
    have c4b0 : decide (x4_1 < a0) = true := decide_eq_true c4
    clear c4
    by_cases c5 : a0 ≤ 256
    ·rw [if_pos c5] at H
     have c5b0 : decide (a0 ≤ 256) = true := decide_eq_true c5
     clear c5
     replace H := Option.bind_eq_some_iff.mp H
     obtain ⟨t211, A60, H⟩ := H
     have A6 := A_ A60
     clear A60
     by_cases c7 : x3_1.length < 17592186044416
     ·rw [if_pos c7] at H
      have LMc7 := A_ c7
      clear c7
      obtain ⟨y212, hy212⟩ : ∃ y_ : List Int, y_ = (x3_1 ++ [t211]) := ⟨_, rfl⟩
      replace H : (spec_FibonacciPrefix.l0 k1 a0 y212 (wrap64 (x4_1 + 1))) = some r := by (rw [hy212]; with_reducible exact H)
      have Ny212 := A_ hy212
      clear hy212
      have H' := A_ H
      clear H
      go_wp2_with (first | ((with_reducible refine gate_callee (f := 12) rfl ?_); refine goesL_ (some 17) rfl rfl Try.func12 (by kernel_rfl) rfl #[.int .i64 x4_1] rfl (by (try simp only [mA, mB, mC]); first | done | rfl | (simp only [List.length_drop, List.length_take]; rfl)) ?_; (with_reducible refine (spec_FibonacciLetter.calls k1 x4_1 t211 _ A6.out).mono ?_); rintro e w8 ⟨rfl, hb⟩; refine ⟨_, rfl, ?_⟩; have n0_ := A_ (Kd.R_below HO_3.out hb); have n1_ := A_ (below_step HB.out hb); clear HO_3 HB; revert n0_ n1_; intro HO_3 HB; clear hb; (try clear hi)) | ((with_reducible refine gate_builtin (b := .append) (xs := #[.tmp 15, .tmp 18]) rfl ?_); at_builtin; refine Kd.R_append (Kd.int .i64) (w0 := w) w.heap.size rfl (.tmp 15) (.tmp 18) 24 3 (.int .i64 0) 8 rfl Try.underlying24 info3 rfl (by decide) (by omega) u3 x3_1 t211 [.int .i64 t211] (fun _ => True) (fun _ => False) rfl rfl ?aP (fun _ hk => hk.elim) ?aF ?aO ?aB ?aS ?aL ?_; (case aP => exact rfl); (case aB => exact HB.out); (case aF => exact (fun _ _ => trivial)); (case aO => exact HO_3.out); (case aS => exact (below_size HB.out)); (case aL => have := LMc7.out; omega); intro v213 w9 ho hb hg hat; rw [← Ny212.out] at ho; have n0_ := A_ (hb); have n1_ := A_ (ho); clear HB HO_3; revert n0_ n1_; intro HB HO214; clear ho hb hg hat))
      go_roundg k1
      case measure => have := HK1.out; omega
      case rel => exact ⟨(y212), (wrap64 (x4_1 + 1)), (by rfl), H', ⟨by have := HK1.out; omega⟩, ⟨HO214.out⟩, ⟨HB.out⟩⟩
     rw [if_neg c7] at H
     exact absurd H (by simp)
    rw [if_neg c5] at H
    have c5b0 : decide (a0 ≤ 256) = false := decide_eq_false c5
    clear c5
    obtain rfl := Option.some.inj H
    go_wp2
    go_ret
    exact ⟨_, by rfl, HO_3.out, HB.out⟩
   rw [if_neg c4] at H
   have c4b0 : decide (x4_1 < a0) = false := decide_eq_false c4
   clear c4
   obtain rfl := Option.some.inj H
   go_wp2
   go_ret
   exact ⟨_, by rfl, HO_3.out, HB.out⟩

/-! ### impl_FibonacciPrefix: function 19 -/
def impl_FibonacciPrefix.f (k : Nat) (a0 : Int) : Option (List Int) := if a0 < 1 then (some (([] : List Int))) else (if a0 > 256 then (some (([] : List Int))) else ((impl_fibonacciWord.f k a0).bind fun t221 => (some t221)))
theorem impl_FibonacciPrefix.mono : ∀ a0 k, LeO (impl_FibonacciPrefix.f k a0) (impl_FibonacciPrefix.f (k + 1) a0) := by
 intro a0 k
 unfold impl_FibonacciPrefix.f
 with_reducible repeat' first | exact impl_fibonacciWord.mono _ _ | exact LeO.refl _ | exact LeO.none _ | refine LeO.ite ?_ ?_ | refine LeO.bind ?_ (fun _ => ?_)
theorem impl_FibonacciPrefix.calls (k : Nat) (a0 : Int) (r : List Int) (w : World) (h : impl_FibonacciPrefix.f k a0 = some r) :
  Calls Try.prog 19 #[.int .i64 a0] w fun e w' => ∃ v0_ : Value, e = .returned (v0_) ∧ Kd.R (Kd.int .i64) 3 w' w.heap.size (fun _ => True) v0_ r ∧ Below w.heap.size w w' := by
 have HB := A_ (Below.refl w.heap.size w)
 unfold impl_FibonacciPrefix.f at h
 have H := h
 clear h
 by_cases c2 : a0 < 1
 ·rw [if_pos c2] at H
  have c2b0 : decide (a0 < 1) = true := decide_eq_true c2
  clear c2
  obtain ⟨y215, hy215⟩ : ∃ y_ : List Int, y_ = (([] : List Int)) := ⟨_, rfl⟩
  replace H : (some y215) = some r := by (rw [hy215]; with_reducible exact H)
  have Ny215 := A_ hy215
  clear hy215
  obtain rfl := Option.some.inj H
  go_enter Try.func19, Try.ntmps19
  go_wp2_with (first | ((with_reducible refine gate_dst (N := 9) rfl ?_); refine Kd.R_lit (Kd.int .i64) _ 3 ?hg (N := 9) ?hd (xs := ([] : List Int)) (inner := []) (ok := fun _ => True) (okp := fun _ => True) ?hr ?hp (fun _ hk => hk) trivial (Below.refl _ _) (Nat.le_refl _) (by simp) ?_; (case hd | hg => rfl); (case hr => go_simp; done); (case hp => exact (Reps.none _ _)); intro v216 w3 ho4 hb hg_ hnew_; clear hg_ hnew_; (first | rw [← Ny215.out] at ho4 | (simp only [Int.reduceToNat] at ho4; rw [← Ny215.out] at ho4)); have n0_ := A_ (Kd.R_lower ho4 (below_size HB.out)); have n1_ := A_ (below_step HB.out hb); clear HB; revert n0_ n1_; intro HO217 HB; clear hb ho4))
  go_ret
  exact ⟨_, by rfl, HO217.out, HB.out⟩
 rw [if_neg c2] at H
 have c2b0 : decide (a0 < 1) = false := decide_eq_false c2
 clear c2
 by_cases c5 : a0 > 256
 ·rw [if_pos c5] at H
  have c5b0 : decide (256 < a0) = true := decide_eq_true c5
  clear c5
  obtain ⟨y218, hy218⟩ : ∃ y_ : List Int, y_ = (([] : List Int)) := ⟨_, rfl⟩
  replace H : (some y218) = some r := by (rw [hy218]; with_reducible exact H)
  have Ny218 := A_ hy218
  clear hy218
  obtain rfl := Option.some.inj H
  go_enter Try.func19, Try.ntmps19
  go_wp2_with (first | ((with_reducible refine gate_dst (N := 9) rfl ?_); refine Kd.R_lit (Kd.int .i64) _ 3 ?hg (N := 9) ?hd (xs := ([] : List Int)) (inner := []) (ok := fun _ => True) (okp := fun _ => True) ?hr ?hp (fun _ hk => hk) trivial (Below.refl _ _) (Nat.le_refl _) (by simp) ?_; (case hd | hg => rfl); (case hr => go_simp; done); (case hp => exact (Reps.none _ _)); intro v219 w6 ho7 hb hg_ hnew_; clear hg_ hnew_; (first | rw [← Ny218.out] at ho7 | (simp only [Int.reduceToNat] at ho7; rw [← Ny218.out] at ho7)); have n0_ := A_ (Kd.R_lower ho7 (below_size HB.out)); have n1_ := A_ (below_step HB.out hb); clear HB; revert n0_ n1_; intro HO220 HB; clear hb ho7))
  go_ret
  exact ⟨_, by rfl, HO220.out, HB.out⟩
 rw [if_neg c5] at H
 have c5b0 : decide (256 < a0) = false := decide_eq_false c5
 clear c5
 replace H := Option.bind_eq_some_iff.mp H
 obtain ⟨t221, A80, H⟩ := H
 have A8 := A_ A80
 clear A80
 obtain rfl := Option.some.inj H
 go_enter Try.func19, Try.ntmps19
 go_wp2_with (first | ((with_reducible refine gate_callee (f := 63) rfl ?_); refine goesL_ (some 11) rfl rfl Try.func63 (by kernel_rfl) rfl #[.int .i64 a0] rfl (by (try simp only [mA, mB, mC]); first | done | rfl | (simp only [List.length_drop, List.length_take]; rfl)) ?_; (with_reducible refine (impl_fibonacciWord.calls k a0 t221 _ A8.out).mono ?_); rintro e w9 ⟨v222, rfl, ho0, hb⟩; refine ⟨_, rfl, ?_⟩; have n0_ := A_ (Kd.R_lower ho0 (below_size HB.out)); have n1_ := A_ (below_step HB.out hb); clear HB; revert n0_ n1_; intro HO223 HB; clear hb; (try clear ho0)))
 go_ret
 exact ⟨_, by rfl, HO223.out, HB.out⟩

/-! ### spec_IsColdPair: function 23 -/
def spec_IsColdPair.f (k : Nat) (a0 : Int) (a1 : Int) : Option (Bool) := if a0 > a1 then (if a1 < 0 then (some false) else (if a0 > 200 then (some false) else (if a1 = 0 then (if a0 = 0 then (some true) else ((spec_LowerWythoff.f k (wrap64 (a0 - a1))).bind fun t224 => (if t224 = a1 then (some (decide (a1 > 0))) else (some false)))) else ((spec_LowerWythoff.f k (wrap64 (a0 - a1))).bind fun t225 => (if t225 = a1 then (some (decide (a1 > 0))) else (some false)))))) else (if a0 < 0 then (some false) else (if a1 > 200 then (some false) else (if a0 = 0 then (if a1 = 0 then (some true) else ((spec_LowerWythoff.f k (wrap64 (a1 - a0))).bind fun t226 => (if t226 = a0 then (some (decide (a0 > 0))) else (some false)))) else ((spec_LowerWythoff.f k (wrap64 (a1 - a0))).bind fun t227 => (if t227 = a0 then (some (decide (a0 > 0))) else (some false))))))
theorem spec_IsColdPair.mono : ∀ a0 a1 k, LeO (spec_IsColdPair.f k a0 a1) (spec_IsColdPair.f (k + 1) a0 a1) := by
 intro a0 a1 k
 unfold spec_IsColdPair.f
 with_reducible repeat' first | exact spec_LowerWythoff.mono _ _ | exact LeO.refl _ | exact LeO.none _ | refine LeO.ite ?_ ?_ | refine LeO.bind ?_ (fun _ => ?_)
theorem spec_IsColdPair.calls (k : Nat) (a0 : Int) (a1 : Int) (r : Bool) (w : World) (h : spec_IsColdPair.f k a0 a1 = some r) :
  Calls Try.prog 23 #[.int .i64 a0, .int .i64 a1] w fun e w' => e = .returned (.bool r) ∧ Below w.heap.size w w' := by
 have HB := A_ (Below.refl w.heap.size w)
 unfold spec_IsColdPair.f at h
 have H := h
 clear h
 by_cases c3 : a0 > a1
 ·rw [if_pos c3] at H
  have c3b0 : decide (a1 < a0) = true := decide_eq_true c3
  clear c3
  by_cases c4 : a1 < 0
  ·rw [if_pos c4] at H
   have c4b0 : decide (a1 < 0) = true := decide_eq_true c4
   clear c4
   obtain rfl := Option.some.inj H
   go_enter Try.func23, Try.ntmps23
   go_wp2
   go_ret
   exact ⟨by rfl, HB.out⟩
  rw [if_neg c4] at H
  have c4b0 : decide (a1 < 0) = false := decide_eq_false c4
  clear c4
  by_cases c5 : a0 > 200
  ·rw [if_pos c5] at H
   have c5b0 : decide (200 < a0) = true := decide_eq_true c5
   clear c5
   obtain rfl := Option.some.inj H
   go_enter Try.func23, Try.ntmps23
   go_wp2
   go_ret
   exact ⟨by rfl, HB.out⟩
  rw [if_neg c5] at H
  have c5b0 : decide (200 < a0) = false := decide_eq_false c5
  clear c5
  by_cases c6 : a1 = 0
  ·rw [if_pos c6] at H
   have c6b0 : (a1 == 0) = true := beq_iff_eq.mpr c6
   have c6b1 : (a1 != 0) = false := bne_eq_false_iff_eq.mpr c6
   clear c6
   by_cases c7 : a0 = 0
   ·rw [if_pos c7] at H
    have c7b0 : (a0 == 0) = true := beq_iff_eq.mpr c7
    have c7b1 : (a0 != 0) = false := bne_eq_false_iff_eq.mpr c7
    clear c7
    obtain rfl := Option.some.inj H
    go_enter Try.func23, Try.ntmps23
    go_wp2
    go_ret
    exact ⟨by rfl, HB.out⟩
   rw [if_neg c7] at H
   have c7b0 : (a0 == 0) = false := beq_eq_false_iff_ne.mpr c7
   have c7b1 : (a0 != 0) = true := bne_iff_ne.mpr c7
   replace H := Option.bind_eq_some_iff.mp H
   obtain ⟨t224, A80, H⟩ := H
   have A8 := A_ A80
   clear A80
   by_cases c9 : t224 = a1
   ·rw [if_pos c9] at H
    have c9b0 : (t224 == a1) = true := beq_iff_eq.mpr c9
    have c9b1 : (t224 != a1) = false := bne_eq_false_iff_eq.mpr c9
    clear c9
    obtain rfl := Option.some.inj H
    go_enter Try.func23, Try.ntmps23
    go_wp2_with (first | (go_at_call 14; (with_reducible refine (spec_LowerWythoff.calls k (wrap64 (a0 - a1)) t224 _ A8.out).mono ?_); rintro e w10 ⟨rfl, hb⟩; have n0_ := A_ (below_step HB.out hb); clear HB; revert n0_; intro HB; clear hb; (try clear hi)))
    go_ret
    exact ⟨by rfl, HB.out⟩
   rw [if_neg c9] at H
   have c9b0 : (t224 == a1) = false := beq_eq_false_iff_ne.mpr c9
   have c9b1 : (t224 != a1) = true := bne_iff_ne.mpr c9
   obtain rfl := Option.some.inj H
   go_enter Try.func23, Try.ntmps23
   go_wp2_with (first | (go_at_call 14; (with_reducible refine (spec_LowerWythoff.calls k (wrap64 (a0 - a1)) t224 _ A8.out).mono ?_); rintro e w11 ⟨rfl, hb⟩; have n0_ := A_ (below_step HB.out hb); clear HB; revert n0_; intro HB; clear hb; (try clear hi)))
   go_ret
   exact ⟨by rfl, HB.out⟩
  rw [if_neg c6] at H
  have c6b0 : (a1 == 0) = false := beq_eq_false_iff_ne.mpr c6
  have c6b1 : (a1 != 0) = true := bne_iff_ne.mpr c6
  replace H := Option.bind_eq_some_iff.mp H
  obtain ⟨t225, A120, H⟩ := H
  have A12 := A_ A120
  clear A120
  by_cases c13 : t225 = a1
  ·rw [if_pos c13] at H
   have c13b0 : (t225 == a1) = true := beq_iff_eq.mpr c13
   have c13b1 : (t225 != a1) = false := bne_eq_false_iff_eq.mpr c13
   clear c13
   obtain rfl := Option.some.inj H
   go_enter Try.func23, Try.ntmps23
   go_wp2_with (first | (go_at_call 14; (with_reducible refine (spec_LowerWythoff.calls k (wrap64 (a0 - a1)) t225 _ A12.out).mono ?_); rintro e w14 ⟨rfl, hb⟩; have n0_ := A_ (below_step HB.out hb); clear HB; revert n0_; intro HB; clear hb; (try clear hi)))
   go_ret
   exact ⟨by rfl, HB.out⟩
  rw [if_neg c13] at H
  have c13b0 : (t225 == a1) = false := beq_eq_false_iff_ne.mpr c13
  have c13b1 : (t225 != a1) = true := bne_iff_ne.mpr c13
  obtain rfl := Option.some.inj H
  go_enter Try.func23, Try.ntmps23
  go_wp2_with (first | (go_at_call 14; (with_reducible refine (spec_LowerWythoff.calls k (wrap64 (a0 - a1)) t225 _ A12.out).mono ?_); rintro e w15 ⟨rfl, hb⟩; have n0_ := A_ (below_step HB.out hb); clear HB; revert n0_; intro HB; clear hb; (try clear hi)))
  go_ret
  exact ⟨by rfl, HB.out⟩
 rw [if_neg c3] at H
 have c3b0 : decide (a1 < a0) = false := decide_eq_false c3
 clear c3
 by_cases c16 : a0 < 0
 ·rw [if_pos c16] at H
  have c16b0 : decide (a0 < 0) = true := decide_eq_true c16
  clear c16
  obtain rfl := Option.some.inj H
  go_enter Try.func23, Try.ntmps23
  go_wp2
  go_ret
  exact ⟨by rfl, HB.out⟩
 rw [if_neg c16] at H
 have c16b0 : decide (a0 < 0) = false := decide_eq_false c16
 clear c16
 by_cases c17 : a1 > 200
 ·rw [if_pos c17] at H
  have c17b0 : decide (200 < a1) = true := decide_eq_true c17
  clear c17
  obtain rfl := Option.some.inj H
  go_enter Try.func23, Try.ntmps23
  go_wp2
  go_ret
  exact ⟨by rfl, HB.out⟩
 rw [if_neg c17] at H
 have c17b0 : decide (200 < a1) = false := decide_eq_false c17
 clear c17
 by_cases c18 : a0 = 0
 ·rw [if_pos c18] at H
  have c18b0 : (a0 == 0) = true := beq_iff_eq.mpr c18
  have c18b1 : (a0 != 0) = false := bne_eq_false_iff_eq.mpr c18
  clear c18
  by_cases c19 : a1 = 0
  ·rw [if_pos c19] at H
   have c19b0 : (a1 == 0) = true := beq_iff_eq.mpr c19
   have c19b1 : (a1 != 0) = false := bne_eq_false_iff_eq.mpr c19
   clear c19
   obtain rfl := Option.some.inj H
   go_enter Try.func23, Try.ntmps23
   go_wp2
   go_ret
   exact ⟨by rfl, HB.out⟩
  rw [if_neg c19] at H
  have c19b0 : (a1 == 0) = false := beq_eq_false_iff_ne.mpr c19
  have c19b1 : (a1 != 0) = true := bne_iff_ne.mpr c19
  replace H := Option.bind_eq_some_iff.mp H
  obtain ⟨t226, A200, H⟩ := H
  have A20 := A_ A200
  clear A200
  by_cases c21 : t226 = a0
  ·rw [if_pos c21] at H
   have c21b0 : (t226 == a0) = true := beq_iff_eq.mpr c21
   have c21b1 : (t226 != a0) = false := bne_eq_false_iff_eq.mpr c21
   clear c21
   obtain rfl := Option.some.inj H
   go_enter Try.func23, Try.ntmps23
   go_wp2_with (first | (go_at_call 14; (with_reducible refine (spec_LowerWythoff.calls k (wrap64 (a1 - a0)) t226 _ A20.out).mono ?_); rintro e w22 ⟨rfl, hb⟩; have n0_ := A_ (below_step HB.out hb); clear HB; revert n0_; intro HB; clear hb; (try clear hi)))
   go_ret
   exact ⟨by rfl, HB.out⟩
  rw [if_neg c21] at H
  have c21b0 : (t226 == a0) = false := beq_eq_false_iff_ne.mpr c21
  have c21b1 : (t226 != a0) = true := bne_iff_ne.mpr c21
  obtain rfl := Option.some.inj H
  go_enter Try.func23, Try.ntmps23
  go_wp2_with (first | (go_at_call 14; (with_reducible refine (spec_LowerWythoff.calls k (wrap64 (a1 - a0)) t226 _ A20.out).mono ?_); rintro e w23 ⟨rfl, hb⟩; have n0_ := A_ (below_step HB.out hb); clear HB; revert n0_; intro HB; clear hb; (try clear hi)))
  go_ret
  exact ⟨by rfl, HB.out⟩
 rw [if_neg c18] at H
 have c18b0 : (a0 == 0) = false := beq_eq_false_iff_ne.mpr c18
 have c18b1 : (a0 != 0) = true := bne_iff_ne.mpr c18
 replace H := Option.bind_eq_some_iff.mp H
 obtain ⟨t227, A240, H⟩ := H
 have A24 := A_ A240
 clear A240
 by_cases c25 : t227 = a0
 ·rw [if_pos c25] at H
  have c25b0 : (t227 == a0) = true := beq_iff_eq.mpr c25
  have c25b1 : (t227 != a0) = false := bne_eq_false_iff_eq.mpr c25
  clear c25
  obtain rfl := Option.some.inj H
  go_enter Try.func23, Try.ntmps23
  go_wp2_with (first | (go_at_call 14; (with_reducible refine (spec_LowerWythoff.calls k (wrap64 (a1 - a0)) t227 _ A24.out).mono ?_); rintro e w26 ⟨rfl, hb⟩; have n0_ := A_ (below_step HB.out hb); clear HB; revert n0_; intro HB; clear hb; (try clear hi)))
  go_ret
  exact ⟨by rfl, HB.out⟩
 rw [if_neg c25] at H
 have c25b0 : (t227 == a0) = false := beq_eq_false_iff_ne.mpr c25
 have c25b1 : (t227 != a0) = true := bne_iff_ne.mpr c25
 obtain rfl := Option.some.inj H
 go_enter Try.func23, Try.ntmps23
 go_wp2_with (first | (go_at_call 14; (with_reducible refine (spec_LowerWythoff.calls k (wrap64 (a1 - a0)) t227 _ A24.out).mono ?_); rintro e w27 ⟨rfl, hb⟩; have n0_ := A_ (below_step HB.out hb); clear HB; revert n0_; intro HB; clear hb; (try clear hi)))
 go_ret
 exact ⟨by rfl, HB.out⟩

/-! ### impl_IsColdPair: function 24 -/
def impl_IsColdPair.j0 : Nat → Int → Int → Bool → Option (Bool)
 | 0, _, _, _ => none
 | k + 1, x0, x1, x18 => if x18 = true then (some false) else (if (mn x0 x1) = 0 then (if (mx x0 x1) = 0 then (some true) else (if (mx x0 x1) > (mn x0 x1) then ((impl_LowerWythoff.f k (wrap64 ((mx x0 x1) - (mn x0 x1)))).bind fun t228 => (if (mn x0 x1) = t228 then ((impl_UpperWythoff.f k (wrap64 ((mx x0 x1) - (mn x0 x1)))).bind fun t229 => (some ((mx x0 x1) == t229))) else (some false))) else (some false))) else (if (mx x0 x1) > (mn x0 x1) then ((impl_LowerWythoff.f k (wrap64 ((mx x0 x1) - (mn x0 x1)))).bind fun t230 => (if (mn x0 x1) = t230 then ((impl_UpperWythoff.f k (wrap64 ((mx x0 x1) - (mn x0 x1)))).bind fun t231 => (some ((mx x0 x1) == t231))) else (some false))) else (some false)))
def impl_IsColdPair.f (k : Nat) (a0 : Int) (a1 : Int) : Option (Bool) := if a0 < 0 then (impl_IsColdPair.j0 k a0 a1 true) else (if a1 < 0 then (impl_IsColdPair.j0 k a0 a1 true) else (if a0 > 200 then (impl_IsColdPair.j0 k a0 a1 true) else (impl_IsColdPair.j0 k a0 a1 (decide (a1 > 200)))))
theorem impl_IsColdPair.mono_l : ∀ k, (∀ y0 y1 y2, LeO (impl_IsColdPair.j0 k y0 y1 y2) (impl_IsColdPair.j0 (k + 1) y0 y1 y2))
 | 0 => fun _ _ _ r h => by simp [impl_IsColdPair.j0] at h
 | k + 1 => by
  have ih0 := impl_IsColdPair.mono_l k
  ·intro y0 y1 y2
   unfold impl_IsColdPair.j0
   with_reducible repeat' first | exact ih0 _ _ _ | exact impl_LowerWythoff.mono _ _ | exact impl_UpperWythoff.mono _ _ | exact LeO.refl _ | exact LeO.none _ | refine LeO.ite ?_ ?_ | refine LeO.bind ?_ (fun _ => ?_)
theorem impl_IsColdPair.mono : ∀ a0 a1 k, LeO (impl_IsColdPair.f k a0 a1) (impl_IsColdPair.f (k + 1) a0 a1) := by
 intro a0 a1 k
 have ih0 := impl_IsColdPair.mono_l k
 unfold impl_IsColdPair.f
 with_reducible repeat' first | exact ih0 _ _ _ | exact impl_LowerWythoff.mono _ _ | exact impl_UpperWythoff.mono _ _ | exact LeO.refl _ | exact LeO.none _ | refine LeO.ite ?_ ?_ | refine LeO.bind ?_ (fun _ => ?_)
theorem impl_IsColdPair.calls (k : Nat) (a0 : Int) (a1 : Int) (r : Bool) (w : World) (h : impl_IsColdPair.f k a0 a1 = some r) :
  Calls Try.prog 24 #[.int .i64 a0, .int .i64 a1] w fun e w' => e = .returned (.bool r) ∧ Below w.heap.size w w' := by
 have HB := A_ (Below.refl w.heap.size w)
 unfold impl_IsColdPair.f at h
 have H := h
 clear h
 have HC3 := A_ H
 clear H
 go_enter Try.func24, Try.ntmps24
 go_upto_region 1 with (fail)
 go_cut [18] (fun v18 wc => ∃ (kq : Nat) (x18_2 : Bool), v18 = .bool x18_2 ∧ Aside0 (impl_IsColdPair.j0 kq a0 a1 x18_2 = some r) ∧ Aside0 (kq ≤ k) ∧ Aside0 (Below w.heap.size w wc))
 case first =>
  have H := HC3.out
  clear HC3
  by_cases c4 : a0 < 0
  ·rw [if_pos c4] at H
   have c4b0 : decide (a0 < 0) = true := decide_eq_true c4
   clear c4
   (first | rw [c4b0] | (simp only [i64_w, i32_w]; rw [c4b0]) | skip)
   have H' := A_ H
   clear H
   go_wp2
   go_meet
   case rel => exact ⟨_, (true), (by rfl), H', ⟨by first | omega | exact Nat.le_refl _⟩, ⟨HB.out⟩⟩
  rw [if_neg c4] at H
  have c4b0 : decide (a0 < 0) = false := decide_eq_false c4
  clear c4
  (first | rw [c4b0] | (simp only [i64_w, i32_w]; rw [c4b0]) | skip)
  by_cases c5 : a1 < 0
  ·rw [if_pos c5] at H
   have c5b0 : decide (a1 < 0) = true := decide_eq_true c5
   clear c5
   have H' := A_ H
   clear H
   go_wp2
   go_meet
   case rel => exact ⟨_, (true), (by rfl), H', ⟨by first | omega | exact Nat.le_refl _⟩, ⟨HB.out⟩⟩
  rw [if_neg c5] at H
  have c5b0 : decide (a1 < 0) = false := decide_eq_false c5
  clear c5
  by_cases c6 : a0 > 200
  ·rw [if_pos c6] at H
   have c6b0 : decide (200 < a0) = true := decide_eq_true c6
   clear c6
   have H' := A_ H
   clear H
   go_wp2
   go_meet
   case rel => exact ⟨_, (true), (by rfl), H', ⟨by first | omega | exact Nat.le_refl _⟩, ⟨HB.out⟩⟩
  rw [if_neg c6] at H
  have c6b0 : decide (200 < a0) = false := decide_eq_false c6
  clear c6
  have H' := A_ H
  clear H
  go_wp2
  go_meet
  case rel => exact ⟨_, (decide (a1 > 200)), (by rfl), H', ⟨by first | omega | exact Nat.le_refl _⟩, ⟨HB.out⟩⟩
 case rest =>
  clear HC3
  obtain ⟨kq, x18_2, rfl, HA, HJ2, HB⟩ := hcut
  cases kq with
  | zero => exact absurd HA.out (by simp [impl_IsColdPair.j0])
  | succ kj2 =>
   have H := HA.out
   clear HA
   simp only [impl_IsColdPair.j0] at H
   by_cases c7 : x18_2 = true
   ·subst c7
    rw [if_pos rfl] at H
    obtain rfl := Option.some.inj H
    go_wp2
    go_ret
    exact ⟨by rfl, HB.out⟩
   replace c7 := Bool.eq_false_iff.mpr c7
   subst c7
   rw [if_neg (show ¬ (false = true) by decide)] at H
   obtain ⟨ji8, hji8⟩ : ∃ j_ : Int, (mn a0 a1) = j_ := ⟨_, rfl⟩
   replace H : (if (ji8) = 0 then (if (mx a0 a1) = 0 then (some true) else (if (mx a0 a1) > (ji8) then ((impl_LowerWythoff.f kj2 (wrap64 ((mx a0 a1) - (ji8)))).bind fun t228 => (if (ji8) = t228 then ((impl_UpperWythoff.f kj2 (wrap64 ((mx a0 a1) - (ji8)))).bind fun t229 => (some ((mx a0 a1) == t229))) else (some false))) else (some false))) else (if (mx a0 a1) > (ji8) then ((impl_LowerWythoff.f kj2 (wrap64 ((mx a0 a1) - (ji8)))).bind fun t230 => (if (ji8) = t230 then ((impl_UpperWythoff.f kj2 (wrap64 ((mx a0 a1) - (ji8)))).bind fun t231 => (some ((mx a0 a1) == t231))) else (some false))) else (some false))) = some r := by first | (rw [hji8] at H; exact H) | (simp only [hji8] at H ⊢; exact H)
   have hji8_ : (if a1 < a0 then a1 else a0) = ji8 := hji8
   obtain ⟨ji9, hji9⟩ : ∃ j_ : Int, (mx a0 a1) = j_ := ⟨_, rfl⟩
   replace H : (if (ji8) = 0 then (if (ji9) = 0 then (some true) else (if (ji9) > (ji8) then ((impl_LowerWythoff.f kj2 (wrap64 ((ji9) - (ji8)))).bind fun t228 => (if (ji8) = t228 then ((impl_UpperWythoff.f kj2 (wrap64 ((ji9) - (ji8)))).bind fun t229 => (some ((ji9) == t229))) else (some false))) else (some false))) else (if (ji9) > (ji8) then ((impl_LowerWythoff.f kj2 (wrap64 ((ji9) - (ji8)))).bind fun t230 => (if (ji8) = t230 then ((impl_UpperWythoff.f kj2 (wrap64 ((ji9) - (ji8)))).bind fun t231 => (some ((ji9) == t231))) else (some false))) else (some false))) = some r := by first | (rw [hji9] at H; exact H) | (simp only [hji9] at H ⊢; exact H)
   have hji9_ : (if a0 < a1 then a1 else a0) = ji9 := hji9
   by_cases c10 : (ji8) = 0
   ·rw [if_pos c10] at H
    have c10b0 : ((ji8) == 0) = true := beq_iff_eq.mpr c10
    have c10b1 : ((ji8) != 0) = false := bne_eq_false_iff_eq.mpr c10
    clear c10
    by_cases c11 : (ji9) = 0
    ·rw [if_pos c11] at H
     have c11b0 : ((ji9) == 0) = true := beq_iff_eq.mpr c11
     have c11b1 : ((ji9) != 0) = false := bne_eq_false_iff_eq.mpr c11
     clear c11
     obtain rfl := Option.some.inj H
     go_wp2
     go_ret
     exact ⟨by first | rfl | (simp [errW_none, errW_some] <;> rfl) | (simp only [← hji8, ← hji9]; first | rfl | (simp [errW_none, errW_some] <;> rfl)) | (simp [*, errW_none, errW_some] <;> rfl), HB.out⟩
    rw [if_neg c11] at H
    have c11b0 : ((ji9) == 0) = false := beq_eq_false_iff_ne.mpr c11
    have c11b1 : ((ji9) != 0) = true := bne_iff_ne.mpr c11
    by_cases c12 : (ji9) > (ji8)
    ·rw [if_pos c12] at H
     have c12b0 : decide ((ji8) < (ji9)) = true := decide_eq_true c12
     clear c12
     replace H := Option.bind_eq_some_iff.mp H
     obtain ⟨t228, A130, H⟩ := H
     have A13 := A_ A130
     clear A130
     by_cases c14 : (ji8) = t228
     ·rw [if_pos c14] at H
      have c14b0 : ((ji8) == t228) = true := beq_iff_eq.mpr c14
      have c14b1 : ((ji8) != t228) = false := bne_eq_false_iff_eq.mpr c14
      clear c14
      replace H := Option.bind_eq_some_iff.mp H
      obtain ⟨t229, A150, H⟩ := H
      have A15 := A_ A150
      clear A150
      obtain rfl := Option.some.inj H
      go_wp2_with (first | (go_at_call 15; (with_reducible refine (impl_LowerWythoff.calls kj2 (wrap64 ((ji9) - (ji8))) t228 _ A13.out).mono ?_); rintro e w16 ⟨rfl, hb⟩; have n0_ := A_ (below_step HB.out hb); clear HB; revert n0_; intro HB; clear hb; (try clear hi)) | (go_at_call 17; (with_reducible refine (impl_UpperWythoff.calls kj2 (wrap64 ((ji9) - (ji8))) t229 _ A15.out).mono ?_); rintro e w17 ⟨rfl, hb⟩; have n0_ := A_ (below_step HB.out hb); clear HB; revert n0_; intro HB; clear hb; (try clear hi)))
      go_ret
      exact ⟨by first | rfl | (simp [errW_none, errW_some] <;> rfl) | (simp only [← hji8, ← hji9]; first | rfl | (simp [errW_none, errW_some] <;> rfl)) | (simp [*, errW_none, errW_some] <;> rfl), HB.out⟩
     rw [if_neg c14] at H
     have c14b0 : ((ji8) == t228) = false := beq_eq_false_iff_ne.mpr c14
     have c14b1 : ((ji8) != t228) = true := bne_iff_ne.mpr c14
     obtain rfl := Option.some.inj H
     go_wp2_with (first | (go_at_call 15; (with_reducible refine (impl_LowerWythoff.calls kj2 (wrap64 ((ji9) - (ji8))) t228 _ A13.out).mono ?_); rintro e w18 ⟨rfl, hb⟩; have n0_ := A_ (below_step HB.out hb); clear HB; revert n0_; intro HB; clear hb; (try clear hi)))
     go_ret
     exact ⟨by first | rfl | (simp [errW_none, errW_some] <;> rfl) | (simp only [← hji8, ← hji9]; first | rfl | (simp [errW_none, errW_some] <;> rfl)) | (simp [*, errW_none, errW_some] <;> rfl), HB.out⟩
    rw [if_neg c12] at H
    have c12b0 : decide ((ji8) < (ji9)) = false := decide_eq_false c12
    clear c12
    obtain rfl := Option.some.inj H
    go_wp2
    go_ret
    exact ⟨by first | rfl | (simp [errW_none, errW_some] <;> rfl) | (simp only [← hji8, ← hji9]; first | rfl | (simp [errW_none, errW_some] <;> rfl)) | (simp [*, errW_none, errW_some] <;> rfl), HB.out⟩
   rw [if_neg c10] at H
   have c10b0 : ((ji8) == 0) = false := beq_eq_false_iff_ne.mpr c10
   have c10b1 : ((ji8) != 0) = true := bne_iff_ne.mpr c10
   by_cases c19 : (ji9) > (ji8)
   ·rw [if_pos c19] at H
    have c19b0 : decide ((ji8) < (ji9)) = true := decide_eq_true c19
    clear c19
    replace H := Option.bind_eq_some_iff.mp H
    obtain ⟨t230, A200, H⟩ := H
    have A20 := A_ A200
    clear A200
    by_cases c21 : (ji8) = t230
    ·rw [if_pos c21] at H
     have c21b0 : ((ji8) == t230) = true := beq_iff_eq.mpr c21
     have c21b1 : ((ji8) != t230) = false := bne_eq_false_iff_eq.mpr c21
     clear c21
     replace H := Option.bind_eq_some_iff.mp H
     obtain ⟨t231, A220, H⟩ := H
     have A22 := A_ A220
     clear A220
     obtain rfl := Option.some.inj H
     go_wp2_with (first | (go_at_call 15; (with_reducible refine (impl_LowerWythoff.calls kj2 (wrap64 ((ji9) - (ji8))) t230 _ A20.out).mono ?_); rintro e w23 ⟨rfl, hb⟩; have n0_ := A_ (below_step HB.out hb); clear HB; revert n0_; intro HB; clear hb; (try clear hi)) | (go_at_call 17; (with_reducible refine (impl_UpperWythoff.calls kj2 (wrap64 ((ji9) - (ji8))) t231 _ A22.out).mono ?_); rintro e w24 ⟨rfl, hb⟩; have n0_ := A_ (below_step HB.out hb); clear HB; revert n0_; intro HB; clear hb; (try clear hi)))
     go_ret
     exact ⟨by first | rfl | (simp [errW_none, errW_some] <;> rfl) | (simp only [← hji8, ← hji9]; first | rfl | (simp [errW_none, errW_some] <;> rfl)) | (simp [*, errW_none, errW_some] <;> rfl), HB.out⟩
    rw [if_neg c21] at H
    have c21b0 : ((ji8) == t230) = false := beq_eq_false_iff_ne.mpr c21
    have c21b1 : ((ji8) != t230) = true := bne_iff_ne.mpr c21
    obtain rfl := Option.some.inj H
    go_wp2_with (first | (go_at_call 15; (with_reducible refine (impl_LowerWythoff.calls kj2 (wrap64 ((ji9) - (ji8))) t230 _ A20.out).mono ?_); rintro e w25 ⟨rfl, hb⟩; have n0_ := A_ (below_step HB.out hb); clear HB; revert n0_; intro HB; clear hb; (try clear hi)))
    go_ret
    exact ⟨by first | rfl | (simp [errW_none, errW_some] <;> rfl) | (simp only [← hji8, ← hji9]; first | rfl | (simp [errW_none, errW_some] <;> rfl)) | (simp [*, errW_none, errW_some] <;> rfl), HB.out⟩
   rw [if_neg c19] at H
   have c19b0 : decide ((ji8) < (ji9)) = false := decide_eq_false c19
   clear c19
   obtain rfl := Option.some.inj H
   go_wp2
   go_ret
   exact ⟨by first | rfl | (simp [errW_none, errW_some] <;> rfl) | (simp only [← hji8, ← hji9]; first | rfl | (simp [errW_none, errW_some] <;> rfl)) | (simp [*, errW_none, errW_some] <;> rfl), HB.out⟩

/-! ### laws_big: function 30 -/
def laws_big.f (l0 : List Int) : Option (Bool) := some (decide ((l0.length : Int) > 1048576))
theorem laws_big.calls (A0 : Option Addr) (c0 : Nat) (l0 : List Int) (r : Bool) (w : World) (hr0 : Kd.C (Kd.int .u8) w A0 l0.length l0) (hc0 : l0.length ≤ c0) (h : laws_big.f l0 = some r) :
  Calls Try.prog 30 #[.slice A0 l0.length c0] w fun e w' => e = .returned (.bool r) ∧ Drawn0 w w' := by
 have HR0 := A_ hr0
 have HC0 := A_ hc0
 clear hr0 hc0
 unfold laws_big.f at h
 have H := h
 clear h
 obtain rfl := Option.some.inj H
 go_enter Try.func30, Try.ntmps30
 go_wp2
 go_ret
 exact ⟨by rfl, by repeat (first | exact Drawn0.refl _ | apply Drawn0.step)⟩

/-! ### laws_sameInts: function 33 -/
def laws_sameInts.l0 : Nat → List Int → List Int → Int → Option (Bool)
 | 0, _, _, _ => none
 | k + 1, x0, x1, x5 => if x5 < (x0.length : Int) then (if 0 ≤ x5 then (if x5 < (x1.length : Int) then (if (rd x0 x5) = (rd x1 x5) then (laws_sameInts.l0 k x0 x1 (wrap64 (x5 + 1))) else (some false)) else (none)) else (none)) else (some true)
def laws_sameInts.f (k : Nat) (l0 : List Int) (l1 : List Int) : Option (Bool) := if (l0.length : Int) = (l1.length : Int) then (laws_sameInts.l0 k l0 l1 0) else (some false)
theorem laws_sameInts.mono_l : ∀ k, (∀ y0 y1 y2, LeO (laws_sameInts.l0 k y0 y1 y2) (laws_sameInts.l0 (k + 1) y0 y1 y2))
 | 0 => fun _ _ _ r h => by simp [laws_sameInts.l0] at h
 | k + 1 => by
  have ih0 := laws_sameInts.mono_l k
  ·intro y0 y1 y2
   unfold laws_sameInts.l0
   with_reducible repeat' first | exact ih0 _ _ _ | exact LeO.refl _ | exact LeO.none _ | refine LeO.ite ?_ ?_ | refine LeO.bind ?_ (fun _ => ?_)
theorem laws_sameInts.mono : ∀ a0 a1 k, LeO (laws_sameInts.f k a0 a1) (laws_sameInts.f (k + 1) a0 a1) := by
 intro a0 a1 k
 have ih0 := laws_sameInts.mono_l k
 unfold laws_sameInts.f
 with_reducible repeat' first | exact ih0 _ _ _ | exact LeO.refl _ | exact LeO.none _ | refine LeO.ite ?_ ?_ | refine LeO.bind ?_ (fun _ => ?_)
theorem laws_sameInts.calls (k : Nat) (A0 : Option Addr) (c0 : Nat) (l0 : List Int) (A1 : Option Addr) (c1 : Nat) (l1 : List Int) (r : Bool) (w : World) (hr0 : Kd.C (Kd.int .i64) w A0 l0.length l0) (hc0 : l0.length ≤ c0) (hr1 : Kd.C (Kd.int .i64) w A1 l1.length l1) (hc1 : l1.length ≤ c1) (h : laws_sameInts.f k l0 l1 = some r) :
  Calls Try.prog 33 #[.slice A0 l0.length c0, .slice A1 l1.length c1] w fun e w' => e = .returned (.bool r) ∧ Drawn0 w w' := by
 have HR0 := A_ hr0
 have HC0 := A_ hc0
 clear hr0 hc0
 have HR1 := A_ hr1
 have HC1 := A_ hc1
 clear hr1 hc1
 unfold laws_sameInts.f at h
 have H := h
 clear h
 by_cases c3 : (l0.length : Int) = (l1.length : Int)
 ·rw [if_pos c3] at H
  have c3b0 : ((l0.length : Int) == (l1.length : Int)) = true := beq_iff_eq.mpr c3
  have c3b1 : ((l0.length : Int) != (l1.length : Int)) = false := bne_eq_false_iff_eq.mpr c3
  have c3b2 : (l0.length == l1.length) = true := by first | simpa using c3 | (simp at c3 ⊢; omega)
  clear c3
  have H' := A_ H
  clear H
  go_enter Try.func33, Try.ntmps33
  go_wp2
  repeat (go_quiet (fail); try go_wp2)
  go_loopg [5] k (fun kq v5 w' => ∃ (x5_1 : Int), v5 = .int .i64 x5_1 ∧ Aside0 (laws_sameInts.l0 kq l0 l1 x5_1 = some r) ∧ Aside0 (kq ≤ k) ∧ Drawn0 w w')
  case atStart => exact ⟨(0), (by rfl), H', ⟨Nat.le_refl _⟩, by repeat (first | exact Drawn0.refl _ | apply Drawn0.step)⟩
  case round =>
   clear H'
   try clear c3b0
   try clear c3b1
   try clear c3b2
   obtain ⟨x5_1, rfl, HA, HK1, ⟨m1, rfl⟩⟩ := hrel
   cases gk with
   | zero => exact absurd HA.out (by simp [laws_sameInts.l0])
   | succ k1 =>
    have H := HA.out
    clear HA
    simp only [laws_sameInts.l0] at H
    by_cases c4 : x5_1 < (l0.length : Int)
    ·rw [if_pos c4] at H
     have c4b0 : decide (x5_1 < (l0.length : Int)) = true := decide_eq_true c4
     clear c4
     by_cases c5 : 0 ≤ x5_1
     ·rw [if_pos c5] at H
      have c5b0 : decide (0 ≤ x5_1) = true := decide_eq_true c5
      clear c5
      by_cases c6 : x5_1 < (l1.length : Int)
      ·rw [if_pos c6] at H
       have c6b0 : decide (x5_1 < (l1.length : Int)) = true := decide_eq_true c6
       clear c6
       by_cases c7 : (rd l0 x5_1) = (rd l1 x5_1)
       ·rw [if_pos c7] at H
        have c7b0 : ((rd l0 x5_1) == (rd l1 x5_1)) = true := beq_iff_eq.mpr c7
        have c7b1 : ((rd l0 x5_1) != (rd l1 x5_1)) = false := bne_eq_false_iff_eq.mpr c7
        clear c7
        have H' := A_ H
        clear H
        have p232 : 0 ≤ (x5_1 : Int) := of_decide_eq_true (by first | (with_reducible assumption) | assumption)
        have q232 : x5_1 < (l0.length : Int) := of_decide_eq_true (by first | (with_reducible assumption) | assumption)
        obtain ⟨ad232, e232, hx232_0⟩ := Kd.at_int HR0.out x5_1 p232 q232
        cases e232
        replace p232 := eq_true p232
        replace q232 := eq_true q232
        have p233 : 0 ≤ (x5_1 : Int) := of_decide_eq_true (by first | (with_reducible assumption) | assumption)
        have q233 : x5_1 < (l1.length : Int) := of_decide_eq_true (by first | (with_reducible assumption) | assumption)
        obtain ⟨ad233, e233, hx233_0⟩ := Kd.at_int HR1.out x5_1 p233 q233
        cases e233
        replace p233 := eq_true p233
        replace q233 := eq_true q233
        go_wp2
        repeat (go_quiet (fail); try go_wp2)
        go_roundg k1
        case measure => have := HK1.out; omega
        case rel => exact ⟨(wrap64 (x5_1 + 1)), (by rfl), H', ⟨by have := HK1.out; omega⟩, by repeat (first | exact Drawn0.refl _ | apply Drawn0.step)⟩
       rw [if_neg c7] at H
       have c7b0 : ((rd l0 x5_1) == (rd l1 x5_1)) = false := beq_eq_false_iff_ne.mpr c7
       have c7b1 : ((rd l0 x5_1) != (rd l1 x5_1)) = true := bne_iff_ne.mpr c7
       obtain rfl := Option.some.inj H
       have p232 : 0 ≤ (x5_1 : Int) := of_decide_eq_true (by first | (with_reducible assumption) | assumption)
       have q232 : x5_1 < (l0.length : Int) := of_decide_eq_true (by first | (with_reducible assumption) | assumption)
       obtain ⟨ad232, e232, hx232_0⟩ := Kd.at_int HR0.out x5_1 p232 q232
       cases e232
       replace p232 := eq_true p232
       replace q232 := eq_true q232
       have p233 : 0 ≤ (x5_1 : Int) := of_decide_eq_true (by first | (with_reducible assumption) | assumption)
       have q233 : x5_1 < (l1.length : Int) := of_decide_eq_true (by first | (with_reducible assumption) | assumption)
       obtain ⟨ad233, e233, hx233_0⟩ := Kd.at_int HR1.out x5_1 p233 q233
       cases e233
       replace p233 := eq_true p233
       replace q233 := eq_true q233
       go_wp2
       repeat (go_quiet (fail); try go_wp2)
       go_ret
       exact ⟨by rfl, by repeat (first | exact Drawn0.refl _ | apply Drawn0.step)⟩
      rw [if_neg c6] at H
      exact absurd H (by simp)
     rw [if_neg c5] at H
     exact absurd H (by simp)
    rw [if_neg c4] at H
    have c4b0 : decide (x5_1 < (l0.length : Int)) = false := decide_eq_false c4
    clear c4
    obtain rfl := Option.some.inj H
    go_wp2
    repeat (go_quiet (fail); try go_wp2)
    go_ret
    exact ⟨by rfl, by repeat (first | exact Drawn0.refl _ | apply Drawn0.step)⟩
 rw [if_neg c3] at H
 have c3b0 : ((l0.length : Int) == (l1.length : Int)) = false := beq_eq_false_iff_ne.mpr c3
 have c3b1 : ((l0.length : Int) != (l1.length : Int)) = true := bne_iff_ne.mpr c3
 have c3b2 : (l0.length == l1.length) = false := by first | simpa using c3 | (simp at c3 ⊢; omega)
 obtain rfl := Option.some.inj H
 go_enter Try.func33, Try.ntmps33
 go_wp2
 repeat (go_quiet (fail); try go_wp2)
 go_ret
 exact ⟨by rfl, by repeat (first | exact Drawn0.refl _ | apply Drawn0.step)⟩

end Go.Proofs.Ytdcakddfibnllaa.PFnFibonacci
