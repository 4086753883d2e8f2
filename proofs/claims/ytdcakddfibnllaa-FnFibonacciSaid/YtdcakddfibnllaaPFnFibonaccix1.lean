/- Written by this session's own program (wip/myprint.py): the machine side of one law, some contracts of it typed by hand. -/
import Derived.Test.YtdcakddfibnllaaPFnFibonaccix0
namespace Go.Proofs.Ytdcakddfibnllaa.PFnFibonacci
open Go.RowKit Go.Proofs.YtdcakddfibnllaaW.PrintWords Go.Proofs.YtdcakddfibnllaaW.PrintLast Go.Proofs.YtdcakddfibnllaaW.PrintMore
attribute [local go_sem] max2_int min2_int max_two min_two max_three min_three max_four min_four   -- for this text's walks alone
set_option linter.unusedVariables false
set_option maxHeartbeats 8000000
set_option maxRecDepth 100000
set_option linter.unusedSimpArgs false

/-! ### spec_l1In: function 62 -/
def spec_l1In.f (a0 : Int) (a1 : Int) (a2 : Int) : Option (Bool) := if a0 ≥ a1 then (some (decide (a0 ≤ a2))) else (some false)
theorem spec_l1In.calls (a0 : Int) (a1 : Int) (a2 : Int) (r : Bool) (w : World) (h : spec_l1In.f a0 a1 a2 = some r) :
  Calls Try.prog 62 #[.int .i64 a0, .int .i64 a1, .int .i64 a2] w fun e w' => e = .returned (.bool r) ∧ Drawn0 w w' := by
 unfold spec_l1In.f at h
 have H := h
 clear h
 by_cases c4 : a0 ≥ a1
 ·rw [if_pos c4] at H
  have c4b0 : decide (a1 ≤ a0) = true := decide_eq_true c4
  clear c4
  obtain rfl := Option.some.inj H
  go_enter Try.func62, Try.ntmps62
  go_wp2
  go_ret
  exact ⟨by rfl, by repeat (first | exact Drawn0.refl _ | apply Drawn0.step)⟩
 rw [if_neg c4] at H
 have c4b0 : decide (a1 ≤ a0) = false := decide_eq_false c4
 clear c4
 obtain rfl := Option.some.inj H
 go_enter Try.func62, Try.ntmps62
 go_wp2
 go_ret
 exact ⟨by rfl, by repeat (first | exact Drawn0.refl _ | apply Drawn0.step)⟩

/-! ### spec_FibonacciNumber: function 37 -/
def spec_FibonacciNumber.l0 : Nat → Int → Int → Int → Int → Option (Int)
 | 0, _, _, _, _ => none
 | k + 1, x0, x3, x4, x5 => if x5 < x0 then (spec_FibonacciNumber.l0 k x0 x4 (wrap64 (x3 + x4)) (wrap64 (x5 + 1))) else (some x3)
def spec_FibonacciNumber.f (k : Nat) (a0 : Int) : Option (Int) := (spec_l1In.f a0 0 40).bind fun t101 => (if t101 = true then (spec_FibonacciNumber.l0 k a0 1 2 0) else (some 0))
theorem spec_FibonacciNumber.mono_l : ∀ k, (∀ y0 y1 y2 y3, LeO (spec_FibonacciNumber.l0 k y0 y1 y2 y3) (spec_FibonacciNumber.l0 (k + 1) y0 y1 y2 y3))
 | 0 => fun _ _ _ _ r h => by simp [spec_FibonacciNumber.l0] at h
 | k + 1 => by
  have ih0 := spec_FibonacciNumber.mono_l k
  ·intro y0 y1 y2 y3
   unfold spec_FibonacciNumber.l0
   with_reducible repeat' first | exact ih0 _ _ _ _ | exact LeO.refl _ | exact LeO.none _ | refine LeO.ite ?_ ?_ | refine LeO.bind ?_ (fun _ => ?_)
theorem spec_FibonacciNumber.mono : ∀ a0 k, LeO (spec_FibonacciNumber.f k a0) (spec_FibonacciNumber.f (k + 1) a0) := by
 intro a0 k
 have ih0 := spec_FibonacciNumber.mono_l k
 unfold spec_FibonacciNumber.f
 with_reducible repeat' first | exact ih0 _ _ _ _ | exact LeO.refl _ | exact LeO.none _ | refine LeO.ite ?_ ?_ | refine LeO.bind ?_ (fun _ => ?_)
theorem spec_FibonacciNumber.calls (k : Nat) (a0 : Int) (r : Int) (w : World) (h : spec_FibonacciNumber.f k a0 = some r) :
  Calls Try.prog 37 #[.int .i64 a0] w fun e w' => e = .returned (.int .i64 r) ∧ Drawn0 w w' := by
 unfold spec_FibonacciNumber.f at h
 have H := h
 clear h
 replace H := Option.bind_eq_some_iff.mp H
 obtain ⟨t101, A20, H⟩ := H
 have A2 := A_ A20
 clear A20
 by_cases c3 : t101 = true
 ·subst c3
  rw [if_pos rfl] at H
  have H' := A_ H
  clear H
  go_enter Try.func37, Try.ntmps37
  go_wp2_with (first | ((with_reducible refine gate_callee (f := 62) rfl ?_); refine goesL_ (some 8) rfl rfl Try.func62 (by kernel_rfl) rfl #[.int .i64 a0, .int .i64 0, .int .i64 40] rfl (by (try simp only [mA, mB, mC]); first | done | rfl | (simp only [List.length_drop, List.length_take]; rfl)) ?_; (with_reducible refine (spec_l1In.calls a0 0 40 true _ A2.out).mono ?_); rintro e w' ⟨rfl, ⟨nd, rfl⟩⟩; refine ⟨_, rfl, ?_⟩))
  go_loopg [3, 4, 5] k (fun kq v3 v4 v5 w' => ∃ (x3_1 : Int) (x4_1 : Int) (x5_1 : Int), v3 = .int .i64 x3_1 ∧ v4 = .int .i64 x4_1 ∧ v5 = .int .i64 x5_1 ∧ Aside0 (spec_FibonacciNumber.l0 kq a0 x3_1 x4_1 x5_1 = some r) ∧ Aside0 (kq ≤ k) ∧ Drawn0 w w')
  case atStart => exact ⟨(1), (2), (0), (by rfl), (by rfl), (by rfl), H', ⟨Nat.le_refl _⟩, by repeat (first | exact Drawn0.refl _ | apply Drawn0.step)⟩
  case round =>
   clear H'
   obtain ⟨x3_1, x4_1, x5_1, rfl, rfl, rfl, HA, HK1, ⟨m1, rfl⟩⟩ := hrel
   cases gk with
   | zero => exact absurd HA.out (by simp [spec_FibonacciNumber.l0])
   | succ k1 =>
    have H := HA.out
    clear HA
    simp only [spec_FibonacciNumber.l0] at H
    by_cases c4 : x5_1 < a0
    ·rw [if_pos c4] at H
     have c4b0 : decide (x5_1 < a0) = true := decide_eq_true c4
     clear c4
     have H' := A_ H
     clear H
     go_wp2
     go_roundg k1
     case measure => have := HK1.out; omega
     case rel => exact ⟨(x4_1), (wrap64 (x3_1 + x4_1)), (wrap64 (x5_1 + 1)), (by rfl), (by rfl), (by rfl), H', ⟨by have := HK1.out; omega⟩, by repeat (first | exact Drawn0.refl _ | apply Drawn0.step)⟩
    rw [if_neg c4] at H
    have c4b0 : decide (x5_1 < a0) = false := decide_eq_false c4
    clear c4
    obtain rfl := Option.some.inj H
    go_wp2
    go_ret
    exact ⟨by rfl, by repeat (first | exact Drawn0.refl _ | apply Drawn0.step)⟩
 replace c3 := Bool.eq_false_iff.mpr c3
 subst c3
 rw [if_neg (show ¬ (false = true) by decide)] at H
 obtain rfl := Option.some.inj H
 go_enter Try.func37, Try.ntmps37
 go_wp2_with (first | ((with_reducible refine gate_callee (f := 62) rfl ?_); refine goesL_ (some 8) rfl rfl Try.func62 (by kernel_rfl) rfl #[.int .i64 a0, .int .i64 0, .int .i64 40] rfl (by (try simp only [mA, mB, mC]); first | done | rfl | (simp only [List.length_drop, List.length_take]; rfl)) ?_; (with_reducible refine (spec_l1In.calls a0 0 40 false _ A2.out).mono ?_); rintro e w' ⟨rfl, ⟨nd, rfl⟩⟩; refine ⟨_, rfl, ?_⟩))
 go_ret
 exact ⟨by rfl, by repeat (first | exact Drawn0.refl _ | apply Drawn0.step)⟩

/-! ### spec_ZeckendorfOf: function 34 -/
mutual
def spec_ZeckendorfOf.j0 : Nat → Int → List Int → Bool → Option (List Int)
 | 0, _, _, _ => none
 | k + 1, x0, x3, x12 => if x12 = true then (some x3) else (spec_ZeckendorfOf.l0 k x0 x3 39)
def spec_ZeckendorfOf.l0 : Nat → Int → List Int → Int → Option (List Int)
 | 0, _, _, _ => none
 | k + 1, x0, x3, x4 => if x4 ≥ 0 then ((spec_FibonacciNumber.f k x4).bind fun t106 => (if x0 ≥ t106 then ((spec_FibonacciNumber.f k x4).bind fun t107 => (if x3.length < 17592186044416 then (spec_ZeckendorfOf.l0 k (wrap64 (x0 - t107)) (x3 ++ [1]) (wrap64 (x4 - 1))) else (none))) else (if (x3.length : Int) > 0 then (if x3.length < 17592186044416 then (spec_ZeckendorfOf.l0 k x0 (x3 ++ [0]) (wrap64 (x4 - 1))) else (none)) else (spec_ZeckendorfOf.l0 k x0 x3 (wrap64 (x4 - 1)))))) else (some x3)
end
def spec_ZeckendorfOf.f (k : Nat) (a0 : Int) : Option (List Int) := (some (([] : List Int) : List Int)).bind fun y102 => (if a0 < 0 then (spec_ZeckendorfOf.j0 k a0 y102 true) else ((spec_FibonacciNumber.f k 40).bind fun t105 => (spec_ZeckendorfOf.j0 k a0 y102 (decide (a0 ≥ t105)))))
theorem spec_ZeckendorfOf.mono_l : ∀ k, (∀ y0 y1 y2, LeO (spec_ZeckendorfOf.j0 k y0 y1 y2) (spec_ZeckendorfOf.j0 (k + 1) y0 y1 y2)) ∧ (∀ y0 y1 y2, LeO (spec_ZeckendorfOf.l0 k y0 y1 y2) (spec_ZeckendorfOf.l0 (k + 1) y0 y1 y2))
 | 0 => ⟨fun _ _ _ r h => by simp [spec_ZeckendorfOf.j0] at h, fun _ _ _ r h => by simp [spec_ZeckendorfOf.l0] at h⟩
 | k + 1 => by
  obtain ⟨ih0, ih1⟩ := spec_ZeckendorfOf.mono_l k
  refine ⟨?_, ?_⟩
  ·intro y0 y1 y2
   unfold spec_ZeckendorfOf.j0
   with_reducible repeat' first | exact ih0 _ _ _ | exact ih1 _ _ _ | exact spec_FibonacciNumber.mono _ _ | exact LeO.refl _ | exact LeO.none _ | refine LeO.ite ?_ ?_ | refine LeO.bind ?_ (fun _ => ?_)
  intro y0 y1 y2
  unfold spec_ZeckendorfOf.l0
  with_reducible repeat' first | exact ih0 _ _ _ | exact ih1 _ _ _ | exact spec_FibonacciNumber.mono _ _ | exact LeO.refl _ | exact LeO.none _ | refine LeO.ite ?_ ?_ | refine LeO.bind ?_ (fun _ => ?_)
theorem spec_ZeckendorfOf.mono : ∀ a0 k, LeO (spec_ZeckendorfOf.f k a0) (spec_ZeckendorfOf.f (k + 1) a0) := by
 intro a0 k
 obtain ⟨ih0, ih1⟩ := spec_ZeckendorfOf.mono_l k
 unfold spec_ZeckendorfOf.f
 with_reducible repeat' first | exact ih0 _ _ _ | exact ih1 _ _ _ | exact spec_FibonacciNumber.mono _ _ | exact LeO.refl _ | exact LeO.none _ | refine LeO.ite ?_ ?_ | refine LeO.bind ?_ (fun _ => ?_)
theorem spec_ZeckendorfOf.calls (k : Nat) (a0 : Int) (r : List Int) (w : World) (h : spec_ZeckendorfOf.f k a0 = some r) :
  Calls Try.prog 34 #[.int .i64 a0] w fun e w' => ∃ v0_ : Value, e = .returned (v0_) ∧ Kd.R (Kd.int .i64) 3 w' w.heap.size (fun _ => True) v0_ r ∧ Below w.heap.size w w' := by
 have HB := A_ (Below.refl w.heap.size w)
 unfold spec_ZeckendorfOf.f at h
 have H := h
 clear h
 obtain ⟨y102, hy102⟩ : ∃ y_ : List Int, y_ = (([] : List Int)) := ⟨_, rfl⟩
 replace H : (if a0 < 0 then (spec_ZeckendorfOf.j0 k a0 y102 true) else ((spec_FibonacciNumber.f k 40).bind fun t105 => (spec_ZeckendorfOf.j0 k a0 y102 (decide (a0 ≥ t105))))) = some r := by (have H2_ := (Option.bind_some _ _).symm.trans H; rw [hy102]; with_reducible exact H2_)
 have Ny102 := A_ hy102
 clear hy102
 have HC2 := A_ H
 clear H
 go_enter Try.func34, Try.ntmps34
 go_upto_region 2 with (first | ((with_reducible refine gate_dst (N := 5) rfl ?_); refine Kd.R_lit (Kd.int .i64) _ 3 ?hg (N := 5) ?hd (xs := ([] : List Int)) (inner := []) (ok := fun _ => True) (okp := fun _ => True) ?hr ?hp (fun _ hk => hk) trivial (Below.refl _ _) (Nat.le_refl _) (by simp) ?_; (case hd | hg => rfl); (case hr => go_simp; done); (case hp => exact (Reps.none _ _)); intro v103 w3 ho4 hb hg_ hnew_; clear hg_ hnew_; (first | rw [← Ny102.out] at ho4 | (simp only [Int.reduceToNat] at ho4; rw [← Ny102.out] at ho4)); have n0_ := A_ (Kd.R_lower ho4 (below_size HB.out)); have n1_ := A_ (below_step HB.out hb); clear HB; revert n0_ n1_; intro HO104 HB; clear hb ho4))
 (try simp only [Act.put, mD, mE, mF])
 go_cut [12] (fun v12 wc => ∃ (kq : Nat) (x12_1 : Bool), v12 = .bool x12_1 ∧ Aside0 (spec_ZeckendorfOf.j0 kq a0 y102 x12_1 = some r) ∧ Aside0 (kq ≤ k) ∧ Aside0 (Kd.R (Kd.int .i64) 3 wc w.heap.size (fun _ => True) v103 y102) ∧ Aside0 (Below w.heap.size w wc))
 case first =>
  have H := HC2.out
  clear HC2
  by_cases c5 : a0 < 0
  ·rw [if_pos c5] at H
   have c5b0 : decide (a0 < 0) = true := decide_eq_true c5
   clear c5
   (first | rw [c5b0] | (simp only [i64_w, i32_w]; rw [c5b0]) | skip)
   have H' := A_ H
   clear H
   go_wp2
   go_meet
   case rel => exact ⟨_, (true), (by rfl), H', ⟨by first | omega | exact Nat.le_refl _⟩, ⟨HO104.out⟩, ⟨HB.out⟩⟩
  rw [if_neg c5] at H
  have c5b0 : decide (a0 < 0) = false := decide_eq_false c5
  clear c5
  (first | rw [c5b0] | (simp only [i64_w, i32_w]; rw [c5b0]) | skip)
  replace H := Option.bind_eq_some_iff.mp H
  obtain ⟨t105, A60, H⟩ := H
  have A6 := A_ A60
  clear A60
  have H' := A_ H
  clear H
  go_wp2_with (first | (go_at_call 37; (with_reducible refine (spec_FibonacciNumber.calls k 40 t105 _ A6.out).mono ?_); rintro e w' ⟨rfl, ⟨nd, rfl⟩⟩))
  go_meet
  case rel => exact ⟨_, (decide (a0 ≥ t105)), (by rfl), H', ⟨by first | omega | exact Nat.le_refl _⟩, ⟨by (with_reducible repeat (first | apply Kd.R_alloc | apply Kd.R_drewN | apply Kd.R_drew)); exact HO104.out⟩, ⟨by repeat (first | (with_reducible first | exact HB.out | apply below_alloc | apply pw_below_drewN | apply below_drew1) | exact HB.out)⟩⟩
 case rest =>
  clear HC2
  obtain ⟨kq, x12_1, rfl, HA, HJ1, HO_3, HB⟩ := hcut
  cases kq with
  | zero => exact absurd HA.out (by simp [spec_ZeckendorfOf.j0])
  | succ kj1 =>
   have H := HA.out
   clear HA
   simp only [spec_ZeckendorfOf.j0] at H
   by_cases c7 : x12_1 = true
   ·subst c7
    rw [if_pos rfl] at H
    obtain rfl := Option.some.inj H
    go_wp2
    go_ret
    exact ⟨_, by rfl, HO_3.out, HB.out⟩
   replace c7 := Bool.eq_false_iff.mpr c7
   subst c7
   rw [if_neg (show ¬ (false = true) by decide)] at H
   have H' := A_ H
   clear H
   go_wp2
   go_loopg [0, 3, 4] kj1 (fun kq v0 v3 v4 w' => ∃ (x0_2 : Int) (x3_2 : List Int) (x4_2 : Int), v0 = .int .i64 x0_2 ∧ v4 = .int .i64 x4_2 ∧ Aside0 (spec_ZeckendorfOf.l0 kq x0_2 x3_2 x4_2 = some r) ∧ Aside0 (kq ≤ kj1) ∧ Aside0 (Kd.R (Kd.int .i64) 3 w' w.heap.size (fun _ => True) v3 x3_2) ∧ Aside0 (Below w.heap.size w w'))
   case atStart => exact ⟨(a0), (y102), (39), (by rfl), (by rfl), H', ⟨Nat.le_refl _⟩, ⟨HO_3.out⟩, ⟨HB.out⟩⟩
   case round =>
    clear H'
    obtain ⟨x0_2, x3_2, x4_2, rfl, rfl, HA, HK2, HO_3, HB⟩ := hrel
    cases gk with
    | zero => exact absurd HA.out (by simp [spec_ZeckendorfOf.l0])
    | succ k2 =>
     have H := HA.out
     clear HA
     simp only [spec_ZeckendorfOf.l0] at H
     by_cases c8 : x4_2 ≥ 0
     ·rw [if_pos c8] at H
      have c8b0 : decide (0 ≤ x4_2) = true := decide_eq_true c8
      clear c8
      replace H := Option.bind_eq_some_iff.mp H
      obtain ⟨t106, A90, H⟩ := H
      have A9 := A_ A90
      clear A90
      by_cases c10 : x0_2 ≥ t106
      ·rw [if_pos c10] at H
       have c10b0 : decide (t106 ≤ x0_2) = true := decide_eq_true c10
       clear c10
       replace H := Option.bind_eq_some_iff.mp H
       obtain ⟨t107, A110, H⟩ := H
       have A11 := A_ A110
       clear A110
       by_cases c12 : x3_2.length < 17592186044416
       ·rw [if_pos c12] at H
        have LMc12 := A_ c12
        clear c12
        obtain ⟨y108, hy108⟩ : ∃ y_ : List Int, y_ = (x3_2 ++ [1]) := ⟨_, rfl⟩
        replace H : (spec_ZeckendorfOf.l0 k2 (wrap64 (x0_2 - t107)) y108 (wrap64 (x4_2 - 1))) = some r := by (rw [hy108]; with_reducible exact H)
        have Ny108 := A_ hy108
        clear hy108
        have H' := A_ H
        clear H
        go_wp2_with (first | ((with_reducible refine gate_callee (f := 37) rfl ?_); refine goesL_ (some 20) rfl rfl Try.func37 (by kernel_rfl) rfl #[.int .i64 x4_2] rfl (by (try simp only [mA, mB, mC]); first | done | rfl | (simp only [List.length_drop, List.length_take]; rfl)) ?_; (with_reducible refine (spec_FibonacciNumber.calls k2 x4_2 t106 _ A9.out).mono ?_); rintro e w' ⟨rfl, ⟨nd, rfl⟩⟩; refine ⟨_, rfl, ?_⟩) | ((with_reducible refine gate_callee (f := 37) rfl ?_); refine goesL_ (some 24) rfl rfl Try.func37 (by kernel_rfl) rfl #[.int .i64 x4_2] rfl (by (try simp only [mA, mB, mC]); first | done | rfl | (simp only [List.length_drop, List.length_take]; rfl)) ?_; (with_reducible refine (spec_FibonacciNumber.calls k2 x4_2 t107 _ A11.out).mono ?_); rintro e w' ⟨rfl, ⟨nd, rfl⟩⟩; refine ⟨_, rfl, ?_⟩) | ((with_reducible refine gate_builtin (b := .append) (xs := #[.tmp 26, .tmp 27]) rfl ?_); at_builtin; refine Kd.R_append (Kd.int .i64) (w0 := w) w.heap.size rfl (.tmp 26) (.tmp 27) 24 3 (.int .i64 0) 8 rfl Try.underlying24 info3 rfl (by decide) (by omega) u3 x3_2 1 [.int .i64 1] (fun _ => True) (fun _ => False) rfl rfl ?aP (fun _ hk => hk.elim) ?aF ?aO ?aB ?aS ?aL ?_; (case aP => exact rfl); (case aB => exact (by repeat (first | (with_reducible first | exact HB.out | apply below_alloc | apply pw_below_drewN | apply below_drew1) | exact HB.out))); (case aF => exact (fun _ _ => trivial)); (case aO => exact (by (with_reducible repeat (first | apply Kd.R_alloc | apply Kd.R_drewN | apply Kd.R_drew)); exact HO_3.out)); (case aS => exact (below_size (by repeat (first | (with_reducible first | exact HB.out | apply below_alloc | apply pw_below_drewN | apply below_drew1) | exact HB.out)))); (case aL => have := LMc12.out; omega); intro v109 w13 ho hb hg hat; rw [← Ny108.out] at ho; have n0_ := A_ (hb); have n1_ := A_ (ho); clear HB HO_3; revert n0_ n1_; intro HB HO110; clear ho hb hg hat))
        go_roundg k2
        case measure => have := HJ1.out; have := HK2.out; omega
        case rel => exact ⟨(wrap64 (x0_2 - t107)), (y108), (wrap64 (x4_2 - 1)), (by rfl), (by rfl), H', ⟨by have := HJ1.out; have := HK2.out; omega⟩, ⟨HO110.out⟩, ⟨HB.out⟩⟩
       rw [if_neg c12] at H
       exact absurd H (by simp)
      rw [if_neg c10] at H
      have c10b0 : decide (t106 ≤ x0_2) = false := decide_eq_false c10
      clear c10
      by_cases c14 : (x3_2.length : Int) > 0
      ·rw [if_pos c14] at H
       have c14b0 : decide (0 < (x3_2.length : Int)) = true := decide_eq_true c14
       have c14b1 : decide (0 < x3_2.length) = true := decide_eq_true (by omega)
       clear c14
       by_cases c15 : x3_2.length < 17592186044416
       ·rw [if_pos c15] at H
        have LMc15 := A_ c15
        clear c15
        obtain ⟨y111, hy111⟩ : ∃ y_ : List Int, y_ = (x3_2 ++ [0]) := ⟨_, rfl⟩
        replace H : (spec_ZeckendorfOf.l0 k2 x0_2 y111 (wrap64 (x4_2 - 1))) = some r := by (rw [hy111]; with_reducible exact H)
        have Ny111 := A_ hy111
        clear hy111
        have H' := A_ H
        clear H
        go_wp2_with (first | ((with_reducible refine gate_callee (f := 37) rfl ?_); refine goesL_ (some 20) rfl rfl Try.func37 (by kernel_rfl) rfl #[.int .i64 x4_2] rfl (by (try simp only [mA, mB, mC]); first | done | rfl | (simp only [List.length_drop, List.length_take]; rfl)) ?_; (with_reducible refine (spec_FibonacciNumber.calls k2 x4_2 t106 _ A9.out).mono ?_); rintro e w' ⟨rfl, ⟨nd, rfl⟩⟩; refine ⟨_, rfl, ?_⟩; obtain ⟨Ao16, co16, eo16⟩ := Kd.R_slice HO_3.out; subst eo16) | ((with_reducible refine gate_builtin (b := .append) (xs := #[.tmp 32, .tmp 33]) rfl ?_); at_builtin; refine Kd.R_append (Kd.int .i64) (w0 := w) w.heap.size rfl (.tmp 32) (.tmp 33) 24 3 (.int .i64 0) 8 rfl Try.underlying24 info3 rfl (by decide) (by omega) (.slice Ao16 x3_2.length co16) x3_2 0 [.int .i64 0] (fun _ => True) (fun _ => False) rfl rfl ?aP (fun _ hk => hk.elim) ?aF ?aO ?aB ?aS ?aL ?_; (case aP => exact rfl); (case aB => exact (by repeat (first | (with_reducible first | exact HB.out | apply below_alloc | apply pw_below_drewN | apply below_drew1) | exact HB.out))); (case aF => exact (fun _ _ => trivial)); (case aO => exact (by (with_reducible repeat (first | apply Kd.R_alloc | apply Kd.R_drewN | apply Kd.R_drew)); exact HO_3.out)); (case aS => exact (below_size (by repeat (first | (with_reducible first | exact HB.out | apply below_alloc | apply pw_below_drewN | apply below_drew1) | exact HB.out)))); (case aL => have := LMc15.out; omega); intro v112 w17 ho hb hg hat; rw [← Ny111.out] at ho; have n0_ := A_ (hb); have n1_ := A_ (ho); clear HB HO_3; revert n0_ n1_; intro HB HO113; clear ho hb hg hat))
        go_roundg k2
        case measure => have := HJ1.out; have := HK2.out; omega
        case rel => exact ⟨(x0_2), (y111), (wrap64 (x4_2 - 1)), (by rfl), (by rfl), H', ⟨by have := HJ1.out; have := HK2.out; omega⟩, ⟨HO113.out⟩, ⟨HB.out⟩⟩
       rw [if_neg c15] at H
       exact absurd H (by simp)
      rw [if_neg c14] at H
      have c14b0 : decide (0 < (x3_2.length : Int)) = false := decide_eq_false c14
      have c14b1 : decide (0 < x3_2.length) = false := decide_eq_false (by omega)
      clear c14
      have H' := A_ H
      clear H
      go_wp2_with (first | ((with_reducible refine gate_callee (f := 37) rfl ?_); refine goesL_ (some 20) rfl rfl Try.func37 (by kernel_rfl) rfl #[.int .i64 x4_2] rfl (by (try simp only [mA, mB, mC]); first | done | rfl | (simp only [List.length_drop, List.length_take]; rfl)) ?_; (with_reducible refine (spec_FibonacciNumber.calls k2 x4_2 t106 _ A9.out).mono ?_); rintro e w' ⟨rfl, ⟨nd, rfl⟩⟩; refine ⟨_, rfl, ?_⟩; obtain ⟨Ao18, co18, eo18⟩ := Kd.R_slice HO_3.out; subst eo18))
      go_roundg k2
      case measure => have := HJ1.out; have := HK2.out; omega
      case rel => exact ⟨(x0_2), (x3_2), (wrap64 (x4_2 - 1)), (by rfl), (by rfl), H', ⟨by have := HJ1.out; have := HK2.out; omega⟩, ⟨by (with_reducible repeat (first | apply Kd.R_alloc | apply Kd.R_drewN | apply Kd.R_drew)); exact HO_3.out⟩, ⟨by repeat (first | (with_reducible first | exact HB.out | apply below_alloc | apply pw_below_drewN | apply below_drew1) | exact HB.out)⟩⟩
     rw [if_neg c8] at H
     have c8b0 : decide (0 ≤ x4_2) = false := decide_eq_false c8
     clear c8
     obtain rfl := Option.some.inj H
     go_wp2
     go_ret
     exact ⟨_, by rfl, HO_3.out, HB.out⟩

/-! ### spec_FibonacciLetter: function 12 -/
def spec_FibonacciLetter.j0 : Nat → Int → Bool → Option (Int)
 | 0, _, _ => none
 | k + 1, x0, x10 => if x10 = true then (some (-1)) else ((spec_ZeckendorfOf.f k x0).bind fun t115 => (if (t115.length : Int) > 0 then (if 0 ≤ (wrap64 ((t115.length : Int) - 1)) then (if (wrap64 ((t115.length : Int) - 1)) < (t115.length : Int) then (if (rd t115 (wrap64 ((t115.length : Int) - 1))) = 1 then (some 1) else (some 0)) else (none)) else (none)) else (some 0)))
def spec_FibonacciLetter.f (k : Nat) (a0 : Int) : Option (Int) := if a0 < 0 then (spec_FibonacciLetter.j0 k a0 true) else ((spec_FibonacciNumber.f k 40).bind fun t114 => (spec_FibonacciLetter.j0 k a0 (decide (a0 ≥ t114))))
theorem spec_FibonacciLetter.mono_l : ∀ k, (∀ y0 y1, LeO (spec_FibonacciLetter.j0 k y0 y1) (spec_FibonacciLetter.j0 (k + 1) y0 y1))
 | 0 => fun _ _ r h => by simp [spec_FibonacciLetter.j0] at h
 | k + 1 => by
  have ih0 := spec_FibonacciLetter.mono_l k
  ·intro y0 y1
   unfold spec_FibonacciLetter.j0
   with_reducible repeat' first | exact ih0 _ _ | exact spec_FibonacciNumber.mono _ _ | exact spec_ZeckendorfOf.mono _ _ | exact LeO.refl _ | exact LeO.none _ | refine LeO.ite ?_ ?_ | refine LeO.bind ?_ (fun _ => ?_)
theorem spec_FibonacciLetter.mono : ∀ a0 k, LeO (spec_FibonacciLetter.f k a0) (spec_FibonacciLetter.f (k + 1) a0) := by
 intro a0 k
 have ih0 := spec_FibonacciLetter.mono_l k
 unfold spec_FibonacciLetter.f
 with_reducible repeat' first | exact ih0 _ _ | exact spec_FibonacciNumber.mono _ _ | exact spec_ZeckendorfOf.mono _ _ | exact LeO.refl _ | exact LeO.none _ | refine LeO.ite ?_ ?_ | refine LeO.bind ?_ (fun _ => ?_)
theorem spec_FibonacciLetter.calls (k : Nat) (a0 : Int) (r : Int) (w : World) (h : spec_FibonacciLetter.f k a0 = some r) :
  Calls Try.prog 12 #[.int .i64 a0] w fun e w' => e = .returned (.int .i64 r) ∧ Below w.heap.size w w' := by
 have HB := A_ (Below.refl w.heap.size w)
 unfold spec_FibonacciLetter.f at h
 have H := h
 clear h
 have HC2 := A_ H
 clear H
 go_enter Try.func12, Try.ntmps12
 go_upto_region 1 with (fail)
 go_cut [10] (fun v10 wc => ∃ (kq : Nat) (x10_1 : Bool), v10 = .bool x10_1 ∧ Aside0 (spec_FibonacciLetter.j0 kq a0 x10_1 = some r) ∧ Aside0 (kq ≤ k) ∧ Aside0 (Below w.heap.size w wc))
 case first =>
  have H := HC2.out
  clear HC2
  by_cases c3 : a0 < 0
  ·rw [if_pos c3] at H
   have c3b0 : decide (a0 < 0) = true := decide_eq_true c3
   clear c3
   (first | rw [c3b0] | (simp only [i64_w, i32_w]; rw [c3b0]) | skip)
   have H' := A_ H
   clear H
   go_wp2
   go_meet
   case rel => exact ⟨_, (true), (by rfl), H', ⟨by first | omega | exact Nat.le_refl _⟩, ⟨HB.out⟩⟩
  rw [if_neg c3] at H
  have c3b0 : decide (a0 < 0) = false := decide_eq_false c3
  clear c3
  (first | rw [c3b0] | (simp only [i64_w, i32_w]; rw [c3b0]) | skip)
  replace H := Option.bind_eq_some_iff.mp H
  obtain ⟨t114, A40, H⟩ := H
  have A4 := A_ A40
  clear A40
  have H' := A_ H
  clear H
  go_wp2_with (first | (go_at_call 37; (with_reducible refine (spec_FibonacciNumber.calls k 40 t114 _ A4.out).mono ?_); rintro e w' ⟨rfl, ⟨nd, rfl⟩⟩))
  go_meet
  case rel => exact ⟨_, (decide (a0 ≥ t114)), (by rfl), H', ⟨by first | omega | exact Nat.le_refl _⟩, ⟨by repeat (first | (with_reducible first | exact HB.out | apply below_alloc | apply pw_below_drewN | apply below_drew1) | exact HB.out)⟩⟩
 case rest =>
  clear HC2
  obtain ⟨kq, x10_1, rfl, HA, HJ1, HB⟩ := hcut
  cases kq with
  | zero => exact absurd HA.out (by simp [spec_FibonacciLetter.j0])
  | succ kj1 =>
   have H := HA.out
   clear HA
   simp only [spec_FibonacciLetter.j0] at H
   by_cases c5 : x10_1 = true
   ·subst c5
    rw [if_pos rfl] at H
    obtain rfl := Option.some.inj H
    go_wp2
    go_ret
    exact ⟨by rfl, HB.out⟩
   replace c5 := Bool.eq_false_iff.mpr c5
   subst c5
   rw [if_neg (show ¬ (false = true) by decide)] at H
   replace H := Option.bind_eq_some_iff.mp H
   obtain ⟨t115, A60, H⟩ := H
   have A6 := A_ A60
   clear A60
   by_cases c7 : (t115.length : Int) > 0
   ·rw [if_pos c7] at H
    have c7b0 : decide (0 < (t115.length : Int)) = true := decide_eq_true c7
    have c7b1 : decide (0 < t115.length) = true := decide_eq_true (by omega)
    clear c7
    obtain ⟨ji8, hji8⟩ : ∃ j_ : Int, (wrap64 ((t115.length : Int) - 1)) = j_ := ⟨_, rfl⟩
    replace H : (if 0 ≤ (ji8) then (if (ji8) < (t115.length : Int) then (if (rd t115 (ji8)) = 1 then (some 1) else (some 0)) else (none)) else (none)) = some r := by first | (rw [hji8] at H; exact H) | (simp only [hji8] at H ⊢; exact H)
    (try rw [hji8] at A6)
    have hji8w : (IntKind.i64.wrap ((t115.length : Int) - 1)) = ji8 := (i64_w _).trans hji8
    by_cases c9 : 0 ≤ (ji8)
    ·rw [if_pos c9] at H
     have c9b0 : decide (0 ≤ (ji8)) = true := decide_eq_true c9
     clear c9
     by_cases c10 : (ji8) < (t115.length : Int)
     ·rw [if_pos c10] at H
      have c10b0 : decide ((ji8) < (t115.length : Int)) = true := decide_eq_true c10
      clear c10
      by_cases c11 : (rd t115 (ji8)) = 1
      ·rw [if_pos c11] at H
       have c11b0 : ((rd t115 (ji8)) == 1) = true := beq_iff_eq.mpr c11
       have c11b1 : ((rd t115 (ji8)) != 1) = false := bne_eq_false_iff_eq.mpr c11
       clear c11
       obtain rfl := Option.some.inj H
       go_wp2_with (first | ((with_reducible refine gate_callee (f := 34) rfl ?_); refine goesL_ (some 12) rfl rfl Try.func34 (by kernel_rfl) rfl #[.int .i64 a0] rfl (by (try simp only [mA, mB, mC]); first | done | rfl | (simp only [List.length_drop, List.length_take]; rfl)) ?_; (with_reducible refine (spec_ZeckendorfOf.calls kj1 a0 t115 _ A6.out).mono ?_); rintro e w12 ⟨v116, rfl, ho0, hb⟩; refine ⟨_, rfl, ?_⟩; have n0_ := A_ (Kd.R_lower ho0 (below_size HB.out)); have n1_ := A_ (below_step HB.out hb); clear HB; revert n0_ n1_; intro HO117 HB; clear hb ho0; obtain ⟨Ao13, co13, eo13⟩ := Kd.R_slice HO117.out; subst eo13; have p118 : 0 ≤ ((ji8) : Int) := of_decide_eq_true (by first | (with_reducible assumption) | assumption); have q118 : (ji8) < (t115.length : Int) := of_decide_eq_true (by first | (with_reducible assumption) | assumption); obtain ⟨ad118, e118, hx118_0⟩ := Kd.at_int (Kd.R_reads' HO117.out).2.2 (ji8) p118 q118; cases e118; replace p118 := eq_true p118; replace q118 := eq_true q118))
       go_ret
       exact ⟨by first | rfl | (simp [errW_none, errW_some] <;> rfl) | (simp only [← hji8]; first | rfl | (simp [errW_none, errW_some] <;> rfl)) | (simp [*, errW_none, errW_some] <;> rfl), HB.out⟩
      rw [if_neg c11] at H
      have c11b0 : ((rd t115 (ji8)) == 1) = false := beq_eq_false_iff_ne.mpr c11
      have c11b1 : ((rd t115 (ji8)) != 1) = true := bne_iff_ne.mpr c11
      obtain rfl := Option.some.inj H
      go_wp2_with (first | ((with_reducible refine gate_callee (f := 34) rfl ?_); refine goesL_ (some 12) rfl rfl Try.func34 (by kernel_rfl) rfl #[.int .i64 a0] rfl (by (try simp only [mA, mB, mC]); first | done | rfl | (simp only [List.length_drop, List.length_take]; rfl)) ?_; (with_reducible refine (spec_ZeckendorfOf.calls kj1 a0 t115 _ A6.out).mono ?_); rintro e w14 ⟨v116, rfl, ho0, hb⟩; refine ⟨_, rfl, ?_⟩; have n0_ := A_ (Kd.R_lower ho0 (below_size HB.out)); have n1_ := A_ (below_step HB.out hb); clear HB; revert n0_ n1_; intro HO117 HB; clear hb ho0; obtain ⟨Ao15, co15, eo15⟩ := Kd.R_slice HO117.out; subst eo15; have p118 : 0 ≤ ((ji8) : Int) := of_decide_eq_true (by first | (with_reducible assumption) | assumption); have q118 : (ji8) < (t115.length : Int) := of_decide_eq_true (by first | (with_reducible assumption) | assumption); obtain ⟨ad118, e118, hx118_0⟩ := Kd.at_int (Kd.R_reads' HO117.out).2.2 (ji8) p118 q118; cases e118; replace p118 := eq_true p118; replace q118 := eq_true q118))
      go_ret
      exact ⟨by first | rfl | (simp [errW_none, errW_some] <;> rfl) | (simp only [← hji8]; first | rfl | (simp [errW_none, errW_some] <;> rfl)) | (simp [*, errW_none, errW_some] <;> rfl), HB.out⟩
     rw [if_neg c10] at H
     exact absurd H (by simp)
    rw [if_neg c9] at H
    exact absurd H (by simp)
   rw [if_neg c7] at H
   have c7b0 : decide (0 < (t115.length : Int)) = false := decide_eq_false c7
   have c7b1 : decide (0 < t115.length) = false := decide_eq_false (by omega)
   clear c7
   obtain rfl := Option.some.inj H
   go_wp2_with (first | ((with_reducible refine gate_callee (f := 34) rfl ?_); refine goesL_ (some 12) rfl rfl Try.func34 (by kernel_rfl) rfl #[.int .i64 a0] rfl (by (try simp only [mA, mB, mC]); first | done | rfl | (simp only [List.length_drop, List.length_take]; rfl)) ?_; (with_reducible refine (spec_ZeckendorfOf.calls kj1 a0 t115 _ A6.out).mono ?_); rintro e w16 ⟨v116, rfl, ho0, hb⟩; refine ⟨_, rfl, ?_⟩; have n0_ := A_ (Kd.R_lower ho0 (below_size HB.out)); have n1_ := A_ (below_step HB.out hb); clear HB; revert n0_ n1_; intro HO117 HB; clear hb ho0; obtain ⟨Ao17, co17, eo17⟩ := Kd.R_slice HO117.out; subst eo17))
   go_ret
   exact ⟨by rfl, HB.out⟩

end Go.Proofs.Ytdcakddfibnllaa.PFnFibonacci
