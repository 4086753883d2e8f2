/- Written by this session's own program (wip/myprint.py): the machine side of one law, some contracts of it typed by hand. -/
import Derived.Test.YtcofhkocfkappaaPFnChristoffelx1
import Derived.Test.YtcofhkocfkappaaPFnChristoffelx3
import Derived.Test.YtcofhkocfkappaaPFnChristoffelx4
import Derived.Test.YtcofhkocfkappaaPFnChristoffelx7
import Derived.Test.YtcofhkocfkappaaPFnChristoffelx8
import Derived.Test.YtcofhkocfkappaaPFnChristoffelx10
import Derived.Test.YtcofhkocfkappaaPFnChristoffelx11
import Derived.Test.YtcofhkocfkappaaPFnChristoffelx0
import Derived.Test.YtcofhkocfkappaaPFnChristoffelx2
import Derived.Test.YtcofhkocfkappaaPFnChristoffelx9
namespace Go.Proofs.Ytcofhkocfkappaa.PFnChristoffel
open Go.RowKit Go.Proofs.YtcofhkocfkappaaW.PrintWords Go.Proofs.YtcofhkocfkappaaW.PrintLast Go.Proofs.YtcofhkocfkappaaW.PrintMore
attribute [local go_sem] max2_int min2_int max_two min_two max_three min_three max_four min_four   -- for this text's walks alone
set_option linter.unusedVariables false
set_option linter.unusedSimpArgs false

/-! ### spec_ChristoffelSplit: function 25 -/
mutual
def spec_ChristoffelSplit.j0 : Nat → List Int → Bool → Option (List Int × List Int × Bool)
 | 0, _, _ => none
 | k + 1, x7, x22 => if x22 = true then (some ((([] : List Int)), (([] : List Int)), false)) else (spec_ChristoffelSplit.l0 k x7 1)
def spec_ChristoffelSplit.l0 : Nat → List Int → Int → Option (List Int × List Int × Bool)
 | 0, _, _ => none
 | k + 1, x7, x9 => if x9 < (x7.length : Int) then (if 0 ≤ x9 then (if x9 ≤ (x7.length : Int) then ((spec_IsChristoffel.f k (x7.take (x9 : Int).toNat)).bind fun t436 => (if t436 = true then ((spec_IsChristoffel.f k (x7.drop (x9 : Int).toNat)).bind fun t441 => (if t441 = true then ((some (([] : List Int) : List Int)).bind fun y442 => ((some (x7.take (x9 : Int).toNat : List Int)).bind fun y445 => (if y442.length + y445.length < 17592186044416 then ((some (([] : List Int) : List Int)).bind fun y452 => ((some (x7.drop (x9 : Int).toNat : List Int)).bind fun y455 => (if y452.length + y455.length < 17592186044416 then (some ((y442 ++ y445), (y452 ++ y455), true)) else (none)))) else (none)))) else (spec_ChristoffelSplit.l0 k x7 (wrap64 (x9 + 1))))) else (spec_ChristoffelSplit.l0 k x7 (wrap64 (x9 + 1))))) else (none)) else (none)) else (some ((([] : List Int)), (([] : List Int)), false))
end
def spec_ChristoffelSplit.f (k : Nat) (a0 : Int) (a1 : Int) : Option (List Int × List Int × Bool) := (spec_ChristoffelWord.f k a0 a1).bind fun bt416 => (if bt416.2 = true then (spec_ChristoffelSplit.j0 k bt416.1 (decide ((bt416.1.length : Int) < 2))) else (spec_ChristoffelSplit.j0 k bt416.1 true))
theorem spec_ChristoffelSplit.mono_l : ∀ k, (∀ y0 y1, LeO (spec_ChristoffelSplit.j0 k y0 y1) (spec_ChristoffelSplit.j0 (k + 1) y0 y1)) ∧ (∀ y0 y1, LeO (spec_ChristoffelSplit.l0 k y0 y1) (spec_ChristoffelSplit.l0 (k + 1) y0 y1))
 | 0 => ⟨fun _ _ r h => by simp [spec_ChristoffelSplit.j0] at h, fun _ _ r h => by simp [spec_ChristoffelSplit.l0] at h⟩
 | k + 1 => by
  obtain ⟨ih0, ih1⟩ := spec_ChristoffelSplit.mono_l k
  refine ⟨?_, ?_⟩
  ·intro y0 y1
   unfold spec_ChristoffelSplit.j0
   repeat' first
   | (with_reducible exact ih0 _ _)
   | (with_reducible exact ih1 _ _)
   | (with_reducible exact spec_ChristoffelWord.mono _ _ _)
   | (with_reducible exact spec_IsChristoffel.mono _ _)
   | (with_reducible exact LeO.refl _)
   | (with_reducible exact LeO.none _)
   | (with_reducible refine LeO.ite ?_ ?_)
   | (with_reducible refine LeO.bind ?_ (fun _ => ?_))
   | exact ih0 _ _
   | exact ih1 _ _
   | exact spec_ChristoffelWord.mono _ _ _
   | exact spec_IsChristoffel.mono _ _
   | exact LeO.none _
   | refine LeO.ite ?_ ?_
   | refine LeO.bind ?_ (fun _ => ?_)
  ·intro y0 y1
   unfold spec_ChristoffelSplit.l0
   repeat' first
   | (with_reducible exact ih0 _ _)
   | (with_reducible exact ih1 _ _)
   | (with_reducible exact spec_ChristoffelWord.mono _ _ _)
   | (with_reducible exact spec_IsChristoffel.mono _ _)
   | (with_reducible exact LeO.refl _)
   | (with_reducible exact LeO.none _)
   | (with_reducible refine LeO.ite ?_ ?_)
   | (with_reducible refine LeO.bind ?_ (fun _ => ?_))
   | exact ih0 _ _
   | exact ih1 _ _
   | exact spec_ChristoffelWord.mono _ _ _
   | exact spec_IsChristoffel.mono _ _
   | exact LeO.none _
   | refine LeO.ite ?_ ?_
   | refine LeO.bind ?_ (fun _ => ?_)
theorem spec_ChristoffelSplit.mono : ∀ a0 a1 k, LeO (spec_ChristoffelSplit.f k a0 a1) (spec_ChristoffelSplit.f (k + 1) a0 a1) := by
 intro a0 a1 k
 obtain ⟨ih0, ih1⟩ := spec_ChristoffelSplit.mono_l k
 unfold spec_ChristoffelSplit.f
 repeat' first
   | (with_reducible exact ih0 _ _)
   | (with_reducible exact ih1 _ _)
   | (with_reducible exact spec_ChristoffelWord.mono _ _ _)
   | (with_reducible exact spec_IsChristoffel.mono _ _)
   | (with_reducible exact LeO.refl _)
   | (with_reducible exact LeO.none _)
   | (with_reducible refine LeO.ite ?_ ?_)
   | (with_reducible refine LeO.bind ?_ (fun _ => ?_))
   | exact ih0 _ _
   | exact ih1 _ _
   | exact spec_ChristoffelWord.mono _ _ _
   | exact spec_IsChristoffel.mono _ _
   | exact LeO.none _
   | refine LeO.ite ?_ ?_
   | refine LeO.bind ?_ (fun _ => ?_)
def spec_ChristoffelSplit.T8 : Bool × List (List Nat × List Nat) := (true, [([], []), ([], []), ([], []), ([1, 2], [1, 2]), ([0, 3], [0, 3]), ([], []), ([], []), ([], []), ([6, 7], [6, 7]), ([5, 8, 4], [5, 8]), ([4, 9, 0, 1, 2, 3, 4], [4]), ([9, 10, 0, 1, 2, 3, 4, 5, 6, 7, 8, 9, 10], [9]), ([11, 0, 1, 2, 3, 4, 5, 6, 7, 8, 9, 10, 11], [])])
def spec_ChristoffelSplit.B8 : List Nat := [0, 0, 0, 6, 15, 0, 0, 0, 192, 511, 1023, 2047, 4095]
theorem spec_ChristoffelSplit.tab8 : rtab .any (opsOf Try.f25 8) = spec_ChristoffelSplit.T8 := by kernel_rfl
theorem spec_ChristoffelSplit.bits8 : waitsOk spec_ChristoffelSplit.T8.2 spec_ChristoffelSplit.B8 = true := by kernel_rfl
set_option maxHeartbeats 8000000 in
set_option maxRecDepth 100000 in
theorem spec_ChristoffelSplit.calls (k : Nat) (a0 : Int) (a1 : Int) (r1 : List Int) (r2 : List Int) (r3 : Bool) (w : World) (h : spec_ChristoffelSplit.f k a0 a1 = some (r1, r2, r3)) :
  Calls Try.prog 25 #[.int .i64 a0, .int .i64 a1] w fun e w' => ∃ v0_ v1_ : Value, e = .returned (.tuple #[v0_, v1_, .bool r3]) ∧ Kd.R (Kd.int .i64) 3 w' w.heap.size (fun k_ => some k_ ≠ (v1_ : Value).ownBlock) v0_ r1 ∧ Kd.R (Kd.int .i64) 3 w' w.heap.size (fun k_ => some k_ ≠ (v0_ : Value).ownBlock) v1_ r2 ∧ Below w.heap.size w w' := by
 have HB := Aside0.mk (Below.refl w.heap.size w)
 have H : ((spec_ChristoffelWord.f k a0 a1).bind fun bt416 => (if bt416.2 = true then (spec_ChristoffelSplit.j0 k bt416.1 (decide ((bt416.1.length : Int) < 2))) else (spec_ChristoffelSplit.j0 k bt416.1 true))) = some (r1, r2, r3) := h
 clear h
 replace H := Option.bind_eq_some_iff.mp H
 obtain ⟨⟨t416, t417⟩, A30, H⟩ := H
 replace H : (if t417 = true then (spec_ChristoffelSplit.j0 k t416 (decide ((t416.length : Int) < 2))) else (spec_ChristoffelSplit.j0 k t416 true)) = some (r1, r2, r3) := H
 have A3 := Aside0.mk A30
 clear A30
 have HC4 := Aside0.mk H
 clear H
 go_enter Try.func25, Try.ntmps25
 go_upto_region 2 with (first | ((with_reducible refine gate_callee (f := 7) rfl ?_); refine goesL_ (some 13) rfl rfl Try.func7 (by kernel_rfl) rfl #[.int .i64 a0, .int .i64 a1] rfl (by (try simp only [List.map_toArray, List.map_cons, List.map_nil]); first | done | rfl | (simp only [List.length_drop, List.length_take]; rfl)) ?_; (with_reducible refine (spec_ChristoffelWord.calls k a0 a1 t416 t417 _ A3.out).mono ?_); rintro e w5 ⟨v418, rfl, ho0, hb⟩; refine ⟨_, rfl, ?_⟩; have n0_ := Aside0.mk (Kd.R_lower ho0 (below_size (by repeat (first | (with_reducible first | exact HB.out | apply below_alloc | apply pw_below_drewN | apply below_drew1) | exact HB.out)))); have n1_ := Aside0.mk (below_step (by repeat (first | (with_reducible first | exact HB.out | apply below_alloc | apply pw_below_drewN | apply below_drew1) | exact HB.out)) hb); clear HB; have HO419 := n0_; have HB := n1_; clear n0_ n1_; (try clear hb); (try clear hb2); (try clear hk); (try clear hi); (try clear ho0)))
 (try simp only [Act.put, List.setIfInBounds_toArray, List.set_cons_zero, List.set_cons_succ])
 go_cut [22] (fun v22 wc => ∃ (kq : Nat) (x22_3 : Bool), v22 = .bool x22_3 ∧ Aside0 (spec_ChristoffelSplit.j0 kq t416 x22_3 = some (r1, r2, r3)) ∧ Aside0 (kq ≤ k) ∧ Aside0 (Kd.R (Kd.int .i64) 3 wc w.heap.size (fun _ => True) v418 t416) ∧ Aside0 (Below w.heap.size w wc))
 case first =>
  have H := HC4.out
  clear HC4
  by_cases c6 : t417 = true
  ·subst c6
   have H1 : (spec_ChristoffelSplit.j0 k t416 (decide ((t416.length : Int) < 2))) = some (r1, r2, r3) := by rw [if_pos rfl] at H; exact H
   clear H
   have H := H1
   clear H1
   have H' := Aside0.mk H
   clear H
   obtain ⟨Ao7, co7, eo7⟩ := Kd.R_slice HO419.out
   subst eo7
   go_wp2
   go_meet
   case rel => exact ⟨_, (decide ((t416.length : Int) < 2)), (by first | rfl | (simp; done) | (simp [*]; done)), H', ⟨by first | omega | exact Nat.le_refl _⟩, ⟨by (with_reducible repeat (first | apply Kd.R_alloc | apply Kd.R_drewN | apply Kd.R_drew)); exact HO419.out⟩, ⟨by repeat (first | (with_reducible first | exact HB.out | apply below_alloc | apply pw_below_drewN | apply below_drew1) | exact HB.out)⟩⟩
  ·replace c6 := Bool.eq_false_iff.mpr c6
   subst c6
   have H1 : (spec_ChristoffelSplit.j0 k t416 true) = some (r1, r2, r3) := by rw [if_neg (show ¬ (false = true) by decide)] at H; exact H
   clear H
   have H := H1
   clear H1
   have H' := Aside0.mk H
   clear H
   go_wp2
   go_meet
   case rel => exact ⟨_, (true), (by first | rfl | (simp; done) | (simp [*]; done)), H', ⟨by first | omega | exact Nat.le_refl _⟩, ⟨by (with_reducible repeat (first | apply Kd.R_alloc | apply Kd.R_drewN | apply Kd.R_drew)); exact HO419.out⟩, ⟨by repeat (first | (with_reducible first | exact HB.out | apply below_alloc | apply pw_below_drewN | apply below_drew1) | exact HB.out)⟩⟩
 case rest =>
  clear HC4
  try clear c2
  try clear p2
  try clear c6
  try clear c7
  obtain ⟨kq, x22_3, rfl, HA, HJ3, HO_7, HB⟩ := hcut
  cases kq with
  | zero => exact absurd HA.out (by simp [spec_ChristoffelSplit.j0])
  | succ kj3 =>
   have H := HA.out
   clear HA
   simp only [spec_ChristoffelSplit.j0] at H
   by_cases c8 : x22_3 = true
   ·subst c8
    have H1 : (some ((([] : List Int)), (([] : List Int)), false)) = some (r1, r2, r3) := by rw [if_pos rfl] at H; exact H
    clear H
    have H := H1
    clear H1
    obtain ⟨y420, hy420⟩ : ∃ y_ : List Int, y_ = (([] : List Int)) := ⟨_, rfl⟩
    replace H : (some (y420, (([] : List Int)), false)) = some (r1, r2, r3) := by first | (rw [hy420]; with_reducible exact H) | (have H2_ := (Option.bind_some _ _).symm.trans H; rw [hy420]; with_reducible exact H2_) | (have H2_ := (Option.bind_some _ _).symm.trans H; with_reducible exact H2_) | with_reducible exact H | (rw [hy420]; exact H) | exact H
    have Ny420 := Aside0.mk hy420
    clear hy420
    obtain ⟨y423, hy423⟩ : ∃ y_ : List Int, y_ = (([] : List Int)) := ⟨_, rfl⟩
    replace H : (some (y420, y423, false)) = some (r1, r2, r3) := by first | (rw [hy423]; with_reducible exact H) | (have H2_ := (Option.bind_some _ _).symm.trans H; rw [hy423]; with_reducible exact H2_) | (have H2_ := (Option.bind_some _ _).symm.trans H; with_reducible exact H2_) | with_reducible exact H | (rw [hy423]; exact H) | exact H
    have Ny423 := Aside0.mk hy423
    clear hy423
    simp only [Option.some.injEq, Prod.mk.injEq] at H
    obtain ⟨rfl, rfl, rfl⟩ := H
    go_wp2_with (first | ((with_reducible refine gate_dst (N := 23) rfl ?_); (try (refine gate_guard (by rfl) ?_; dsimp only)); refine Kd.R_lit (Kd.int .i64) _ 3 ?hg (N := 23) ?hd (xs := ([] : List Int)) (inner := []) (ok := fun _ => True) (okp := fun _ => True) ?hr ?hp (fun _ hk => hk) trivial (Below.refl _ _) (Nat.le_refl _) (by simp) ?_; (case hd => rfl); (case hg => rfl); (case hr => first | (go_simp; done) | (go_simp; rfl)); (case hp => exact (Reps.none _ _)); intro v421 w9 ho10 hb hg_ hnew_; clear hg_ hnew_; (first | rw [← Ny420.out] at ho10 | (simp only [Int.reduceToNat] at ho10; rw [← Ny420.out] at ho10)); have n0_ := Aside0.mk (Kd.R_elder' (by (with_reducible repeat (first | apply Kd.R_alloc | apply Kd.R_drewN | apply Kd.R_drew)); exact HO_7.out) (Kd.R_base ho10) hb); have n1_ := Aside0.mk (Kd.R_lower (Kd.R_new' ho10 (Kd.R_lt (by (with_reducible repeat (first | apply Kd.R_alloc | apply Kd.R_drewN | apply Kd.R_drew)); exact HO_7.out))) (below_size (by repeat (first | (with_reducible first | exact HB.out | apply below_alloc | apply pw_below_drewN | apply below_drew1) | exact HB.out)))); have n2_ := Aside0.mk (below_step (by repeat (first | (with_reducible first | exact HB.out | apply below_alloc | apply pw_below_drewN | apply below_drew1) | exact HB.out)) hb); clear HO_7; clear HB; have HO_7 := n0_; have HO422 := n1_; have HB := n2_; clear n0_ n1_ n2_; clear hb ho10) | ((with_reducible refine gate_dst (N := 24) rfl ?_); (try (refine gate_guard (by rfl) ?_; dsimp only)); refine Kd.R_lit (Kd.int .i64) _ 3 ?hg (N := 24) ?hd (xs := ([] : List Int)) (inner := []) (ok := fun _ => True) (okp := fun _ => True) ?hr ?hp (fun _ hk => hk) trivial (Below.refl _ _) (Nat.le_refl _) (by simp) ?_; (case hd => rfl); (case hg => rfl); (case hr => first | (go_simp; done) | (go_simp; rfl)); (case hp => exact (Reps.none _ _)); intro v424 w11 ho12 hb hg_ hnew_; clear hg_ hnew_; (first | rw [← Ny423.out] at ho12 | (simp only [Int.reduceToNat] at ho12; rw [← Ny423.out] at ho12)); have n0_ := Aside0.mk (Kd.R_elder' (by (with_reducible repeat (first | apply Kd.R_alloc | apply Kd.R_drewN | apply Kd.R_drew)); exact HO_7.out) (Kd.R_base ho12) hb); have n1_ := Aside0.mk (Kd.R_elder' (by (with_reducible repeat (first | apply Kd.R_alloc | apply Kd.R_drewN | apply Kd.R_drew)); exact HO422.out) (Kd.R_base ho12) hb); have n2_ := Aside0.mk (Kd.R_lower (Kd.R_new' (Kd.R_new' ho12 (Kd.R_lt (by (with_reducible repeat (first | apply Kd.R_alloc | apply Kd.R_drewN | apply Kd.R_drew)); exact HO_7.out))) (Kd.R_lt (by (with_reducible repeat (first | apply Kd.R_alloc | apply Kd.R_drewN | apply Kd.R_drew)); exact HO422.out))) (below_size (by repeat (first | (with_reducible first | exact HB.out | apply below_alloc | apply pw_below_drewN | apply below_drew1) | exact HB.out)))); have n3_ := Aside0.mk (below_step (by repeat (first | (with_reducible first | exact HB.out | apply below_alloc | apply pw_below_drewN | apply below_drew1) | exact HB.out)) hb); clear HO_7; clear HO422; clear HB; have HO_7 := n0_; have HO422 := n1_; have HO425 := n2_; have HB := n3_; clear n0_ n1_ n2_ n3_; clear hb ho12))
    go_ret3
    exact ⟨_, _, by first | rfl | (simp [errW_none, errW_some] <;> rfl) | (simp [*, errW_none, errW_some] <;> rfl), by (with_reducible repeat (first | apply Kd.R_alloc | apply Kd.R_drewN | apply Kd.R_drew)); exact Kd.R_mono HO422.out (fun _ hk => hk.2), by (with_reducible repeat (first | apply Kd.R_alloc | apply Kd.R_drewN | apply Kd.R_drew)); exact Kd.R_mono HO425.out (fun _ hk => hk.2), by repeat (first | (with_reducible first | exact HB.out | apply below_alloc | apply pw_below_drewN | apply below_drew1) | exact HB.out)⟩
   ·replace c8 := Bool.eq_false_iff.mpr c8
    subst c8
    have H1 : (spec_ChristoffelSplit.l0 kj3 t416 1) = some (r1, r2, r3) := by rw [if_neg (show ¬ (false = true) by decide)] at H; exact H
    clear H
    have H := H1
    clear H1
    have H' := Aside0.mk H
    clear H
    go_wp2
    go_loopg [9] kj3 (fun kq v9 w' => ∃ (x9_2 : Int), v9 = .int .i64 x9_2 ∧ Aside0 (spec_ChristoffelSplit.l0 kq t416 x9_2 = some (r1, r2, r3)) ∧ Aside0 (kq ≤ kj3) ∧ Aside0 (Kd.R (Kd.int .i64) 3 w' w.heap.size (fun _ => True) v418 t416) ∧ Aside0 (Below w.heap.size w w'))
    case atStart => exact ⟨(1), (by first | rfl | (simp; done) | (simp [*]; done)), H', ⟨Nat.le_refl _⟩, ⟨by (with_reducible repeat (first | apply Kd.R_alloc | apply Kd.R_drewN | apply Kd.R_drew)); exact HO_7.out⟩, ⟨by repeat (first | (with_reducible first | exact HB.out | apply below_alloc | apply pw_below_drewN | apply below_drew1) | exact HB.out)⟩⟩
    case round =>
     clear H'
     try clear c2
     try clear p2
     try clear c6
     try clear c7
     try clear c8
     try clear p2
     obtain ⟨x9_2, rfl, HA, HK2, HO_7, HB⟩ := hrel
     cases gk with
     | zero => exact absurd HA.out (by simp [spec_ChristoffelSplit.l0])
     | succ k2 =>
      have H := HA.out
      clear HA
      simp only [spec_ChristoffelSplit.l0] at H
      by_cases c13 : x9_2 < (t416.length : Int)
      ·rw [if_pos c13] at H
       have c13b0 : decide (x9_2 < (t416.length : Int)) = true := decide_eq_true c13
       clear c13
       by_cases c14 : 0 ≤ x9_2
       ·rw [if_pos c14] at H
        have c14b0 := eq_true c14
        have c14b1 : decide (0 ≤ x9_2) = true := decide_eq_true c14
        clear c14
        by_cases c15 : x9_2 ≤ (t416.length : Int)
        ·rw [if_pos c15] at H
         have c15b0 := eq_true c15
         have c15b1 : decide (x9_2 ≤ (t416.length : Int)) = true := decide_eq_true c15
         clear c15
         obtain ⟨y432, hy432⟩ : ∃ y_ : List Int, y_ = (t416.take (x9_2 : Int).toNat) := ⟨_, rfl⟩
         replace H : ((spec_IsChristoffel.f k2 y432).bind fun t436 => (if t436 = true then ((spec_IsChristoffel.f k2 (t416.drop (x9_2 : Int).toNat)).bind fun t441 => (if t441 = true then ((some (([] : List Int) : List Int)).bind fun y442 => ((some (t416.take (x9_2 : Int).toNat : List Int)).bind fun y445 => (if y442.length + y445.length < 17592186044416 then ((some (([] : List Int) : List Int)).bind fun y452 => ((some (t416.drop (x9_2 : Int).toNat : List Int)).bind fun y455 => (if y452.length + y455.length < 17592186044416 then (some ((y442 ++ y445), (y452 ++ y455), true)) else (none)))) else (none)))) else (spec_ChristoffelSplit.l0 k2 t416 (wrap64 (x9_2 + 1))))) else (spec_ChristoffelSplit.l0 k2 t416 (wrap64 (x9_2 + 1))))) = some (r1, r2, r3) := by first | (rw [hy432]; with_reducible exact H) | (have H2_ := (Option.bind_some _ _).symm.trans H; rw [hy432]; with_reducible exact H2_) | (have H2_ := (Option.bind_some _ _).symm.trans H; with_reducible exact H2_) | with_reducible exact H | (rw [hy432]; exact H) | exact H
         have Ny432 := Aside0.mk hy432
         clear hy432
         replace H := Option.bind_eq_some_iff.mp H
         obtain ⟨t436, A160, H⟩ := H
         replace H : (if t436 = true then ((spec_IsChristoffel.f k2 (t416.drop (x9_2 : Int).toNat)).bind fun t441 => (if t441 = true then ((some (([] : List Int) : List Int)).bind fun y442 => ((some (t416.take (x9_2 : Int).toNat : List Int)).bind fun y445 => (if y442.length + y445.length < 17592186044416 then ((some (([] : List Int) : List Int)).bind fun y452 => ((some (t416.drop (x9_2 : Int).toNat : List Int)).bind fun y455 => (if y452.length + y455.length < 17592186044416 then (some ((y442 ++ y445), (y452 ++ y455), true)) else (none)))) else (none)))) else (spec_ChristoffelSplit.l0 k2 t416 (wrap64 (x9_2 + 1))))) else (spec_ChristoffelSplit.l0 k2 t416 (wrap64 (x9_2 + 1)))) = some (r1, r2, r3) := H
         have A16 := Aside0.mk A160
         clear A160
         by_cases c17 : t436 = true
         ·subst c17
          have H1 : ((spec_IsChristoffel.f k2 (t416.drop (x9_2 : Int).toNat)).bind fun t441 => (if t441 = true then ((some (([] : List Int) : List Int)).bind fun y442 => ((some (t416.take (x9_2 : Int).toNat : List Int)).bind fun y445 => (if y442.length + y445.length < 17592186044416 then ((some (([] : List Int) : List Int)).bind fun y452 => ((some (t416.drop (x9_2 : Int).toNat : List Int)).bind fun y455 => (if y452.length + y455.length < 17592186044416 then (some ((y442 ++ y445), (y452 ++ y455), true)) else (none)))) else (none)))) else (spec_ChristoffelSplit.l0 k2 t416 (wrap64 (x9_2 + 1))))) = some (r1, r2, r3) := by rw [if_pos rfl] at H; exact H
          clear H
          have H := H1
          clear H1
          have c18b0 := eq_true (of_decide_eq_true (by first | (with_reducible assumption) | assumption) : 0 ≤ x9_2)
          have c19b0 := eq_true (of_decide_eq_true (by first | (with_reducible assumption) | assumption) : x9_2 ≤ (t416.length : Int))
          obtain ⟨y437, hy437⟩ : ∃ y_ : List Int, y_ = (t416.drop (x9_2 : Int).toNat) := ⟨_, rfl⟩
          replace H : ((spec_IsChristoffel.f k2 y437).bind fun t441 => (if t441 = true then ((some (([] : List Int) : List Int)).bind fun y442 => ((some (t416.take (x9_2 : Int).toNat : List Int)).bind fun y445 => (if y442.length + y445.length < 17592186044416 then ((some (([] : List Int) : List Int)).bind fun y452 => ((some (t416.drop (x9_2 : Int).toNat : List Int)).bind fun y455 => (if y452.length + y455.length < 17592186044416 then (some ((y442 ++ y445), (y452 ++ y455), true)) else (none)))) else (none)))) else (spec_ChristoffelSplit.l0 k2 t416 (wrap64 (x9_2 + 1))))) = some (r1, r2, r3) := by first | (rw [hy437]; with_reducible exact H) | (have H2_ := (Option.bind_some _ _).symm.trans H; rw [hy437]; with_reducible exact H2_) | (have H2_ := (Option.bind_some _ _).symm.trans H; with_reducible exact H2_) | with_reducible exact H | (rw [hy437]; exact H) | exact H
          have Ny437 := Aside0.mk hy437
          clear hy437
          replace H := Option.bind_eq_some_iff.mp H
          obtain ⟨t441, A200, H⟩ := H
          replace H : (if t441 = true then ((some (([] : List Int) : List Int)).bind fun y442 => ((some (t416.take (x9_2 : Int).toNat : List Int)).bind fun y445 => (if y442.length + y445.length < 17592186044416 then ((some (([] : List Int) : List Int)).bind fun y452 => ((some (t416.drop (x9_2 : Int).toNat : List Int)).bind fun y455 => (if y452.length + y455.length < 17592186044416 then (some ((y442 ++ y445), (y452 ++ y455), true)) else (none)))) else (none)))) else (spec_ChristoffelSplit.l0 k2 t416 (wrap64 (x9_2 + 1)))) = some (r1, r2, r3) := H
          have A20 := Aside0.mk A200
          clear A200
          by_cases c21 : t441 = true
          ·subst c21
           have H1 : ((some (([] : List Int) : List Int)).bind fun y442 => ((some (t416.take (x9_2 : Int).toNat : List Int)).bind fun y445 => (if y442.length + y445.length < 17592186044416 then ((some (([] : List Int) : List Int)).bind fun y452 => ((some (t416.drop (x9_2 : Int).toNat : List Int)).bind fun y455 => (if y452.length + y455.length < 17592186044416 then (some ((y442 ++ y445), (y452 ++ y455), true)) else (none)))) else (none)))) = some (r1, r2, r3) := by rw [if_pos rfl] at H; exact H
           clear H
           have H := H1
           clear H1
           obtain ⟨y442, hy442⟩ : ∃ y_ : List Int, y_ = (([] : List Int)) := ⟨_, rfl⟩
           replace H : ((some (t416.take (x9_2 : Int).toNat : List Int)).bind fun y445 => (if y442.length + y445.length < 17592186044416 then ((some (([] : List Int) : List Int)).bind fun y452 => ((some (t416.drop (x9_2 : Int).toNat : List Int)).bind fun y455 => (if y452.length + y455.length < 17592186044416 then (some ((y442 ++ y445), (y452 ++ y455), true)) else (none)))) else (none))) = some (r1, r2, r3) := by first | (rw [hy442]; with_reducible exact H) | (have H2_ := (Option.bind_some _ _).symm.trans H; rw [hy442]; with_reducible exact H2_) | (have H2_ := (Option.bind_some _ _).symm.trans H; with_reducible exact H2_) | with_reducible exact H | (rw [hy442]; exact H) | exact H
           have Ny442 := Aside0.mk hy442
           clear hy442
           have c22b0 := eq_true (of_decide_eq_true (by first | (with_reducible assumption) | assumption) : 0 ≤ x9_2)
           have c23b0 := eq_true (of_decide_eq_true (by first | (with_reducible assumption) | assumption) : x9_2 ≤ (t416.length : Int))
           obtain ⟨y445, hy445⟩ : ∃ y_ : List Int, y_ = (t416.take (x9_2 : Int).toNat) := ⟨_, rfl⟩
           replace H : (if y442.length + y445.length < 17592186044416 then ((some (([] : List Int) : List Int)).bind fun y452 => ((some (t416.drop (x9_2 : Int).toNat : List Int)).bind fun y455 => (if y452.length + y455.length < 17592186044416 then (some ((y442 ++ y445), (y452 ++ y455), true)) else (none)))) else (none)) = some (r1, r2, r3) := by first | (rw [hy445]; with_reducible exact H) | (have H2_ := (Option.bind_some _ _).symm.trans H; rw [hy445]; with_reducible exact H2_) | (have H2_ := (Option.bind_some _ _).symm.trans H; with_reducible exact H2_) | with_reducible exact H | (rw [hy445]; exact H) | exact H
           have Ny445 := Aside0.mk hy445
           clear hy445
           by_cases c24 : y442.length + y445.length < 17592186044416
           ·rw [if_pos c24] at H
            have LMc24 := Aside0.mk c24
            clear c24
            obtain ⟨y449, hy449⟩ : ∃ y_ : List Int, y_ = (y442 ++ y445) := ⟨_, rfl⟩
            replace H : ((some (([] : List Int) : List Int)).bind fun y452 => ((some (t416.drop (x9_2 : Int).toNat : List Int)).bind fun y455 => (if y452.length + y455.length < 17592186044416 then (some (y449, (y452 ++ y455), true)) else (none)))) = some (r1, r2, r3) := by first | (rw [hy449]; with_reducible exact H) | (have H2_ := (Option.bind_some _ _).symm.trans H; rw [hy449]; with_reducible exact H2_) | (have H2_ := (Option.bind_some _ _).symm.trans H; with_reducible exact H2_) | with_reducible exact H | (rw [hy449]; exact H) | exact H
            have Ny449 := Aside0.mk hy449
            clear hy449
            obtain ⟨y452, hy452⟩ : ∃ y_ : List Int, y_ = (([] : List Int)) := ⟨_, rfl⟩
            replace H : ((some (t416.drop (x9_2 : Int).toNat : List Int)).bind fun y455 => (if y452.length + y455.length < 17592186044416 then (some (y449, (y452 ++ y455), true)) else (none))) = some (r1, r2, r3) := by first | (rw [hy452]; with_reducible exact H) | (have H2_ := (Option.bind_some _ _).symm.trans H; rw [hy452]; with_reducible exact H2_) | (have H2_ := (Option.bind_some _ _).symm.trans H; with_reducible exact H2_) | with_reducible exact H | (rw [hy452]; exact H) | exact H
            have Ny452 := Aside0.mk hy452
            clear hy452
            have c25b0 := eq_true (of_decide_eq_true (by first | (with_reducible assumption) | assumption) : 0 ≤ x9_2)
            have c26b0 := eq_true (of_decide_eq_true (by first | (with_reducible assumption) | assumption) : x9_2 ≤ (t416.length : Int))
            obtain ⟨y455, hy455⟩ : ∃ y_ : List Int, y_ = (t416.drop (x9_2 : Int).toNat) := ⟨_, rfl⟩
            replace H : (if y452.length + y455.length < 17592186044416 then (some (y449, (y452 ++ y455), true)) else (none)) = some (r1, r2, r3) := by first | (rw [hy455]; with_reducible exact H) | (have H2_ := (Option.bind_some _ _).symm.trans H; rw [hy455]; with_reducible exact H2_) | (have H2_ := (Option.bind_some _ _).symm.trans H; with_reducible exact H2_) | with_reducible exact H | (rw [hy455]; exact H) | exact H
            have Ny455 := Aside0.mk hy455
            clear hy455
            by_cases c27 : y452.length + y455.length < 17592186044416
            ·rw [if_pos c27] at H
             have LMc27 := Aside0.mk c27
             clear c27
             obtain ⟨y459, hy459⟩ : ∃ y_ : List Int, y_ = (y452 ++ y455) := ⟨_, rfl⟩
             replace H : (some (y449, y459, true)) = some (r1, r2, r3) := by first | (rw [hy459]; with_reducible exact H) | (have H2_ := (Option.bind_some _ _).symm.trans H; rw [hy459]; with_reducible exact H2_) | (have H2_ := (Option.bind_some _ _).symm.trans H; with_reducible exact H2_) | with_reducible exact H | (rw [hy459]; exact H) | exact H
             have Ny459 := Aside0.mk hy459
             clear hy459
             simp only [Option.some.injEq, Prod.mk.injEq] at H
             obtain ⟨rfl, rfl, rfl⟩ := H
             obtain ⟨Ao28, co28, eo28⟩ := Kd.R_slice HO_7.out
             subst eo28
             have q29 : (x9_2 : Int) ≤ ((t416.length : Int) : Int) := of_decide_eq_true (by first | (with_reducible assumption) | assumption)
             obtain ⟨i029, hi029, _, hsz29, _⟩ := info_parts info3
             have hroom29 : t416.length ≤ co28 := (Kd.R_reads' HO_7.out).2.1
             have hC29 : Kd.C (Kd.int .i64) _ Ao28 t416.length t416 := (Kd.R_reads' HO_7.out).2.2
             have hcut29 := cut_to (P := Try.prog) 26 3 .i64 Try.underlying26 hi029 Ao28 t416.length co28 x9_2 (of_decide_eq_true (by first | (with_reducible assumption) | assumption)) q29 hroom29
             have hr29 := Kd.C_take (m := (x9_2 : Int).toNat) hC29 (by omega)
             have hy29 : y432.length = (x9_2 : Int).toNat := (by rw [Ny432.out, List.length_take]; omega)
             rw [← Ny432.out] at hr29
             rw [← hy29] at hcut29
             have HR435 := Aside0.mk hr29
             have HC435 := Aside0.mk (show y432.length ≤ co28 from by omega)
             clear hr29 hC29 hroom29 hi029 hsz29
             have KY29 := Aside0.mk hy29
             clear hy29
             have KL29 := Aside0.mk (show (x9_2 : Int).toNat ≤ t416.length from by omega)
             replace q29 := eq_true q29
             try go_wp2_with (first | ((with_reducible refine gate_callee (f := 18) rfl ?_); refine goesL_ (some 34) rfl rfl Try.func18 (by kernel_rfl) rfl #[.slice Ao28 y432.length co28] rfl (by (try simp only [List.map_toArray, List.map_cons, List.map_nil]); first | done | rfl | (simp only [List.length_drop, List.length_take]; rfl)) ?_; (with_reducible refine (spec_IsChristoffel.calls k2 _ _ y432 true _ ?side1 ?side2 A16.out).mono ?_); (case side1 => repeat (first | exact (by repeat (first | (with_reducible exact HR435.out) | (with_reducible refine Kd.C_alloc ?_ _) | (with_reducible refine Kd.C_drewN ?_ _) | (with_reducible refine Kd.C_drew ?_) | exact HR435.out)) | (with_reducible refine Kd.C_alloc ?_ _) | (with_reducible refine Kd.C_drewN ?_ _) | (with_reducible refine Kd.C_drew ?_))); (case side2 => exact HC435.out); rintro e w30 ⟨rfl, hb⟩; refine ⟨_, rfl, ?_⟩; have n0_ := Aside0.mk (Kd.R_below (by (with_reducible repeat (first | apply Kd.R_alloc | apply Kd.R_drewN | apply Kd.R_drew)); exact HO_7.out) hb); have n1_ := Aside0.mk (Kd.C_below (by repeat (first | (with_reducible exact HR435.out) | (with_reducible refine Kd.C_alloc ?_ _) | (with_reducible refine Kd.C_drewN ?_ _) | (with_reducible refine Kd.C_drew ?_) | exact HR435.out)) hb); have n2_ := Aside0.mk (below_step (by repeat (first | (with_reducible first | exact HB.out | apply below_alloc | apply pw_below_drewN | apply below_drew1) | exact HB.out)) hb); clear HO_7; clear HR435; clear HB; have HO_7 := n0_; have HR435 := n1_; have HB := n2_; clear n0_ n1_ n2_; (try clear hb); (try clear hb2); (try clear hk); (try clear hi); have q31 : (x9_2 : Int) ≤ ((t416.length : Int) : Int) := of_decide_eq_true (by first | (with_reducible assumption) | assumption); obtain ⟨i031, hi031, _, hsz31, _⟩ := info_parts info3; have hroom31 : t416.length ≤ co28 := (Kd.R_reads' HO_7.out).2.1; have hC31 : Kd.C (Kd.int .i64) _ Ao28 t416.length t416 := (Kd.R_reads' HO_7.out).2.2; have q031 : (0 : Int) ≤ (x9_2 : Int) := of_decide_eq_true (by first | (with_reducible assumption) | assumption); have hcut31 := cut_from (P := Try.prog) 26 3 .i64 Try.underlying26 hi031 1 hsz31 Ao28 t416.length co28 x9_2 q031 q31; have hr31 := Kd.C_drop (m := (x9_2 : Int).toNat) (c := co28) hC31 (by omega) hroom31; obtain ⟨A31, hA31⟩ : ∃ A1, A1 = (if co28 = (x9_2 : Int).toNat then Ao28 else (Ao28 : Option Addr).map (·.add ((x9_2 : Int).toNat * 1))) := ⟨_, rfl⟩; obtain ⟨c31, hc31⟩ : ∃ c1, c1 = co28 - (x9_2 : Int).toNat := ⟨_, rfl⟩; have hy31 : y437.length = t416.length - (x9_2 : Int).toNat := (by rw [Ny437.out, List.length_drop] <;> omega); rw [show (t416).drop (x9_2 : Int).toNat = y437 from Ny437.out.symm] at hr31; replace hr31 : Kd.C (Kd.int .i64) _ A31 y437.length y437 := (by rw [hA31]; exact hr31); rw [← hy31, ← hA31, ← hc31] at hcut31; have HR440 := Aside0.mk hr31; have HC440 := Aside0.mk (show y437.length ≤ c31 from by rw [hy31, hc31]; exact Nat.sub_le_sub_right hroom31 _); clear hr31 hC31 hroom31 hi031 hsz31 hc31; have KY31 := Aside0.mk hy31; have KA31 := Aside0.mk hA31; clear hy31 hA31; have KL31 := Aside0.mk (show (x9_2 : Int).toNat ≤ t416.length from by omega); replace q31 := eq_true q31) | (go_at_call 18; (with_reducible refine (spec_IsChristoffel.calls k2 _ _ y437 true _ ?side1 ?side2 A20.out).mono ?_); (case side1 => repeat (first | exact (by repeat (first | (with_reducible exact HR440.out) | (with_reducible refine Kd.C_alloc ?_ _) | (with_reducible refine Kd.C_drewN ?_ _) | (with_reducible refine Kd.C_drew ?_) | exact HR440.out)) | (with_reducible refine Kd.C_alloc ?_ _) | (with_reducible refine Kd.C_drewN ?_ _) | (with_reducible refine Kd.C_drew ?_))); (case side2 => exact HC440.out); rintro e w32 ⟨rfl, hb⟩; have n0_ := Aside0.mk (Kd.R_below (by (with_reducible repeat (first | apply Kd.R_alloc | apply Kd.R_drewN | apply Kd.R_drew)); exact HO_7.out) hb); have n1_ := Aside0.mk (Kd.C_below (by repeat (first | (with_reducible exact HR435.out) | (with_reducible refine Kd.C_alloc ?_ _) | (with_reducible refine Kd.C_drewN ?_ _) | (with_reducible refine Kd.C_drew ?_) | exact HR435.out)) hb); have n2_ := Aside0.mk (Kd.C_below (by repeat (first | (with_reducible exact HR440.out) | (with_reducible refine Kd.C_alloc ?_ _) | (with_reducible refine Kd.C_drewN ?_ _) | (with_reducible refine Kd.C_drew ?_) | exact HR440.out)) hb); have n3_ := Aside0.mk (below_step (by repeat (first | (with_reducible first | exact HB.out | apply below_alloc | apply pw_below_drewN | apply below_drew1) | exact HB.out)) hb); clear HO_7; clear HR435; clear HR440; clear HB; have HO_7 := n0_; have HR435 := n1_; have HR440 := n2_; have HB := n3_; clear n0_ n1_ n2_ n3_; (try clear hb); (try clear hb2); (try clear hk); (try clear hi)))
             have n0_ := Aside0.mk (Kd.R_drew HO_7.out)
             have n1_ := Aside0.mk (Kd.C_drew HR435.out)
             have n2_ := Aside0.mk (Kd.C_drew HR440.out)
             have n3_ := Aside0.mk (below_drew1 HB.out)
             clear HO_7
             clear HR435
             clear HR440
             clear HB
             have HO_7 := n0_
             have HR435 := n1_
             have HR440 := n2_
             have HB := n3_
             clear n0_ n1_ n2_ n3_
             have q34 : (x9_2 : Int) ≤ ((t416.length : Int) : Int) := of_decide_eq_true (by first | (with_reducible assumption) | assumption)
             obtain ⟨i034, hi034, _, hsz34, _⟩ := info_parts info3
             have hroom34 : t416.length ≤ co28 := (Kd.R_reads' HO_7.out).2.1
             have hC34 : Kd.C (Kd.int .i64) _ Ao28 t416.length t416 := (Kd.R_reads' HO_7.out).2.2
             (try clear hcut29); have hcut34 := cut_to (P := Try.prog) 26 3 .i64 Try.underlying26 hi034 Ao28 t416.length co28 x9_2 (of_decide_eq_true (by first | (with_reducible assumption) | assumption)) q34 hroom34
             have hr34 := Kd.C_take (m := (x9_2 : Int).toNat) hC34 (by omega)
             have hy34 : y445.length = (x9_2 : Int).toNat := (by rw [Ny445.out, List.length_take]; omega)
             rw [← Ny445.out] at hr34
             rw [← hy34] at hcut34
             have HR448 := Aside0.mk hr34
             have HC448 := Aside0.mk (show y445.length ≤ co28 from by omega)
             clear hr34 hC34 hroom34 hi034 hsz34
             have KY34 := Aside0.mk hy34
             clear hy34
             have KL34 := Aside0.mk (show (x9_2 : Int).toNat ≤ t416.length from by omega)
             replace q34 := eq_true q34
             have q35 : (x9_2 : Int) ≤ ((t416.length : Int) : Int) := of_decide_eq_true (by first | (with_reducible assumption) | assumption)
             obtain ⟨i035, hi035, _, hsz35, _⟩ := info_parts info3
             have hroom35 : t416.length ≤ co28 := (Kd.R_reads' HO_7.out).2.1
             have hC35 : Kd.C (Kd.int .i64) _ Ao28 t416.length t416 := (Kd.R_reads' HO_7.out).2.2
             have q035 : (0 : Int) ≤ (x9_2 : Int) := of_decide_eq_true (by first | (with_reducible assumption) | assumption)
             (try clear hcut31); have hcut35 := cut_from (P := Try.prog) 26 3 .i64 Try.underlying26 hi035 1 hsz35 Ao28 t416.length co28 x9_2 q035 q35
             have hr35 := Kd.C_drop (m := (x9_2 : Int).toNat) (c := co28) hC35 (by omega) hroom35
             obtain ⟨A35, hA35⟩ : ∃ A1, A1 = (if co28 = (x9_2 : Int).toNat then Ao28 else (Ao28 : Option Addr).map (·.add ((x9_2 : Int).toNat * 1))) := ⟨_, rfl⟩
             obtain ⟨c35, hc35⟩ : ∃ c1, c1 = co28 - (x9_2 : Int).toNat := ⟨_, rfl⟩
             have hy35 : y455.length = t416.length - (x9_2 : Int).toNat := (by rw [Ny455.out, List.length_drop] <;> omega)
             rw [show (t416).drop (x9_2 : Int).toNat = y455 from Ny455.out.symm] at hr35
             replace hr35 : Kd.C (Kd.int .i64) _ A35 y455.length y455 := (by rw [hA35]; exact hr35)
             rw [← hy35, ← hA35, ← hc35] at hcut35
             have HR458 := Aside0.mk hr35
             have HC458 := Aside0.mk (show y455.length ≤ c35 from by rw [hy35, hc35]; exact Nat.sub_le_sub_right hroom35 _)
             clear hr35 hC35 hroom35 hi035 hsz35 hc35
             have KY35 := Aside0.mk hy35
             have KA35 := Aside0.mk hA35
             clear hy35 hA35
             have KL35 := Aside0.mk (show (x9_2 : Int).toNat ≤ t416.length from by omega)
             replace q35 := eq_true q35
             refine start_ (n := 13) (S := fun w' => True) (ds := []) #[false, false, false, false, false, false, false, false, false, false, false, false, false] (by kernel_rfl) rfl rfl trivial (fun hHeld => ?_); refine with_tabW spec_ChristoffelSplit.tab8 spec_ChristoffelSplit.bits8 (fun HT_ HW_ => ?_)
             generalize w32.drew = w33 at HO_7 HR435 HR440 HB HR448 HR458 hHeld ⊢
             refine pure_ (i := 1) (N := some 42) (v := ?_) (a' := ?_) #[false, true, false, false, false, false, false, false, false, false, false, false, false] rfl rfl (any_of HT_.out (by kernel_rfl)) (fun _ _ _ h => h) (Or.inl ⟨by rfl, ?_⟩) ?_ ?_
             rotate_left
             ·intro w'
              go_simp
              with_reducible rfl
             rotate_left
             ·simp only [Act.put, List.setIfInBounds_toArray, List.set_cons_zero, List.set_cons_succ, i64_w, i32_w]
              rfl
             refine pure_ (i := 2) (N := some 43) (v := ?_) (a' := ?_) #[false, true, true, false, false, false, false, false, false, false, false, false, false] rfl rfl (any_of HT_.out (by kernel_rfl)) (fun _ _ _ h => h) (Or.inl ⟨by rfl, ?_⟩) ?_ ?_
             rotate_left
             ·intro w'
              go_simp
              with_reducible rfl
             rotate_left
             ·simp only [Act.put, List.setIfInBounds_toArray, List.set_cons_zero, List.set_cons_succ, i64_w, i32_w]
              rfl
             refine pure_ (i := 3) (N := some 44) (v := ?_) (a' := ?_) #[false, true, true, true, false, false, false, false, false, false, false, false, false] rfl rfl (any_of HT_.out (by kernel_rfl)) (fun _ _ _ h => h) (Or.inl ⟨by rfl, ?_⟩) ?_ ?_
             rotate_left
             ·intro w'
              go_simp
              with_reducible rfl
             rotate_left
             ·simp only [Act.put, List.setIfInBounds_toArray, List.set_cons_zero, List.set_cons_succ, i64_w, i32_w]
              rfl
             refine pure_ (i := 6) (N := some 47) (v := ?_) (a' := ?_) #[false, true, true, true, false, false, true, false, false, false, false, false, false] rfl rfl (any_of HT_.out (by kernel_rfl)) (fun _ _ _ h => h) (Or.inl ⟨by rfl, ?_⟩) ?_ ?_
             rotate_left
             ·intro w'
              go_simp
              with_reducible rfl
             rotate_left
             ·simp only [Act.put, List.setIfInBounds_toArray, List.set_cons_zero, List.set_cons_succ, i64_w, i32_w]
              rfl
             refine pure_ (i := 7) (N := some 48) (v := ?_) (a' := ?_) #[false, true, true, true, false, false, true, true, false, false, false, false, false] rfl rfl (any_of HT_.out (by kernel_rfl)) (fun _ _ _ h => h) (Or.inl ⟨by rfl, ?_⟩) ?_ ?_
             rotate_left
             ·intro w'
              go_simp
              with_reducible rfl
             rotate_left
             ·simp only [Act.put, List.setIfInBounds_toArray, List.set_cons_zero, List.set_cons_succ, i64_w, i32_w]
              rfl
             refine pure_ (i := 8) (N := some 49) (v := ?_) (a' := ?_) #[false, true, true, true, false, false, true, true, true, false, false, false, false] rfl rfl (any_of HT_.out (by kernel_rfl)) (fun _ _ _ h => h) (Or.inl ⟨by rfl, ?_⟩) ?_ ?_
             rotate_left
             ·intro w'
              go_simp
              with_reducible rfl
             rotate_left
             ·simp only [Act.put, List.setIfInBounds_toArray, List.set_cons_zero, List.set_cons_succ, i64_w, i32_w]
              rfl
             refine join_ (σ := Value × Value × Value) 4 #[true, true, true, true, true, true, true, true, true, false, false, false, false] (fun s_ => [(41, s_.1), (45, s_.2.1), (46, s_.2.2)]) (fun s_ w' => (Kd.R (Kd.int .i64) 3 w' w.heap.size (fun k_ => some k_ ≠ (s_.2.2 : Value).ownBlock ∧ some k_ ≠ (.slice Ao28 t416.length co28 : Value).ownBlock) s_.2.1 y449) ∧ (Kd.R (Kd.int .i64) 3 w' w.heap.size (fun k_ => some k_ ≠ (s_.2.1 : Value).ownBlock ∧ some k_ ≠ (.slice Ao28 t416.length co28 : Value).ownBlock) s_.2.2 y452) ∧ (Kd.R (Kd.int .i64) 3 w' w.heap.size (fun k_ => some k_ ≠ (s_.2.1 : Value).ownBlock ∧ some k_ ≠ (s_.2.2 : Value).ownBlock) (.slice Ao28 t416.length co28) t416) ∧ (Below w.heap.size w w')) ?_ ?_
             rotate_left
             ·intro hCont
              refine two_ (i := 0) (j := 5) (Ni := some 41) (Nj := some 46) #[true, true, true, true, false, false, true, true, true, false, false, false, false] #[false, true, true, true, false, true, true, true, true, false, false, false, false] rfl rfl rfl rfl (two_of HT_.out (by kernel_rfl)) (by decide) (by decide) (fun K hK => ?_) (fun K hK => ?_)
              ·skip
               refine Kd.R_lit_step (Kd.int .i64) _ 3 ?hg (N := 41) ?hd (xs := ([] : List Int)) (inner := []) (ok := fun _ => True) (okp := fun _ => True) ?hr ?hp (fun _ hk => hk) trivial (Below.refl _ _) (Nat.le_refl _) (by simp) ?_; (case hd => rfl); (case hg => rfl); (case hr => first | (go_simp; done) | (go_simp; rfl)); (case hp => exact (Reps.none _ _))
               intro v443 w36 ho37 hb hg_ hnew_
               clear hg_ hnew_
               (first | rw [← Ny442.out] at ho37 | (simp only [Int.reduceToNat] at ho37; rw [← Ny442.out] at ho37))
               have n0_ := Aside0.mk (Kd.R_elder' (by (with_reducible repeat (first | apply Kd.R_alloc | apply Kd.R_drewN | apply Kd.R_drew)); exact HO_7.out) (Kd.R_base ho37) hb)
               have n1_ := Aside0.mk (Kd.R_lower (Kd.R_new' ho37 (Kd.R_lt (by (with_reducible repeat (first | apply Kd.R_alloc | apply Kd.R_drewN | apply Kd.R_drew)); exact HO_7.out))) (below_size (by repeat (first | (with_reducible first | exact HB.out | apply below_alloc | apply pw_below_drewN | apply below_drew1) | exact HB.out))))
               have n2_ := Aside0.mk (Kd.C_below (by repeat (first | (with_reducible exact HR435.out) | (with_reducible refine Kd.C_alloc ?_ _) | (with_reducible refine Kd.C_drewN ?_ _) | (with_reducible refine Kd.C_drew ?_) | exact HR435.out)) hb)
               have n3_ := Aside0.mk (Kd.C_below (by repeat (first | (with_reducible exact HR440.out) | (with_reducible refine Kd.C_alloc ?_ _) | (with_reducible refine Kd.C_drewN ?_ _) | (with_reducible refine Kd.C_drew ?_) | exact HR440.out)) hb)
               have n4_ := Aside0.mk (Kd.C_below (by repeat (first | (with_reducible exact HR448.out) | (with_reducible refine Kd.C_alloc ?_ _) | (with_reducible refine Kd.C_drewN ?_ _) | (with_reducible refine Kd.C_drew ?_) | exact HR448.out)) hb)
               have n5_ := Aside0.mk (Kd.C_below (by repeat (first | (with_reducible exact HR458.out) | (with_reducible refine Kd.C_alloc ?_ _) | (with_reducible refine Kd.C_drewN ?_ _) | (with_reducible refine Kd.C_drew ?_) | exact HR458.out)) hb)
               have n6_ := Aside0.mk (below_step (by repeat (first | (with_reducible first | exact HB.out | apply below_alloc | apply pw_below_drewN | apply below_drew1) | exact HB.out)) hb)
               clear HO_7
               clear HR435
               clear HR440
               clear HR448
               clear HR458
               clear HB
               have HO_7 := n0_
               have HO444 := n1_
               have HR435 := n2_
               have HR440 := n3_
               have HR448 := n4_
               have HR458 := n5_
               have HB := n6_
               clear n0_ n1_ n2_ n3_ n4_ n5_ n6_
               clear hb ho37
               refine hK.out _ _ trivial (fun hHeld => ?_)
               clear hK K
               refine norm_ (a' := ?_) ?_ ?_
               rotate_left
               ·show Act.put _ (some 41) _ = _
                simp only [Act.put, List.setIfInBounds_toArray, List.set_cons_zero, List.set_cons_succ, i64_w, i32_w]
                rfl
               refine two_ (i := 4) (j := 5) (Ni := some 45) (Nj := some 46) #[true, true, true, true, true, false, true, true, true, false, false, false, false] #[true, true, true, true, false, true, true, true, true, false, false, false, false] rfl rfl rfl rfl (two_of HT_.out (by kernel_rfl)) (by decide) (by decide) (fun K hK => ?_) (fun K hK => ?_)
               ·skip
                refine Kd.R_append_rows_step (Kd.int .i64) (w0 := w) w.heap.size (by rfl) (.tmp 41) (.tmp 44) 26 3 (.int .i64 0) 8 rfl Try.underlying26 info3 rfl (by decide) (by omega) v443 y442 y445 _ _ _ (fun k_ => some k_ ≠ (.slice Ao28 t416.length co28 : Value).ownBlock) (fun _ => False) rfl rfl ?aO ?aR (fun _ _ h => h) (fun _ h => h.elim) ?aF ?aB ?aS ?aL ?_
                (case aR => repeat (first | exact (by repeat (first | (with_reducible exact HR448.out) | (with_reducible refine Kd.C_alloc ?_ _) | (with_reducible refine Kd.C_drewN ?_ _) | (with_reducible refine Kd.C_drew ?_) | exact HR448.out)) | (with_reducible refine Kd.C_alloc ?_ _) | (with_reducible refine Kd.C_drewN ?_ _) | (with_reducible refine Kd.C_drew ?_)))
                (case aB => exact (by repeat (first | (with_reducible first | exact HB.out | apply below_alloc | apply pw_below_drewN | apply below_drew1) | exact HB.out)))
                (case aF => exact (fun k_ hk => Kd.fresh' (Kd.R_lt (by (with_reducible repeat (first | apply Kd.R_alloc | apply Kd.R_drewN | apply Kd.R_drew)); exact HO_7.out)) k_ hk))
                (case aO => exact (by (with_reducible repeat (first | apply Kd.R_alloc | apply Kd.R_drewN | apply Kd.R_drew)); exact Kd.R_mono HO444.out (fun _ hk => hk.2)))
                (case aS => exact (below_size (by repeat (first | (with_reducible first | exact HB.out | apply below_alloc | apply pw_below_drewN | apply below_drew1) | exact HB.out))))
                (case aL => have := LMc24.out; omega)
                intro v450 w38 ho hb hg hat
                rw [← Ny449.out] at ho
                have n0_ := Aside0.mk (Kd.R_after (ok := (fun _ => True)) (by (with_reducible repeat (first | apply Kd.R_alloc | apply Kd.R_drewN | apply Kd.R_drew)); exact HO_7.out) hg hat)
                have n1_ := Aside0.mk (hb)
                have n2_ := Aside0.mk ((show Kd.C (Kd.int .i64) w38 Ao28 y432.length y432 from by rw [Ny432.out]; exact Kd.C_take (m := (x9_2 : Int).toNat) ((Kd.R_reads' (Kd.R_after (ok := (fun _ => True)) (by (with_reducible repeat (first | apply Kd.R_alloc | apply Kd.R_drewN | apply Kd.R_drew)); exact HO_7.out) hg hat)).2.2) KL29.out))
                have n3_ := Aside0.mk ((show Kd.C (Kd.int .i64) w38 A31 y437.length y437 from by rw [Ny437.out, KA31.out]; exact Kd.C_drop (m := (x9_2 : Int).toNat) (c := co28) ((Kd.R_reads' (Kd.R_after (ok := (fun _ => True)) (by (with_reducible repeat (first | apply Kd.R_alloc | apply Kd.R_drewN | apply Kd.R_drew)); exact HO_7.out) hg hat)).2.2) KL31.out ((Kd.R_reads' (Kd.R_after (ok := (fun _ => True)) (by (with_reducible repeat (first | apply Kd.R_alloc | apply Kd.R_drewN | apply Kd.R_drew)); exact HO_7.out) hg hat)).2.1)))
                have n4_ := Aside0.mk ((show Kd.C (Kd.int .i64) w38 Ao28 y445.length y445 from by rw [Ny445.out]; exact Kd.C_take (m := (x9_2 : Int).toNat) ((Kd.R_reads' (Kd.R_after (ok := (fun _ => True)) (by (with_reducible repeat (first | apply Kd.R_alloc | apply Kd.R_drewN | apply Kd.R_drew)); exact HO_7.out) hg hat)).2.2) KL34.out))
                have n5_ := Aside0.mk ((show Kd.C (Kd.int .i64) w38 A35 y455.length y455 from by rw [Ny455.out, KA35.out]; exact Kd.C_drop (m := (x9_2 : Int).toNat) (c := co28) ((Kd.R_reads' (Kd.R_after (ok := (fun _ => True)) (by (with_reducible repeat (first | apply Kd.R_alloc | apply Kd.R_drewN | apply Kd.R_drew)); exact HO_7.out) hg hat)).2.2) KL35.out ((Kd.R_reads' (Kd.R_after (ok := (fun _ => True)) (by (with_reducible repeat (first | apply Kd.R_alloc | apply Kd.R_drewN | apply Kd.R_drew)); exact HO_7.out) hg hat)).2.1)))
                have n6_ := Aside0.mk (ho)
                clear HO_7
                clear HB
                clear HR435
                clear HR440
                clear HR448
                clear HR458
                clear HO444
                have HO_7 := n0_
                have HB := n1_
                have HR435 := n2_
                have HR440 := n3_
                have HR448 := n4_
                have HR458 := n5_
                have HO451 := n6_
                clear n0_ n1_ n2_ n3_ n4_ n5_ n6_
                clear ho hb hg hat
                refine hK.out _ _ trivial (fun hHeld => ?_)
                clear hK K
                refine norm_ (a' := ?_) ?_ ?_
                rotate_left
                ·show Act.put _ (some 45) _ = _
                 simp only [Act.put, List.setIfInBounds_toArray, List.set_cons_zero, List.set_cons_succ, i64_w, i32_w]
                 rfl
                refine one_ (i := 5) (N := some 46) #[true, true, true, true, true, true, true, true, true, false, false, false, false] rfl rfl (one_of HT_.out (by kernel_rfl)) (by decide) (fun K hK => ?_)
                refine Kd.R_lit_step (Kd.int .i64) _ 3 ?hg (N := 46) ?hd (xs := ([] : List Int)) (inner := []) (ok := fun _ => True) (okp := fun _ => True) ?hr ?hp (fun _ hk => hk) trivial (Below.refl _ _) (Nat.le_refl _) (by simp) ?_; (case hd => rfl); (case hg => rfl); (case hr => first | (go_simp; done) | (go_simp; rfl)); (case hp => exact (Reps.none _ _))
                intro v453 w39 ho40 hb hg_ hnew_
                clear hg_ hnew_
                (first | rw [← Ny452.out] at ho40 | (simp only [Int.reduceToNat] at ho40; rw [← Ny452.out] at ho40))
                have n0_ := Aside0.mk (Kd.R_elder' (by (with_reducible repeat (first | apply Kd.R_alloc | apply Kd.R_drewN | apply Kd.R_drew)); exact HO_7.out) (Kd.R_base ho40) hb)
                have n1_ := Aside0.mk (Kd.R_elder' (by (with_reducible repeat (first | apply Kd.R_alloc | apply Kd.R_drewN | apply Kd.R_drew)); exact HO451.out) (Kd.R_base ho40) hb)
                have n2_ := Aside0.mk (Kd.R_lower (Kd.R_new' (Kd.R_new' ho40 (Kd.R_lt (by (with_reducible repeat (first | apply Kd.R_alloc | apply Kd.R_drewN | apply Kd.R_drew)); exact HO_7.out))) (Kd.R_lt (by (with_reducible repeat (first | apply Kd.R_alloc | apply Kd.R_drewN | apply Kd.R_drew)); exact HO451.out))) (below_size (by repeat (first | (with_reducible first | exact HB.out | apply below_alloc | apply pw_below_drewN | apply below_drew1) | exact HB.out))))
                have n3_ := Aside0.mk (Kd.C_below (by repeat (first | (with_reducible exact HR435.out) | (with_reducible refine Kd.C_alloc ?_ _) | (with_reducible refine Kd.C_drewN ?_ _) | (with_reducible refine Kd.C_drew ?_) | exact HR435.out)) hb)
                have n4_ := Aside0.mk (Kd.C_below (by repeat (first | (with_reducible exact HR440.out) | (with_reducible refine Kd.C_alloc ?_ _) | (with_reducible refine Kd.C_drewN ?_ _) | (with_reducible refine Kd.C_drew ?_) | exact HR440.out)) hb)
                have n5_ := Aside0.mk (Kd.C_below (by repeat (first | (with_reducible exact HR448.out) | (with_reducible refine Kd.C_alloc ?_ _) | (with_reducible refine Kd.C_drewN ?_ _) | (with_reducible refine Kd.C_drew ?_) | exact HR448.out)) hb)
                have n6_ := Aside0.mk (Kd.C_below (by repeat (first | (with_reducible exact HR458.out) | (with_reducible refine Kd.C_alloc ?_ _) | (with_reducible refine Kd.C_drewN ?_ _) | (with_reducible refine Kd.C_drew ?_) | exact HR458.out)) hb)
                have n7_ := Aside0.mk (below_step (by repeat (first | (with_reducible first | exact HB.out | apply below_alloc | apply pw_below_drewN | apply below_drew1) | exact HB.out)) hb)
                clear HO_7
                clear HO451
                clear HR435
                clear HR440
                clear HR448
                clear HR458
                clear HB
                have HO_7 := n0_
                have HO451 := n1_
                have HO454 := n2_
                have HR435 := n3_
                have HR440 := n4_
                have HR448 := n5_
                have HR458 := n6_
                have HB := n7_
                clear n0_ n1_ n2_ n3_ n4_ n5_ n6_ n7_
                clear hb ho40
                refine hK.out _ _ trivial (fun hHeld => ?_)
                clear hK K
                refine norm_ (a' := ?_) ?_ ?_
                rotate_left
                ·show Act.put _ (some 46) _ = _
                 simp only [Act.put, List.setIfInBounds_toArray, List.set_cons_zero, List.set_cons_succ, i64_w, i32_w]
                 rfl
                exact norm_ (by simp only [putAll, Act.put, List.setIfInBounds_toArray, List.set_cons_zero, List.set_cons_succ]) (hCont (v443, v450, v453) _ ⟨(by (with_reducible repeat (first | apply Kd.R_alloc | apply Kd.R_drewN | apply Kd.R_drew)); exact Kd.R_mono HO451.out (fun _ hk => ⟨hk.2, hk.1⟩)), (by (with_reducible repeat (first | apply Kd.R_alloc | apply Kd.R_drewN | apply Kd.R_drew)); exact Kd.R_mono HO454.out (fun _ hk => ⟨hk.2, hk.1.2⟩)), (by (with_reducible repeat (first | apply Kd.R_alloc | apply Kd.R_drewN | apply Kd.R_drew)); exact Kd.R_mono HO_7.out (fun _ hk => ⟨hk.1.2, hk.2⟩)), (by repeat (first | (with_reducible first | exact HB.out | apply below_alloc | apply pw_below_drewN | apply below_drew1) | exact HB.out))⟩)
               ·skip
                refine Kd.R_lit_step (Kd.int .i64) _ 3 ?hg (N := 46) ?hd (xs := ([] : List Int)) (inner := []) (ok := fun _ => True) (okp := fun _ => True) ?hr ?hp (fun _ hk => hk) trivial (Below.refl _ _) (Nat.le_refl _) (by simp) ?_; (case hd => rfl); (case hg => rfl); (case hr => first | (go_simp; done) | (go_simp; rfl)); (case hp => exact (Reps.none _ _))
                intro v453 w38 ho39 hb hg_ hnew_
                clear hg_ hnew_
                (first | rw [← Ny452.out] at ho39 | (simp only [Int.reduceToNat] at ho39; rw [← Ny452.out] at ho39))
                have n0_ := Aside0.mk (Kd.R_elder' (by (with_reducible repeat (first | apply Kd.R_alloc | apply Kd.R_drewN | apply Kd.R_drew)); exact HO_7.out) (Kd.R_base ho39) hb)
                have n1_ := Aside0.mk (Kd.R_elder' (by (with_reducible repeat (first | apply Kd.R_alloc | apply Kd.R_drewN | apply Kd.R_drew)); exact HO444.out) (Kd.R_base ho39) hb)
                have n2_ := Aside0.mk (Kd.R_lower (Kd.R_new' (Kd.R_new' ho39 (Kd.R_lt (by (with_reducible repeat (first | apply Kd.R_alloc | apply Kd.R_drewN | apply Kd.R_drew)); exact HO_7.out))) (Kd.R_lt (by (with_reducible repeat (first | apply Kd.R_alloc | apply Kd.R_drewN | apply Kd.R_drew)); exact HO444.out))) (below_size (by repeat (first | (with_reducible first | exact HB.out | apply below_alloc | apply pw_below_drewN | apply below_drew1) | exact HB.out))))
                have n3_ := Aside0.mk (Kd.C_below (by repeat (first | (with_reducible exact HR435.out) | (with_reducible refine Kd.C_alloc ?_ _) | (with_reducible refine Kd.C_drewN ?_ _) | (with_reducible refine Kd.C_drew ?_) | exact HR435.out)) hb)
                have n4_ := Aside0.mk (Kd.C_below (by repeat (first | (with_reducible exact HR440.out) | (with_reducible refine Kd.C_alloc ?_ _) | (with_reducible refine Kd.C_drewN ?_ _) | (with_reducible refine Kd.C_drew ?_) | exact HR440.out)) hb)
                have n5_ := Aside0.mk (Kd.C_below (by repeat (first | (with_reducible exact HR448.out) | (with_reducible refine Kd.C_alloc ?_ _) | (with_reducible refine Kd.C_drewN ?_ _) | (with_reducible refine Kd.C_drew ?_) | exact HR448.out)) hb)
                have n6_ := Aside0.mk (Kd.C_below (by repeat (first | (with_reducible exact HR458.out) | (with_reducible refine Kd.C_alloc ?_ _) | (with_reducible refine Kd.C_drewN ?_ _) | (with_reducible refine Kd.C_drew ?_) | exact HR458.out)) hb)
                have n7_ := Aside0.mk (below_step (by repeat (first | (with_reducible first | exact HB.out | apply below_alloc | apply pw_below_drewN | apply below_drew1) | exact HB.out)) hb)
                clear HO_7
                clear HO444
                clear HR435
                clear HR440
                clear HR448
                clear HR458
                clear HB
                have HO_7 := n0_
                have HO444 := n1_
                have HO454 := n2_
                have HR435 := n3_
                have HR440 := n4_
                have HR448 := n5_
                have HR458 := n6_
                have HB := n7_
                clear n0_ n1_ n2_ n3_ n4_ n5_ n6_ n7_
                clear hb ho39
                refine hK.out _ _ trivial (fun hHeld => ?_)
                clear hK K
                refine norm_ (a' := ?_) ?_ ?_
                rotate_left
                ·show Act.put _ (some 46) _ = _
                 simp only [Act.put, List.setIfInBounds_toArray, List.set_cons_zero, List.set_cons_succ, i64_w, i32_w]
                 rfl
                refine one_ (i := 4) (N := some 45) #[true, true, true, true, true, true, true, true, true, false, false, false, false] rfl rfl (one_of HT_.out (by kernel_rfl)) (by decide) (fun K hK => ?_)
                refine Kd.R_append_rows_step (Kd.int .i64) (w0 := w) w.heap.size (by rfl) (.tmp 41) (.tmp 44) 26 3 (.int .i64 0) 8 rfl Try.underlying26 info3 rfl (by decide) (by omega) v443 y442 y445 _ _ _ (fun k_ => some k_ ≠ (.slice Ao28 t416.length co28 : Value).ownBlock ∧ some k_ ≠ (v453 : Value).ownBlock) (fun _ => False) rfl rfl ?aO ?aR (fun _ _ h => h) (fun _ h => h.elim) ?aF ?aB ?aS ?aL ?_
                (case aR => repeat (first | exact (by repeat (first | (with_reducible exact HR448.out) | (with_reducible refine Kd.C_alloc ?_ _) | (with_reducible refine Kd.C_drewN ?_ _) | (with_reducible refine Kd.C_drew ?_) | exact HR448.out)) | (with_reducible refine Kd.C_alloc ?_ _) | (with_reducible refine Kd.C_drewN ?_ _) | (with_reducible refine Kd.C_drew ?_)))
                (case aB => exact (by repeat (first | (with_reducible first | exact HB.out | apply below_alloc | apply pw_below_drewN | apply below_drew1) | exact HB.out)))
                (case aF => exact (fun k_ hk => ⟨Kd.fresh' (Kd.R_lt (by (with_reducible repeat (first | apply Kd.R_alloc | apply Kd.R_drewN | apply Kd.R_drew)); exact HO_7.out)) k_ hk, Kd.fresh' (Kd.R_lt (by (with_reducible repeat (first | apply Kd.R_alloc | apply Kd.R_drewN | apply Kd.R_drew)); exact HO454.out)) k_ hk⟩))
                (case aO => exact (by (with_reducible repeat (first | apply Kd.R_alloc | apply Kd.R_drewN | apply Kd.R_drew)); exact Kd.R_mono HO444.out (fun _ hk => ⟨hk.1.2, hk.2⟩)))
                (case aS => exact (below_size (by repeat (first | (with_reducible first | exact HB.out | apply below_alloc | apply pw_below_drewN | apply below_drew1) | exact HB.out))))
                (case aL => have := LMc24.out; omega)
                intro v450 w40 ho hb hg hat
                rw [← Ny449.out] at ho
                have n0_ := Aside0.mk (Kd.R_after (ok := (fun k_ => some k_ ≠ (v453 : Value).ownBlock)) (by (with_reducible repeat (first | apply Kd.R_alloc | apply Kd.R_drewN | apply Kd.R_drew)); exact Kd.R_mono HO_7.out (fun _ hk => ⟨hk.2, hk.1.2⟩)) hg hat)
                have n1_ := Aside0.mk (Kd.R_after (ok := (fun k_ => some k_ ≠ (.slice Ao28 t416.length co28 : Value).ownBlock)) (by (with_reducible repeat (first | apply Kd.R_alloc | apply Kd.R_drewN | apply Kd.R_drew)); exact Kd.R_mono HO454.out (fun _ hk => ⟨hk.1.2, hk.2⟩)) hg hat)
                have n2_ := Aside0.mk (hb)
                have n3_ := Aside0.mk ((show Kd.C (Kd.int .i64) w40 Ao28 y432.length y432 from by rw [Ny432.out]; exact Kd.C_take (m := (x9_2 : Int).toNat) ((Kd.R_reads' (Kd.R_after (ok := (fun k_ => some k_ ≠ (v453 : Value).ownBlock)) (by (with_reducible repeat (first | apply Kd.R_alloc | apply Kd.R_drewN | apply Kd.R_drew)); exact Kd.R_mono HO_7.out (fun _ hk => ⟨hk.2, hk.1.2⟩)) hg hat)).2.2) KL29.out))
                have n4_ := Aside0.mk ((show Kd.C (Kd.int .i64) w40 A31 y437.length y437 from by rw [Ny437.out, KA31.out]; exact Kd.C_drop (m := (x9_2 : Int).toNat) (c := co28) ((Kd.R_reads' (Kd.R_after (ok := (fun k_ => some k_ ≠ (v453 : Value).ownBlock)) (by (with_reducible repeat (first | apply Kd.R_alloc | apply Kd.R_drewN | apply Kd.R_drew)); exact Kd.R_mono HO_7.out (fun _ hk => ⟨hk.2, hk.1.2⟩)) hg hat)).2.2) KL31.out ((Kd.R_reads' (Kd.R_after (ok := (fun k_ => some k_ ≠ (v453 : Value).ownBlock)) (by (with_reducible repeat (first | apply Kd.R_alloc | apply Kd.R_drewN | apply Kd.R_drew)); exact Kd.R_mono HO_7.out (fun _ hk => ⟨hk.2, hk.1.2⟩)) hg hat)).2.1)))
                have n5_ := Aside0.mk ((show Kd.C (Kd.int .i64) w40 Ao28 y445.length y445 from by rw [Ny445.out]; exact Kd.C_take (m := (x9_2 : Int).toNat) ((Kd.R_reads' (Kd.R_after (ok := (fun k_ => some k_ ≠ (v453 : Value).ownBlock)) (by (with_reducible repeat (first | apply Kd.R_alloc | apply Kd.R_drewN | apply Kd.R_drew)); exact Kd.R_mono HO_7.out (fun _ hk => ⟨hk.2, hk.1.2⟩)) hg hat)).2.2) KL34.out))
                have n6_ := Aside0.mk ((show Kd.C (Kd.int .i64) w40 A35 y455.length y455 from by rw [Ny455.out, KA35.out]; exact Kd.C_drop (m := (x9_2 : Int).toNat) (c := co28) ((Kd.R_reads' (Kd.R_after (ok := (fun k_ => some k_ ≠ (v453 : Value).ownBlock)) (by (with_reducible repeat (first | apply Kd.R_alloc | apply Kd.R_drewN | apply Kd.R_drew)); exact Kd.R_mono HO_7.out (fun _ hk => ⟨hk.2, hk.1.2⟩)) hg hat)).2.2) KL35.out ((Kd.R_reads' (Kd.R_after (ok := (fun k_ => some k_ ≠ (v453 : Value).ownBlock)) (by (with_reducible repeat (first | apply Kd.R_alloc | apply Kd.R_drewN | apply Kd.R_drew)); exact Kd.R_mono HO_7.out (fun _ hk => ⟨hk.2, hk.1.2⟩)) hg hat)).2.1)))
                have n7_ := Aside0.mk (ho)
                clear HO_7
                clear HO454
                clear HB
                clear HR435
                clear HR440
                clear HR448
                clear HR458
                clear HO444
                have HO_7 := n0_
                have HO454 := n1_
                have HB := n2_
                have HR435 := n3_
                have HR440 := n4_
                have HR448 := n5_
                have HR458 := n6_
                have HO451 := n7_
                clear n0_ n1_ n2_ n3_ n4_ n5_ n6_ n7_
                clear ho hb hg hat
                refine hK.out _ _ trivial (fun hHeld => ?_)
                clear hK K
                refine norm_ (a' := ?_) ?_ ?_
                rotate_left
                ·show Act.put _ (some 45) _ = _
                 simp only [Act.put, List.setIfInBounds_toArray, List.set_cons_zero, List.set_cons_succ, i64_w, i32_w]
                 rfl
                exact norm_ (by simp only [putAll, Act.put, List.setIfInBounds_toArray, List.set_cons_zero, List.set_cons_succ]) (hCont (v443, v450, v453) _ ⟨(by (with_reducible repeat (first | apply Kd.R_alloc | apply Kd.R_drewN | apply Kd.R_drew)); exact Kd.R_mono HO451.out (fun _ hk => ⟨hk.2, hk.1⟩)), (by (with_reducible repeat (first | apply Kd.R_alloc | apply Kd.R_drewN | apply Kd.R_drew)); exact Kd.R_mono HO454.out (fun _ hk => ⟨hk.2, hk.1⟩)), (by (with_reducible repeat (first | apply Kd.R_alloc | apply Kd.R_drewN | apply Kd.R_drew)); exact Kd.R_mono HO_7.out (fun _ hk => ⟨hk.2, hk.1⟩)), (by repeat (first | (with_reducible first | exact HB.out | apply below_alloc | apply pw_below_drewN | apply below_drew1) | exact HB.out))⟩)
              ·skip
               refine Kd.R_lit_step (Kd.int .i64) _ 3 ?hg (N := 46) ?hd (xs := ([] : List Int)) (inner := []) (ok := fun _ => True) (okp := fun _ => True) ?hr ?hp (fun _ hk => hk) trivial (Below.refl _ _) (Nat.le_refl _) (by simp) ?_; (case hd => rfl); (case hg => rfl); (case hr => first | (go_simp; done) | (go_simp; rfl)); (case hp => exact (Reps.none _ _))
               intro v453 w36 ho37 hb hg_ hnew_
               clear hg_ hnew_
               (first | rw [← Ny452.out] at ho37 | (simp only [Int.reduceToNat] at ho37; rw [← Ny452.out] at ho37))
               have n0_ := Aside0.mk (Kd.R_elder' (by (with_reducible repeat (first | apply Kd.R_alloc | apply Kd.R_drewN | apply Kd.R_drew)); exact HO_7.out) (Kd.R_base ho37) hb)
               have n1_ := Aside0.mk (Kd.R_lower (Kd.R_new' ho37 (Kd.R_lt (by (with_reducible repeat (first | apply Kd.R_alloc | apply Kd.R_drewN | apply Kd.R_drew)); exact HO_7.out))) (below_size (by repeat (first | (with_reducible first | exact HB.out | apply below_alloc | apply pw_below_drewN | apply below_drew1) | exact HB.out))))
               have n2_ := Aside0.mk (Kd.C_below (by repeat (first | (with_reducible exact HR435.out) | (with_reducible refine Kd.C_alloc ?_ _) | (with_reducible refine Kd.C_drewN ?_ _) | (with_reducible refine Kd.C_drew ?_) | exact HR435.out)) hb)
               have n3_ := Aside0.mk (Kd.C_below (by repeat (first | (with_reducible exact HR440.out) | (with_reducible refine Kd.C_alloc ?_ _) | (with_reducible refine Kd.C_drewN ?_ _) | (with_reducible refine Kd.C_drew ?_) | exact HR440.out)) hb)
               have n4_ := Aside0.mk (Kd.C_below (by repeat (first | (with_reducible exact HR448.out) | (with_reducible refine Kd.C_alloc ?_ _) | (with_reducible refine Kd.C_drewN ?_ _) | (with_reducible refine Kd.C_drew ?_) | exact HR448.out)) hb)
               have n5_ := Aside0.mk (Kd.C_below (by repeat (first | (with_reducible exact HR458.out) | (with_reducible refine Kd.C_alloc ?_ _) | (with_reducible refine Kd.C_drewN ?_ _) | (with_reducible refine Kd.C_drew ?_) | exact HR458.out)) hb)
               have n6_ := Aside0.mk (below_step (by repeat (first | (with_reducible first | exact HB.out | apply below_alloc | apply pw_below_drewN | apply below_drew1) | exact HB.out)) hb)
               clear HO_7
               clear HR435
               clear HR440
               clear HR448
               clear HR458
               clear HB
               have HO_7 := n0_
               have HO454 := n1_
               have HR435 := n2_
               have HR440 := n3_
               have HR448 := n4_
               have HR458 := n5_
               have HB := n6_
               clear n0_ n1_ n2_ n3_ n4_ n5_ n6_
               clear hb ho37
               refine hK.out _ _ trivial (fun hHeld => ?_)
               clear hK K
               refine norm_ (a' := ?_) ?_ ?_
               rotate_left
               ·show Act.put _ (some 46) _ = _
                simp only [Act.put, List.setIfInBounds_toArray, List.set_cons_zero, List.set_cons_succ, i64_w, i32_w]
                rfl
               refine one_ (i := 0) (N := some 41) #[true, true, true, true, false, true, true, true, true, false, false, false, false] rfl rfl (one_of HT_.out (by kernel_rfl)) (by decide) (fun K hK => ?_)
               refine Kd.R_lit_step (Kd.int .i64) _ 3 ?hg (N := 41) ?hd (xs := ([] : List Int)) (inner := []) (ok := fun _ => True) (okp := fun _ => True) ?hr ?hp (fun _ hk => hk) trivial (Below.refl _ _) (Nat.le_refl _) (by simp) ?_; (case hd => rfl); (case hg => rfl); (case hr => first | (go_simp; done) | (go_simp; rfl)); (case hp => exact (Reps.none _ _))
               intro v443 w38 ho39 hb hg_ hnew_
               clear hg_ hnew_
               (first | rw [← Ny442.out] at ho39 | (simp only [Int.reduceToNat] at ho39; rw [← Ny442.out] at ho39))
               have n0_ := Aside0.mk (Kd.R_elder' (by (with_reducible repeat (first | apply Kd.R_alloc | apply Kd.R_drewN | apply Kd.R_drew)); exact HO_7.out) (Kd.R_base ho39) hb)
               have n1_ := Aside0.mk (Kd.R_elder' (by (with_reducible repeat (first | apply Kd.R_alloc | apply Kd.R_drewN | apply Kd.R_drew)); exact HO454.out) (Kd.R_base ho39) hb)
               have n2_ := Aside0.mk (Kd.R_lower (Kd.R_new' (Kd.R_new' ho39 (Kd.R_lt (by (with_reducible repeat (first | apply Kd.R_alloc | apply Kd.R_drewN | apply Kd.R_drew)); exact HO_7.out))) (Kd.R_lt (by (with_reducible repeat (first | apply Kd.R_alloc | apply Kd.R_drewN | apply Kd.R_drew)); exact HO454.out))) (below_size (by repeat (first | (with_reducible first | exact HB.out | apply below_alloc | apply pw_below_drewN | apply below_drew1) | exact HB.out))))
               have n3_ := Aside0.mk (Kd.C_below (by repeat (first | (with_reducible exact HR435.out) | (with_reducible refine Kd.C_alloc ?_ _) | (with_reducible refine Kd.C_drewN ?_ _) | (with_reducible refine Kd.C_drew ?_) | exact HR435.out)) hb)
               have n4_ := Aside0.mk (Kd.C_below (by repeat (first | (with_reducible exact HR440.out) | (with_reducible refine Kd.C_alloc ?_ _) | (with_reducible refine Kd.C_drewN ?_ _) | (with_reducible refine Kd.C_drew ?_) | exact HR440.out)) hb)
               have n5_ := Aside0.mk (Kd.C_below (by repeat (first | (with_reducible exact HR448.out) | (with_reducible refine Kd.C_alloc ?_ _) | (with_reducible refine Kd.C_drewN ?_ _) | (with_reducible refine Kd.C_drew ?_) | exact HR448.out)) hb)
               have n6_ := Aside0.mk (Kd.C_below (by repeat (first | (with_reducible exact HR458.out) | (with_reducible refine Kd.C_alloc ?_ _) | (with_reducible refine Kd.C_drewN ?_ _) | (with_reducible refine Kd.C_drew ?_) | exact HR458.out)) hb)
               have n7_ := Aside0.mk (below_step (by repeat (first | (with_reducible first | exact HB.out | apply below_alloc | apply pw_below_drewN | apply below_drew1) | exact HB.out)) hb)
               clear HO_7
               clear HO454
               clear HR435
               clear HR440
               clear HR448
               clear HR458
               clear HB
               have HO_7 := n0_
               have HO454 := n1_
               have HO444 := n2_
               have HR435 := n3_
               have HR440 := n4_
               have HR448 := n5_
               have HR458 := n6_
               have HB := n7_
               clear n0_ n1_ n2_ n3_ n4_ n5_ n6_ n7_
               clear hb ho39
               refine hK.out _ _ trivial (fun hHeld => ?_)
               clear hK K
               refine norm_ (a' := ?_) ?_ ?_
               rotate_left
               ·show Act.put _ (some 41) _ = _
                simp only [Act.put, List.setIfInBounds_toArray, List.set_cons_zero, List.set_cons_succ, i64_w, i32_w]
                rfl
               refine one_ (i := 4) (N := some 45) #[true, true, true, true, true, true, true, true, true, false, false, false, false] rfl rfl (one_of HT_.out (by kernel_rfl)) (by decide) (fun K hK => ?_)
               refine Kd.R_append_rows_step (Kd.int .i64) (w0 := w) w.heap.size (by rfl) (.tmp 41) (.tmp 44) 26 3 (.int .i64 0) 8 rfl Try.underlying26 info3 rfl (by decide) (by omega) v443 y442 y445 _ _ _ (fun k_ => some k_ ≠ (.slice Ao28 t416.length co28 : Value).ownBlock ∧ some k_ ≠ (v453 : Value).ownBlock) (fun _ => False) rfl rfl ?aO ?aR (fun _ _ h => h) (fun _ h => h.elim) ?aF ?aB ?aS ?aL ?_
               (case aR => repeat (first | exact (by repeat (first | (with_reducible exact HR448.out) | (with_reducible refine Kd.C_alloc ?_ _) | (with_reducible refine Kd.C_drewN ?_ _) | (with_reducible refine Kd.C_drew ?_) | exact HR448.out)) | (with_reducible refine Kd.C_alloc ?_ _) | (with_reducible refine Kd.C_drewN ?_ _) | (with_reducible refine Kd.C_drew ?_)))
               (case aB => exact (by repeat (first | (with_reducible first | exact HB.out | apply below_alloc | apply pw_below_drewN | apply below_drew1) | exact HB.out)))
               (case aF => exact (fun k_ hk => ⟨Kd.fresh' (Kd.R_lt (by (with_reducible repeat (first | apply Kd.R_alloc | apply Kd.R_drewN | apply Kd.R_drew)); exact HO_7.out)) k_ hk, Kd.fresh' (Kd.R_lt (by (with_reducible repeat (first | apply Kd.R_alloc | apply Kd.R_drewN | apply Kd.R_drew)); exact HO454.out)) k_ hk⟩))
               (case aO => exact (by (with_reducible repeat (first | apply Kd.R_alloc | apply Kd.R_drewN | apply Kd.R_drew)); exact Kd.R_mono HO444.out (fun _ hk => ⟨hk.1.2, hk.2⟩)))
               (case aS => exact (below_size (by repeat (first | (with_reducible first | exact HB.out | apply below_alloc | apply pw_below_drewN | apply below_drew1) | exact HB.out))))
               (case aL => have := LMc24.out; omega)
               intro v450 w40 ho hb hg hat
               rw [← Ny449.out] at ho
               have n0_ := Aside0.mk (Kd.R_after (ok := (fun k_ => some k_ ≠ (v453 : Value).ownBlock)) (by (with_reducible repeat (first | apply Kd.R_alloc | apply Kd.R_drewN | apply Kd.R_drew)); exact Kd.R_mono HO_7.out (fun _ hk => ⟨hk.1.2, hk.2⟩)) hg hat)
               have n1_ := Aside0.mk (Kd.R_after (ok := (fun k_ => some k_ ≠ (.slice Ao28 t416.length co28 : Value).ownBlock)) (by (with_reducible repeat (first | apply Kd.R_alloc | apply Kd.R_drewN | apply Kd.R_drew)); exact Kd.R_mono HO454.out (fun _ hk => ⟨hk.1.2, hk.2⟩)) hg hat)
               have n2_ := Aside0.mk (hb)
               have n3_ := Aside0.mk ((show Kd.C (Kd.int .i64) w40 Ao28 y432.length y432 from by rw [Ny432.out]; exact Kd.C_take (m := (x9_2 : Int).toNat) ((Kd.R_reads' (Kd.R_after (ok := (fun k_ => some k_ ≠ (v453 : Value).ownBlock)) (by (with_reducible repeat (first | apply Kd.R_alloc | apply Kd.R_drewN | apply Kd.R_drew)); exact Kd.R_mono HO_7.out (fun _ hk => ⟨hk.1.2, hk.2⟩)) hg hat)).2.2) KL29.out))
               have n4_ := Aside0.mk ((show Kd.C (Kd.int .i64) w40 A31 y437.length y437 from by rw [Ny437.out, KA31.out]; exact Kd.C_drop (m := (x9_2 : Int).toNat) (c := co28) ((Kd.R_reads' (Kd.R_after (ok := (fun k_ => some k_ ≠ (v453 : Value).ownBlock)) (by (with_reducible repeat (first | apply Kd.R_alloc | apply Kd.R_drewN | apply Kd.R_drew)); exact Kd.R_mono HO_7.out (fun _ hk => ⟨hk.1.2, hk.2⟩)) hg hat)).2.2) KL31.out ((Kd.R_reads' (Kd.R_after (ok := (fun k_ => some k_ ≠ (v453 : Value).ownBlock)) (by (with_reducible repeat (first | apply Kd.R_alloc | apply Kd.R_drewN | apply Kd.R_drew)); exact Kd.R_mono HO_7.out (fun _ hk => ⟨hk.1.2, hk.2⟩)) hg hat)).2.1)))
               have n5_ := Aside0.mk ((show Kd.C (Kd.int .i64) w40 Ao28 y445.length y445 from by rw [Ny445.out]; exact Kd.C_take (m := (x9_2 : Int).toNat) ((Kd.R_reads' (Kd.R_after (ok := (fun k_ => some k_ ≠ (v453 : Value).ownBlock)) (by (with_reducible repeat (first | apply Kd.R_alloc | apply Kd.R_drewN | apply Kd.R_drew)); exact Kd.R_mono HO_7.out (fun _ hk => ⟨hk.1.2, hk.2⟩)) hg hat)).2.2) KL34.out))
               have n6_ := Aside0.mk ((show Kd.C (Kd.int .i64) w40 A35 y455.length y455 from by rw [Ny455.out, KA35.out]; exact Kd.C_drop (m := (x9_2 : Int).toNat) (c := co28) ((Kd.R_reads' (Kd.R_after (ok := (fun k_ => some k_ ≠ (v453 : Value).ownBlock)) (by (with_reducible repeat (first | apply Kd.R_alloc | apply Kd.R_drewN | apply Kd.R_drew)); exact Kd.R_mono HO_7.out (fun _ hk => ⟨hk.1.2, hk.2⟩)) hg hat)).2.2) KL35.out ((Kd.R_reads' (Kd.R_after (ok := (fun k_ => some k_ ≠ (v453 : Value).ownBlock)) (by (with_reducible repeat (first | apply Kd.R_alloc | apply Kd.R_drewN | apply Kd.R_drew)); exact Kd.R_mono HO_7.out (fun _ hk => ⟨hk.1.2, hk.2⟩)) hg hat)).2.1)))
               have n7_ := Aside0.mk (ho)
               clear HO_7
               clear HO454
               clear HB
               clear HR435
               clear HR440
               clear HR448
               clear HR458
               clear HO444
               have HO_7 := n0_
               have HO454 := n1_
               have HB := n2_
               have HR435 := n3_
               have HR440 := n4_
               have HR448 := n5_
               have HR458 := n6_
               have HO451 := n7_
               clear n0_ n1_ n2_ n3_ n4_ n5_ n6_ n7_
               clear ho hb hg hat
               refine hK.out _ _ trivial (fun hHeld => ?_)
               clear hK K
               refine norm_ (a' := ?_) ?_ ?_
               rotate_left
               ·show Act.put _ (some 45) _ = _
                simp only [Act.put, List.setIfInBounds_toArray, List.set_cons_zero, List.set_cons_succ, i64_w, i32_w]
                rfl
               exact norm_ (by simp only [putAll, Act.put, List.setIfInBounds_toArray, List.set_cons_zero, List.set_cons_succ]) (hCont (v443, v450, v453) _ ⟨(by (with_reducible repeat (first | apply Kd.R_alloc | apply Kd.R_drewN | apply Kd.R_drew)); exact Kd.R_mono HO451.out (fun _ hk => ⟨hk.2, hk.1⟩)), (by (with_reducible repeat (first | apply Kd.R_alloc | apply Kd.R_drewN | apply Kd.R_drew)); exact Kd.R_mono HO454.out (fun _ hk => ⟨hk.2, hk.1⟩)), (by (with_reducible repeat (first | apply Kd.R_alloc | apply Kd.R_drewN | apply Kd.R_drew)); exact Kd.R_mono HO_7.out (fun _ hk => ⟨hk.2, hk.1⟩)), (by repeat (first | (with_reducible first | exact HB.out | apply below_alloc | apply pw_below_drewN | apply below_drew1) | exact HB.out))⟩)
             rintro ⟨v443, v450, v453⟩ w41 ⟨h0_, h1_, h2_, h3_⟩
             have n0_ : Aside0 (Kd.R (Kd.int .i64) 3 w41 w.heap.size (fun k_ => some k_ ≠ (v453 : Value).ownBlock ∧ some k_ ≠ (.slice Ao28 t416.length co28 : Value).ownBlock) v450 y449) := ⟨h0_⟩
             have n1_ : Aside0 (Kd.R (Kd.int .i64) 3 w41 w.heap.size (fun k_ => some k_ ≠ (v450 : Value).ownBlock ∧ some k_ ≠ (.slice Ao28 t416.length co28 : Value).ownBlock) v453 y452) := ⟨h1_⟩
             have n2_ : Aside0 (Kd.R (Kd.int .i64) 3 w41 w.heap.size (fun k_ => some k_ ≠ (v450 : Value).ownBlock ∧ some k_ ≠ (v453 : Value).ownBlock) (.slice Ao28 t416.length co28) t416) := ⟨h2_⟩
             have n3_ : Aside0 (Below w.heap.size w w41) := ⟨h3_⟩
             clear HO_7
             clear HR435
             clear HR440
             clear HB
             clear h0_ h1_ h2_ h3_
             have HO451 := n0_
             have HO454 := n1_
             have HO_7 := n2_
             have HB := n3_
             clear n0_ n1_ n2_ n3_
             have hHeld := trivial
             refine norm_ (a' := ?_) ?_ ?_
             rotate_left
             ·simp only [putAll, Act.put, List.setIfInBounds_toArray, List.set_cons_zero, List.set_cons_succ]
              rfl
             refine one_ (i := 9) (N := some 50) #[true, true, true, true, true, true, true, true, true, true, false, false, false] rfl rfl (one_of HT_.out (by kernel_rfl)) (by decide) (fun K hK => ?_)
             refine Kd.R_append_rows_step (Kd.int .i64) (w0 := w) w.heap.size (by rfl) (.tmp 46) (.tmp 49) 26 3 (.int .i64 0) 8 rfl Try.underlying26 info3 rfl (by decide) (by omega) v453 y452 y455 _ _ _ (fun k_ => some k_ ≠ (.slice Ao28 t416.length co28 : Value).ownBlock ∧ some k_ ≠ (v450 : Value).ownBlock) (fun _ => False) rfl rfl ?aO ?aR (fun _ _ h => h) (fun _ h => h.elim) ?aF ?aB ?aS ?aL ?_
             (case aR => repeat (first | exact (show Kd.C (Kd.int .i64) w41 A35 y455.length y455 from by rw [Ny455.out, KA35.out]; exact Kd.C_drop (m := (x9_2 : Int).toNat) (c := co28) ((Kd.R_reads' (HO_7.out)).2.2) KL35.out ((Kd.R_reads' (HO_7.out)).2.1)) | (with_reducible refine Kd.C_alloc ?_ _) | (with_reducible refine Kd.C_drewN ?_ _) | (with_reducible refine Kd.C_drew ?_)))
             (case aB => exact (by repeat (first | (with_reducible first | exact HB.out | apply below_alloc | apply pw_below_drewN | apply below_drew1) | exact HB.out)))
             (case aF => exact (fun k_ hk => ⟨Kd.fresh' (Kd.R_lt (by (with_reducible repeat (first | apply Kd.R_alloc | apply Kd.R_drewN | apply Kd.R_drew)); exact HO_7.out)) k_ hk, Kd.fresh' (Kd.R_lt (by (with_reducible repeat (first | apply Kd.R_alloc | apply Kd.R_drewN | apply Kd.R_drew)); exact HO451.out)) k_ hk⟩))
             (case aO => exact (by (with_reducible repeat (first | apply Kd.R_alloc | apply Kd.R_drewN | apply Kd.R_drew)); exact Kd.R_mono HO454.out (fun _ hk => ⟨hk.2, hk.1⟩)))
             (case aS => exact (below_size (by repeat (first | (with_reducible first | exact HB.out | apply below_alloc | apply pw_below_drewN | apply below_drew1) | exact HB.out))))
             (case aL => have := LMc27.out; omega)
             intro v460 w42 ho hb hg hat
             rw [← Ny459.out] at ho
             have n0_ := Aside0.mk (Kd.R_after (ok := (fun k_ => some k_ ≠ (v450 : Value).ownBlock)) (by (with_reducible repeat (first | apply Kd.R_alloc | apply Kd.R_drewN | apply Kd.R_drew)); exact HO_7.out) hg hat)
             have n1_ := Aside0.mk (Kd.R_after (ok := (fun k_ => some k_ ≠ (.slice Ao28 t416.length co28 : Value).ownBlock)) (by (with_reducible repeat (first | apply Kd.R_alloc | apply Kd.R_drewN | apply Kd.R_drew)); exact Kd.R_mono HO451.out (fun _ hk => ⟨hk.2, hk.1⟩)) hg hat)
             have n2_ := Aside0.mk (hb)
             have n3_ := Aside0.mk (ho)
             clear HO_7
             clear HO451
             clear HB
             clear HO454
             have HO_7 := n0_
             have HO451 := n1_
             have HB := n2_
             have HO461 := n3_
             clear n0_ n1_ n2_ n3_
             clear ho hb hg hat
             refine hK.out _ _ trivial (fun hHeld => ?_)
             clear hK K
             refine norm_ (a' := ?_) ?_ ?_
             rotate_left
             ·show Act.put _ (some 50) _ = _
              simp only [Act.put, List.setIfInBounds_toArray, List.set_cons_zero, List.set_cons_succ, i64_w, i32_w]
              rfl
             refine pure_ (i := 10) (N := some 4) (v := ?_) (a' := ?_) #[true, true, true, true, true, true, true, true, true, true, true, false, false] rfl rfl (any_of HT_.out (by kernel_rfl)) (fun _ _ _ h => h) (Or.inl ⟨by rfl, ?_⟩) ?_ ?_
             rotate_left
             ·intro w'
              go_simp
              with_reducible rfl
             rotate_left
             ·simp only [Act.put, List.setIfInBounds_toArray, List.set_cons_zero, List.set_cons_succ, i64_w, i32_w]
              rfl
             refine pure_ (i := 11) (N := some 5) (v := ?_) (a' := ?_) #[true, true, true, true, true, true, true, true, true, true, true, true, false] rfl rfl (any_of HT_.out (by kernel_rfl)) (fun _ _ _ h => h) (Or.inl ⟨by rfl, ?_⟩) ?_ ?_
             rotate_left
             ·intro w'
              go_simp
              with_reducible rfl
             rotate_left
             ·simp only [Act.put, List.setIfInBounds_toArray, List.set_cons_zero, List.set_cons_succ, i64_w, i32_w]
              rfl
             refine pure_ (i := 12) (N := some 6) (v := ?_) (a' := ?_) #[true, true, true, true, true, true, true, true, true, true, true, true, true] rfl rfl (any_of HT_.out (by kernel_rfl)) (fun _ _ _ h => h) (Or.inl ⟨by rfl, ?_⟩) ?_ ?_
             rotate_left
             ·intro w'
              go_simp
              with_reducible rfl
             rotate_left
             ·simp only [Act.put, List.setIfInBounds_toArray, List.set_cons_zero, List.set_cons_succ, i64_w, i32_w]
              rfl
             refine done_ (done_of HT_.out (by kernel_rfl)) ?_
             try go_wp2
             go_ret3
             exact ⟨_, _, by first | rfl | (simp [errW_none, errW_some] <;> rfl) | (simp [*, errW_none, errW_some] <;> rfl), by (with_reducible repeat (first | apply Kd.R_alloc | apply Kd.R_drewN | apply Kd.R_drew)); exact Kd.R_mono HO451.out (fun _ hk => hk.2), by (with_reducible repeat (first | apply Kd.R_alloc | apply Kd.R_drewN | apply Kd.R_drew)); exact Kd.R_mono HO461.out (fun _ hk => hk.2), by repeat (first | (with_reducible first | exact HB.out | apply below_alloc | apply pw_below_drewN | apply below_drew1) | exact HB.out)⟩
            ·rw [if_neg c27] at H
             exact absurd H (by simp)
           ·rw [if_neg c24] at H
            exact absurd H (by simp)
          ·replace c21 := Bool.eq_false_iff.mpr c21
           subst c21
           have H1 : (spec_ChristoffelSplit.l0 k2 t416 (wrap64 (x9_2 + 1))) = some (r1, r2, r3) := by rw [if_neg (show ¬ (false = true) by decide)] at H; exact H
           clear H
           have H := H1
           clear H1
           have H' := Aside0.mk H
           clear H
           obtain ⟨Ao43, co43, eo43⟩ := Kd.R_slice HO_7.out
           subst eo43
           have q44 : (x9_2 : Int) ≤ ((t416.length : Int) : Int) := of_decide_eq_true (by first | (with_reducible assumption) | assumption)
           obtain ⟨i044, hi044, _, hsz44, _⟩ := info_parts info3
           have hroom44 : t416.length ≤ co43 := (Kd.R_reads' HO_7.out).2.1
           have hC44 : Kd.C (Kd.int .i64) _ Ao43 t416.length t416 := (Kd.R_reads' HO_7.out).2.2
           have hcut44 := cut_to (P := Try.prog) 26 3 .i64 Try.underlying26 hi044 Ao43 t416.length co43 x9_2 (of_decide_eq_true (by first | (with_reducible assumption) | assumption)) q44 hroom44
           have hr44 := Kd.C_take (m := (x9_2 : Int).toNat) hC44 (by omega)
           have hy44 : y432.length = (x9_2 : Int).toNat := (by rw [Ny432.out, List.length_take]; omega)
           rw [← Ny432.out] at hr44
           rw [← hy44] at hcut44
           have HR435 := Aside0.mk hr44
           have HC435 := Aside0.mk (show y432.length ≤ co43 from by omega)
           clear hr44 hC44 hroom44 hi044 hsz44
           have KY44 := Aside0.mk hy44
           clear hy44
           have KL44 := Aside0.mk (show (x9_2 : Int).toNat ≤ t416.length from by omega)
           replace q44 := eq_true q44
           go_wp2_with (first | ((with_reducible refine gate_callee (f := 18) rfl ?_); refine goesL_ (some 34) rfl rfl Try.func18 (by kernel_rfl) rfl #[.slice Ao43 y432.length co43] rfl (by (try simp only [List.map_toArray, List.map_cons, List.map_nil]); first | done | rfl | (simp only [List.length_drop, List.length_take]; rfl)) ?_; (with_reducible refine (spec_IsChristoffel.calls k2 _ _ y432 true _ ?side1 ?side2 A16.out).mono ?_); (case side1 => repeat (first | exact (by repeat (first | (with_reducible exact HR435.out) | (with_reducible refine Kd.C_alloc ?_ _) | (with_reducible refine Kd.C_drewN ?_ _) | (with_reducible refine Kd.C_drew ?_) | exact HR435.out)) | (with_reducible refine Kd.C_alloc ?_ _) | (with_reducible refine Kd.C_drewN ?_ _) | (with_reducible refine Kd.C_drew ?_))); (case side2 => exact HC435.out); rintro e w45 ⟨rfl, hb⟩; refine ⟨_, rfl, ?_⟩; have n0_ := Aside0.mk (Kd.R_below (by (with_reducible repeat (first | apply Kd.R_alloc | apply Kd.R_drewN | apply Kd.R_drew)); exact HO_7.out) hb); have n1_ := Aside0.mk (Kd.C_below (by repeat (first | (with_reducible exact HR435.out) | (with_reducible refine Kd.C_alloc ?_ _) | (with_reducible refine Kd.C_drewN ?_ _) | (with_reducible refine Kd.C_drew ?_) | exact HR435.out)) hb); have n2_ := Aside0.mk (below_step (by repeat (first | (with_reducible first | exact HB.out | apply below_alloc | apply pw_below_drewN | apply below_drew1) | exact HB.out)) hb); clear HO_7; clear HR435; clear HB; have HO_7 := n0_; have HR435 := n1_; have HB := n2_; clear n0_ n1_ n2_; (try clear hb); (try clear hb2); (try clear hk); (try clear hi); have q46 : (x9_2 : Int) ≤ ((t416.length : Int) : Int) := of_decide_eq_true (by first | (with_reducible assumption) | assumption); obtain ⟨i046, hi046, _, hsz46, _⟩ := info_parts info3; have hroom46 : t416.length ≤ co43 := (Kd.R_reads' HO_7.out).2.1; have hC46 : Kd.C (Kd.int .i64) _ Ao43 t416.length t416 := (Kd.R_reads' HO_7.out).2.2; have q046 : (0 : Int) ≤ (x9_2 : Int) := of_decide_eq_true (by first | (with_reducible assumption) | assumption); have hcut46 := cut_from (P := Try.prog) 26 3 .i64 Try.underlying26 hi046 1 hsz46 Ao43 t416.length co43 x9_2 q046 q46; have hr46 := Kd.C_drop (m := (x9_2 : Int).toNat) (c := co43) hC46 (by omega) hroom46; obtain ⟨A46, hA46⟩ : ∃ A1, A1 = (if co43 = (x9_2 : Int).toNat then Ao43 else (Ao43 : Option Addr).map (·.add ((x9_2 : Int).toNat * 1))) := ⟨_, rfl⟩; obtain ⟨c46, hc46⟩ : ∃ c1, c1 = co43 - (x9_2 : Int).toNat := ⟨_, rfl⟩; have hy46 : y437.length = t416.length - (x9_2 : Int).toNat := (by rw [Ny437.out, List.length_drop] <;> omega); rw [show (t416).drop (x9_2 : Int).toNat = y437 from Ny437.out.symm] at hr46; replace hr46 : Kd.C (Kd.int .i64) _ A46 y437.length y437 := (by rw [hA46]; exact hr46); rw [← hy46, ← hA46, ← hc46] at hcut46; have HR440 := Aside0.mk hr46; have HC440 := Aside0.mk (show y437.length ≤ c46 from by rw [hy46, hc46]; exact Nat.sub_le_sub_right hroom46 _); clear hr46 hC46 hroom46 hi046 hsz46 hc46; have KY46 := Aside0.mk hy46; have KA46 := Aside0.mk hA46; clear hy46 hA46; have KL46 := Aside0.mk (show (x9_2 : Int).toNat ≤ t416.length from by omega); replace q46 := eq_true q46) | (go_at_call 18; (with_reducible refine (spec_IsChristoffel.calls k2 _ _ y437 false _ ?side1 ?side2 A20.out).mono ?_); (case side1 => repeat (first | exact (by repeat (first | (with_reducible exact HR440.out) | (with_reducible refine Kd.C_alloc ?_ _) | (with_reducible refine Kd.C_drewN ?_ _) | (with_reducible refine Kd.C_drew ?_) | exact HR440.out)) | (with_reducible refine Kd.C_alloc ?_ _) | (with_reducible refine Kd.C_drewN ?_ _) | (with_reducible refine Kd.C_drew ?_))); (case side2 => exact HC440.out); rintro e w47 ⟨rfl, hb⟩; have n0_ := Aside0.mk (Kd.R_below (by (with_reducible repeat (first | apply Kd.R_alloc | apply Kd.R_drewN | apply Kd.R_drew)); exact HO_7.out) hb); have n1_ := Aside0.mk (Kd.C_below (by repeat (first | (with_reducible exact HR435.out) | (with_reducible refine Kd.C_alloc ?_ _) | (with_reducible refine Kd.C_drewN ?_ _) | (with_reducible refine Kd.C_drew ?_) | exact HR435.out)) hb); have n2_ := Aside0.mk (Kd.C_below (by repeat (first | (with_reducible exact HR440.out) | (with_reducible refine Kd.C_alloc ?_ _) | (with_reducible refine Kd.C_drewN ?_ _) | (with_reducible refine Kd.C_drew ?_) | exact HR440.out)) hb); have n3_ := Aside0.mk (below_step (by repeat (first | (with_reducible first | exact HB.out | apply below_alloc | apply pw_below_drewN | apply below_drew1) | exact HB.out)) hb); clear HO_7; clear HR435; clear HR440; clear HB; have HO_7 := n0_; have HR435 := n1_; have HR440 := n2_; have HB := n3_; clear n0_ n1_ n2_ n3_; (try clear hb); (try clear hb2); (try clear hk); (try clear hi)))
           go_roundg k2
           case measure => have := HJ3.out; have := HK2.out; omega
           case rel => exact ⟨(wrap64 (x9_2 + 1)), (by first | rfl | (simp; done) | (simp [*]; done)), H', ⟨by have := HJ3.out; have := HK2.out; omega⟩, ⟨by (with_reducible repeat (first | apply Kd.R_alloc | apply Kd.R_drewN | apply Kd.R_drew)); exact HO_7.out⟩, ⟨by repeat (first | (with_reducible first | exact HB.out | apply below_alloc | apply pw_below_drewN | apply below_drew1) | exact HB.out)⟩⟩
         ·replace c17 := Bool.eq_false_iff.mpr c17
          subst c17
          have H1 : (spec_ChristoffelSplit.l0 k2 t416 (wrap64 (x9_2 + 1))) = some (r1, r2, r3) := by rw [if_neg (show ¬ (false = true) by decide)] at H; exact H
          clear H
          have H := H1
          clear H1
          have H' := Aside0.mk H
          clear H
          obtain ⟨Ao48, co48, eo48⟩ := Kd.R_slice HO_7.out
          subst eo48
          have q49 : (x9_2 : Int) ≤ ((t416.length : Int) : Int) := of_decide_eq_true (by first | (with_reducible assumption) | assumption)
          obtain ⟨i049, hi049, _, hsz49, _⟩ := info_parts info3
          have hroom49 : t416.length ≤ co48 := (Kd.R_reads' HO_7.out).2.1
          have hC49 : Kd.C (Kd.int .i64) _ Ao48 t416.length t416 := (Kd.R_reads' HO_7.out).2.2
          have hcut49 := cut_to (P := Try.prog) 26 3 .i64 Try.underlying26 hi049 Ao48 t416.length co48 x9_2 (of_decide_eq_true (by first | (with_reducible assumption) | assumption)) q49 hroom49
          have hr49 := Kd.C_take (m := (x9_2 : Int).toNat) hC49 (by omega)
          have hy49 : y432.length = (x9_2 : Int).toNat := (by rw [Ny432.out, List.length_take]; omega)
          rw [← Ny432.out] at hr49
          rw [← hy49] at hcut49
          have HR435 := Aside0.mk hr49
          have HC435 := Aside0.mk (show y432.length ≤ co48 from by omega)
          clear hr49 hC49 hroom49 hi049 hsz49
          have KY49 := Aside0.mk hy49
          clear hy49
          have KL49 := Aside0.mk (show (x9_2 : Int).toNat ≤ t416.length from by omega)
          replace q49 := eq_true q49
          go_wp2_with (first | ((with_reducible refine gate_callee (f := 18) rfl ?_); refine goesL_ (some 34) rfl rfl Try.func18 (by kernel_rfl) rfl #[.slice Ao48 y432.length co48] rfl (by (try simp only [List.map_toArray, List.map_cons, List.map_nil]); first | done | rfl | (simp only [List.length_drop, List.length_take]; rfl)) ?_; (with_reducible refine (spec_IsChristoffel.calls k2 _ _ y432 false _ ?side1 ?side2 A16.out).mono ?_); (case side1 => repeat (first | exact (by repeat (first | (with_reducible exact HR435.out) | (with_reducible refine Kd.C_alloc ?_ _) | (with_reducible refine Kd.C_drewN ?_ _) | (with_reducible refine Kd.C_drew ?_) | exact HR435.out)) | (with_reducible refine Kd.C_alloc ?_ _) | (with_reducible refine Kd.C_drewN ?_ _) | (with_reducible refine Kd.C_drew ?_))); (case side2 => exact HC435.out); rintro e w50 ⟨rfl, hb⟩; refine ⟨_, rfl, ?_⟩; have n0_ := Aside0.mk (Kd.R_below (by (with_reducible repeat (first | apply Kd.R_alloc | apply Kd.R_drewN | apply Kd.R_drew)); exact HO_7.out) hb); have n1_ := Aside0.mk (Kd.C_below (by repeat (first | (with_reducible exact HR435.out) | (with_reducible refine Kd.C_alloc ?_ _) | (with_reducible refine Kd.C_drewN ?_ _) | (with_reducible refine Kd.C_drew ?_) | exact HR435.out)) hb); have n2_ := Aside0.mk (below_step (by repeat (first | (with_reducible first | exact HB.out | apply below_alloc | apply pw_below_drewN | apply below_drew1) | exact HB.out)) hb); clear HO_7; clear HR435; clear HB; have HO_7 := n0_; have HR435 := n1_; have HB := n2_; clear n0_ n1_ n2_; (try clear hb); (try clear hb2); (try clear hk); (try clear hi)))
          go_roundg k2
          case measure => have := HJ3.out; have := HK2.out; omega
          case rel => exact ⟨(wrap64 (x9_2 + 1)), (by first | rfl | (simp; done) | (simp [*]; done)), H', ⟨by have := HJ3.out; have := HK2.out; omega⟩, ⟨by (with_reducible repeat (first | apply Kd.R_alloc | apply Kd.R_drewN | apply Kd.R_drew)); exact HO_7.out⟩, ⟨by repeat (first | (with_reducible first | exact HB.out | apply below_alloc | apply pw_below_drewN | apply below_drew1) | exact HB.out)⟩⟩
        ·rw [if_neg c15] at H
         exact absurd H (by simp)
       ·rw [if_neg c14] at H
        exact absurd H (by simp)
      ·rw [if_neg c13] at H
       have c13b0 : decide (x9_2 < (t416.length : Int)) = false := decide_eq_false c13
       clear c13
       obtain ⟨y426, hy426⟩ : ∃ y_ : List Int, y_ = (([] : List Int)) := ⟨_, rfl⟩
       replace H : (some (y426, (([] : List Int)), false)) = some (r1, r2, r3) := by first | (rw [hy426]; with_reducible exact H) | (have H2_ := (Option.bind_some _ _).symm.trans H; rw [hy426]; with_reducible exact H2_) | (have H2_ := (Option.bind_some _ _).symm.trans H; with_reducible exact H2_) | with_reducible exact H | (rw [hy426]; exact H) | exact H
       have Ny426 := Aside0.mk hy426
       clear hy426
       obtain ⟨y429, hy429⟩ : ∃ y_ : List Int, y_ = (([] : List Int)) := ⟨_, rfl⟩
       replace H : (some (y426, y429, false)) = some (r1, r2, r3) := by first | (rw [hy429]; with_reducible exact H) | (have H2_ := (Option.bind_some _ _).symm.trans H; rw [hy429]; with_reducible exact H2_) | (have H2_ := (Option.bind_some _ _).symm.trans H; with_reducible exact H2_) | with_reducible exact H | (rw [hy429]; exact H) | exact H
       have Ny429 := Aside0.mk hy429
       clear hy429
       simp only [Option.some.injEq, Prod.mk.injEq] at H
       obtain ⟨rfl, rfl, rfl⟩ := H
       obtain ⟨Ao51, co51, eo51⟩ := Kd.R_slice HO_7.out
       subst eo51
       go_wp2_with (first | ((with_reducible refine gate_dst (N := 51) rfl ?_); (try (refine gate_guard (by rfl) ?_; dsimp only)); refine Kd.R_lit (Kd.int .i64) _ 3 ?hg (N := 51) ?hd (xs := ([] : List Int)) (inner := []) (ok := fun _ => True) (okp := fun _ => True) ?hr ?hp (fun _ hk => hk) trivial (Below.refl _ _) (Nat.le_refl _) (by simp) ?_; (case hd => rfl); (case hg => rfl); (case hr => first | (go_simp; done) | (go_simp; rfl)); (case hp => exact (Reps.none _ _)); intro v427 w52 ho53 hb hg_ hnew_; clear hg_ hnew_; (first | rw [← Ny426.out] at ho53 | (simp only [Int.reduceToNat] at ho53; rw [← Ny426.out] at ho53)); have n0_ := Aside0.mk (Kd.R_elder' (by (with_reducible repeat (first | apply Kd.R_alloc | apply Kd.R_drewN | apply Kd.R_drew)); exact HO_7.out) (Kd.R_base ho53) hb); have n1_ := Aside0.mk (Kd.R_lower (Kd.R_new' ho53 (Kd.R_lt (by (with_reducible repeat (first | apply Kd.R_alloc | apply Kd.R_drewN | apply Kd.R_drew)); exact HO_7.out))) (below_size (by repeat (first | (with_reducible first | exact HB.out | apply below_alloc | apply pw_below_drewN | apply below_drew1) | exact HB.out)))); have n2_ := Aside0.mk (below_step (by repeat (first | (with_reducible first | exact HB.out | apply below_alloc | apply pw_below_drewN | apply below_drew1) | exact HB.out)) hb); clear HO_7; clear HB; have HO_7 := n0_; have HO428 := n1_; have HB := n2_; clear n0_ n1_ n2_; clear hb ho53) | ((with_reducible refine gate_dst (N := 52) rfl ?_); (try (refine gate_guard (by rfl) ?_; dsimp only)); refine Kd.R_lit (Kd.int .i64) _ 3 ?hg (N := 52) ?hd (xs := ([] : List Int)) (inner := []) (ok := fun _ => True) (okp := fun _ => True) ?hr ?hp (fun _ hk => hk) trivial (Below.refl _ _) (Nat.le_refl _) (by simp) ?_; (case hd => rfl); (case hg => rfl); (case hr => first | (go_simp; done) | (go_simp; rfl)); (case hp => exact (Reps.none _ _)); intro v430 w54 ho55 hb hg_ hnew_; clear hg_ hnew_; (first | rw [← Ny429.out] at ho55 | (simp only [Int.reduceToNat] at ho55; rw [← Ny429.out] at ho55)); have n0_ := Aside0.mk (Kd.R_elder' (by (with_reducible repeat (first | apply Kd.R_alloc | apply Kd.R_drewN | apply Kd.R_drew)); exact HO_7.out) (Kd.R_base ho55) hb); have n1_ := Aside0.mk (Kd.R_elder' (by (with_reducible repeat (first | apply Kd.R_alloc | apply Kd.R_drewN | apply Kd.R_drew)); exact HO428.out) (Kd.R_base ho55) hb); have n2_ := Aside0.mk (Kd.R_lower (Kd.R_new' (Kd.R_new' ho55 (Kd.R_lt (by (with_reducible repeat (first | apply Kd.R_alloc | apply Kd.R_drewN | apply Kd.R_drew)); exact HO_7.out))) (Kd.R_lt (by (with_reducible repeat (first | apply Kd.R_alloc | apply Kd.R_drewN | apply Kd.R_drew)); exact HO428.out))) (below_size (by repeat (first | (with_reducible first | exact HB.out | apply below_alloc | apply pw_below_drewN | apply below_drew1) | exact HB.out)))); have n3_ := Aside0.mk (below_step (by repeat (first | (with_reducible first | exact HB.out | apply below_alloc | apply pw_below_drewN | apply below_drew1) | exact HB.out)) hb); clear HO_7; clear HO428; clear HB; have HO_7 := n0_; have HO428 := n1_; have HO431 := n2_; have HB := n3_; clear n0_ n1_ n2_ n3_; clear hb ho55))
       go_ret3
       exact ⟨_, _, by first | rfl | (simp [errW_none, errW_some] <;> rfl) | (simp [*, errW_none, errW_some] <;> rfl), by (with_reducible repeat (first | apply Kd.R_alloc | apply Kd.R_drewN | apply Kd.R_drew)); exact Kd.R_mono HO428.out (fun _ hk => hk.2), by (with_reducible repeat (first | apply Kd.R_alloc | apply Kd.R_drewN | apply Kd.R_drew)); exact Kd.R_mono HO431.out (fun _ hk => hk.2), by repeat (first | (with_reducible first | exact HB.out | apply below_alloc | apply pw_below_drewN | apply below_drew1) | exact HB.out)⟩


mutual
def laws_FnChristoffel.j0 : Nat → List Int → Int → Int → Bool → List Int → Bool → Option (Bool)
 | 0, _, _, _, _, _, _ => none
 | k + 1, x0, x3, x4, x6, x7, x85 => if x85 = true then (some false) else (if x6 = true then ((impl_SlopeOf.f k x7).bind fun bt483 => (if bt483.1 = x3 then (if bt483.2 = x4 then ((impl_IsChristoffel.f k x7).bind fun t485 => (if t485 = true then ((spec_IsLyndon.f k x7).bind fun t486 => (if t486 = true then ((spec_IsBalanced.f k x7).bind fun t487 => (if t487 = true then (if (x7.length : Int) > 1 then (if 1 ≤ (wrap64 ((x7.length : Int) - 1)) then (if (wrap64 ((x7.length : Int) - 1)) ≤ (x7.length : Int) then ((spec_IsPalindrome.f k ((x7.take ((wrap64 ((x7.length : Int) - 1)) : Int).toNat).drop 1)).bind fun t492 => (if t492 = true then (if 0 < (x7.length : Int) then (laws_FnChristoffel.j1 k x0 x3 x4 x7 ((rd x7 0) != 0)) else (none)) else (laws_FnChristoffel.j1 k x0 x3 x4 x7 true))) else (none)) else (none)) else (laws_FnChristoffel.j1 k x0 x3 x4 x7 false)) else (laws_FnChristoffel.j1 k x0 x3 x4 x7 true))) else (laws_FnChristoffel.j1 k x0 x3 x4 x7 true))) else (laws_FnChristoffel.j1 k x0 x3 x4 x7 true))) else (laws_FnChristoffel.j1 k x0 x3 x4 x7 true)) else (laws_FnChristoffel.j1 k x0 x3 x4 x7 true))) else (laws_FnChristoffel.j2 k x0))
def laws_FnChristoffel.j2 : Nat → List Int → Option (Bool)
 | 0, _ => none
 | k + 1, x0 => (spec_DrawIsChristoffel.f k x0).bind fun t511 => ((impl_IsChristoffel.f k t511).bind fun t514 => ((spec_IsChristoffel.f k t511).bind fun t515 => (if (t514 != t515) = true then (laws_FnChristoffel.j3 k x0 true) else ((impl_IsChristoffel.f k t511).bind fun t516 => (if (t511.length : Int) > 0 then ((spec_IsLyndon.f k t511).bind fun t517 => (if t517 = true then ((spec_IsBalanced.f k t511).bind fun t518 => (laws_FnChristoffel.j3 k x0 (t516 != t518))) else (laws_FnChristoffel.j3 k x0 (t516 != false)))) else (laws_FnChristoffel.j3 k x0 (t516 != false)))))))
def laws_FnChristoffel.j3 : Nat → List Int → Bool → Option (Bool)
 | 0, _, _ => none
 | k + 1, x0, x182 => if x182 = true then (some false) else ((spec_DrawChristoffelTree.f k x0).bind fun t519 => ((impl_ChristoffelTree.f t519).bind fun t520 => ((spec_ChristoffelTree.f t519).bind fun t523 => ((laws_sameWords.f k t520 t523).bind fun t526 => (if t526 = true then (laws_FnChristoffel.l0 k x0 t520 1) else (some false))))))
def laws_FnChristoffel.l0 : Nat → List Int → List (List Int) → Int → Option (Bool)
 | 0, _, _, _ => none
 | k + 1, x0, x20, x21 => if x21 < (x20.length : Int) then (if 0 ≤ x21 then ((impl_IsChristoffel.f k (rd_L2 x20 x21)).bind fun t528 => (if t528 = true then (if 0 ≤ (wrap64 (x21 - 1)) then (if (wrap64 (x21 - 1)) < (x20.length : Int) then ((spec_CompareWords.f k (rd_L2 x20 (wrap64 (x21 - 1))) (rd_L2 x20 x21)).bind fun t531 => (if t531 ≥ 0 then (some false) else (laws_FnChristoffel.l0 k x0 x20 (wrap64 (x21 + 1))))) else (none)) else (none)) else (some false))) else (none)) else ((spec_DrawChristoffelSplit.f k x0).bind fun bt532 => ((impl_ChristoffelSplit.f k bt532.1 bt532.2).bind fun bt534 => ((spec_ChristoffelSplit.f k bt532.1 bt532.2).bind fun bt541 => (if (bt534.2.2 == bt541.2.2) = true then ((laws_sameInts.f k bt534.1 bt541.1).bind fun t548 => (if t548 = true then ((laws_sameInts.f k bt534.2.1 bt541.2.1).bind fun t549 => (some t549)) else (some false))) else (some false)))))
def laws_FnChristoffel.j1 : Nat → List Int → Int → Int → List Int → Bool → Option (Bool)
 | 0, _, _, _, _, _ => none
 | k + 1, x0, x3, x4, x7, x134 => if x134 = true then (some false) else ((impl_ChristoffelSplit.f k x3 x4).bind fun bt494 => (if (bt494.2.2 != (decide ((x7.length : Int) > 1))) = true then (some false) else (if bt494.2.2 = true then ((some (([] : List Int) : List Int)).bind fun y501 => (if y501.length + bt494.1.length < 17592186044416 then ((some (y501 ++ bt494.1 : List Int)).bind fun y504 => (if y504.length + bt494.2.1.length < 17592186044416 then ((laws_sameInts.f k (y504 ++ bt494.2.1) x7).bind fun t510 => (if t510 = true then (laws_FnChristoffel.j2 k x0) else (some false))) else (none))) else (none))) else (laws_FnChristoffel.j2 k x0))))
end
def laws_FnChristoffel.f (k : Nat) (l0 : List Int) : Option (Bool) := (laws_big.f l0).bind fun t462 => (if t462 = true then (some true) else ((spec_DrawChristoffelWord.f k l0).bind fun bt463 => ((impl_ChristoffelWord.f k bt463.1 bt463.2).bind fun bt465 => ((spec_ChristoffelWord.f k bt463.1 bt463.2).bind fun bt469 => ((impl_UpperChristoffel.f k bt463.1 bt463.2).bind fun bt473 => ((spec_UpperChristoffel.f k bt463.1 bt463.2).bind fun bt477 => (if (bt465.2 != bt469.2) = true then (laws_FnChristoffel.j0 k l0 bt463.1 bt463.2 bt465.2 bt469.1 true) else ((laws_sameInts.f k bt465.1 bt469.1).bind fun t481 => (if t481 = true then (if (bt473.2 != bt477.2) = true then (laws_FnChristoffel.j0 k l0 bt463.1 bt463.2 bt465.2 bt469.1 true) else ((laws_sameInts.f k bt473.1 bt477.1).bind fun t482 => (if t482 = true then (laws_FnChristoffel.j0 k l0 bt463.1 bt463.2 bt465.2 bt469.1 (bt473.2 != bt465.2)) else (laws_FnChristoffel.j0 k l0 bt463.1 bt463.2 bt465.2 bt469.1 true)))) else (laws_FnChristoffel.j0 k l0 bt463.1 bt463.2 bt465.2 bt469.1 true))))))))))
theorem laws_FnChristoffel.mono_l : ∀ k, (∀ y0 y1 y2 y3 y4 y5, LeO (laws_FnChristoffel.j0 k y0 y1 y2 y3 y4 y5) (laws_FnChristoffel.j0 (k + 1) y0 y1 y2 y3 y4 y5)) ∧ (∀ y0, LeO (laws_FnChristoffel.j2 k y0) (laws_FnChristoffel.j2 (k + 1) y0)) ∧ (∀ y0 y1, LeO (laws_FnChristoffel.j3 k y0 y1) (laws_FnChristoffel.j3 (k + 1) y0 y1)) ∧ (∀ y0 y1 y2, LeO (laws_FnChristoffel.l0 k y0 y1 y2) (laws_FnChristoffel.l0 (k + 1) y0 y1 y2)) ∧ (∀ y0 y1 y2 y3 y4, LeO (laws_FnChristoffel.j1 k y0 y1 y2 y3 y4) (laws_FnChristoffel.j1 (k + 1) y0 y1 y2 y3 y4))
 | 0 => ⟨fun _ _ _ _ _ _ r h => by simp [laws_FnChristoffel.j0] at h, fun _ r h => by simp [laws_FnChristoffel.j2] at h, fun _ _ r h => by simp [laws_FnChristoffel.j3] at h, fun _ _ _ r h => by simp [laws_FnChristoffel.l0] at h, fun _ _ _ _ _ r h => by simp [laws_FnChristoffel.j1] at h⟩
 | k + 1 => by
  obtain ⟨ih0, ih1, ih2, ih3, ih4⟩ := laws_FnChristoffel.mono_l k
  refine ⟨?_, ?_, ?_, ?_, ?_⟩
  ·intro y0 y1 y2 y3 y4 y5
   unfold laws_FnChristoffel.j0
   repeat' first
   | (with_reducible exact ih0 _ _ _ _ _ _)
   | (with_reducible exact ih1 _)
   | (with_reducible exact ih2 _ _)
   | (with_reducible exact ih3 _ _ _)
   | (with_reducible exact ih4 _ _ _ _ _)
   | (with_reducible exact impl_ChristoffelSplit.mono _ _ _)
   | (with_reducible exact impl_ChristoffelWord.mono _ _ _)
   | (with_reducible exact impl_IsChristoffel.mono _ _)
   | (with_reducible exact impl_SlopeOf.mono _ _)
   | (with_reducible exact impl_UpperChristoffel.mono _ _ _)
   | (with_reducible exact laws_sameInts.mono _ _ _)
   | (with_reducible exact laws_sameWords.mono _ _ _)
   | (with_reducible exact spec_ChristoffelSplit.mono _ _ _)
   | (with_reducible exact spec_ChristoffelWord.mono _ _ _)
   | (with_reducible exact spec_CompareWords.mono _ _ _)
   | (with_reducible exact spec_DrawChristoffelSplit.mono _ _)
   | (with_reducible exact spec_DrawChristoffelTree.mono _ _)
   | (with_reducible exact spec_DrawChristoffelWord.mono _ _)
   | (with_reducible exact spec_DrawIsChristoffel.mono _ _)
   | (with_reducible exact spec_IsBalanced.mono _ _)
   | (with_reducible exact spec_IsChristoffel.mono _ _)
   | (with_reducible exact spec_IsLyndon.mono _ _)
   | (with_reducible exact spec_IsPalindrome.mono _ _)
   | (with_reducible exact spec_UpperChristoffel.mono _ _ _)
   | (with_reducible exact LeO.refl _)
   | (with_reducible exact LeO.none _)
   | (with_reducible refine LeO.ite ?_ ?_)
   | (with_reducible refine LeO.bind ?_ (fun _ => ?_))
   | exact ih0 _ _ _ _ _ _
   | exact ih1 _
   | exact ih2 _ _
   | exact ih3 _ _ _
   | exact ih4 _ _ _ _ _
   | exact impl_ChristoffelSplit.mono _ _ _
   | exact impl_ChristoffelWord.mono _ _ _
   | exact impl_IsChristoffel.mono _ _
   | exact impl_SlopeOf.mono _ _
   | exact impl_UpperChristoffel.mono _ _ _
   | exact laws_sameInts.mono _ _ _
   | exact laws_sameWords.mono _ _ _
   | exact spec_ChristoffelSplit.mono _ _ _
   | exact spec_ChristoffelWord.mono _ _ _
   | exact spec_CompareWords.mono _ _ _
   | exact spec_DrawChristoffelSplit.mono _ _
   | exact spec_DrawChristoffelTree.mono _ _
   | exact spec_DrawChristoffelWord.mono _ _
   | exact spec_DrawIsChristoffel.mono _ _
   | exact spec_IsBalanced.mono _ _
   | exact spec_IsChristoffel.mono _ _
   | exact spec_IsLyndon.mono _ _
   | exact spec_IsPalindrome.mono _ _
   | exact spec_UpperChristoffel.mono _ _ _
   | exact LeO.none _
   | refine LeO.ite ?_ ?_
   | refine LeO.bind ?_ (fun _ => ?_)
  ·intro y0
   unfold laws_FnChristoffel.j2
   repeat' first
   | (with_reducible exact ih0 _ _ _ _ _ _)
   | (with_reducible exact ih1 _)
   | (with_reducible exact ih2 _ _)
   | (with_reducible exact ih3 _ _ _)
   | (with_reducible exact ih4 _ _ _ _ _)
   | (with_reducible exact impl_ChristoffelSplit.mono _ _ _)
   | (with_reducible exact impl_ChristoffelWord.mono _ _ _)
   | (with_reducible exact impl_IsChristoffel.mono _ _)
   | (with_reducible exact impl_SlopeOf.mono _ _)
   | (with_reducible exact impl_UpperChristoffel.mono _ _ _)
   | (with_reducible exact laws_sameInts.mono _ _ _)
   | (with_reducible exact laws_sameWords.mono _ _ _)
   | (with_reducible exact spec_ChristoffelSplit.mono _ _ _)
   | (with_reducible exact spec_ChristoffelWord.mono _ _ _)
   | (with_reducible exact spec_CompareWords.mono _ _ _)
   | (with_reducible exact spec_DrawChristoffelSplit.mono _ _)
   | (with_reducible exact spec_DrawChristoffelTree.mono _ _)
   | (with_reducible exact spec_DrawChristoffelWord.mono _ _)
   | (with_reducible exact spec_DrawIsChristoffel.mono _ _)
   | (with_reducible exact spec_IsBalanced.mono _ _)
   | (with_reducible exact spec_IsChristoffel.mono _ _)
   | (with_reducible exact spec_IsLyndon.mono _ _)
   | (with_reducible exact spec_IsPalindrome.mono _ _)
   | (with_reducible exact spec_UpperChristoffel.mono _ _ _)
   | (with_reducible exact LeO.refl _)
   | (with_reducible exact LeO.none _)
   | (with_reducible refine LeO.ite ?_ ?_)
   | (with_reducible refine LeO.bind ?_ (fun _ => ?_))
   | exact ih0 _ _ _ _ _ _
   | exact ih1 _
   | exact ih2 _ _
   | exact ih3 _ _ _
   | exact ih4 _ _ _ _ _
   | exact impl_ChristoffelSplit.mono _ _ _
   | exact impl_ChristoffelWord.mono _ _ _
   | exact impl_IsChristoffel.mono _ _
   | exact impl_SlopeOf.mono _ _
   | exact impl_UpperChristoffel.mono _ _ _
   | exact laws_sameInts.mono _ _ _
   | exact laws_sameWords.mono _ _ _
   | exact spec_ChristoffelSplit.mono _ _ _
   | exact spec_ChristoffelWord.mono _ _ _
   | exact spec_CompareWords.mono _ _ _
   | exact spec_DrawChristoffelSplit.mono _ _
   | exact spec_DrawChristoffelTree.mono _ _
   | exact spec_DrawChristoffelWord.mono _ _
   | exact spec_DrawIsChristoffel.mono _ _
   | exact spec_IsBalanced.mono _ _
   | exact spec_IsChristoffel.mono _ _
   | exact spec_IsLyndon.mono _ _
   | exact spec_IsPalindrome.mono _ _
   | exact spec_UpperChristoffel.mono _ _ _
   | exact LeO.none _
   | refine LeO.ite ?_ ?_
   | refine LeO.bind ?_ (fun _ => ?_)
  ·intro y0 y1
   unfold laws_FnChristoffel.j3
   repeat' first
   | (with_reducible exact ih0 _ _ _ _ _ _)
   | (with_reducible exact ih1 _)
   | (with_reducible exact ih2 _ _)
   | (with_reducible exact ih3 _ _ _)
   | (with_reducible exact ih4 _ _ _ _ _)
   | (with_reducible exact impl_ChristoffelSplit.mono _ _ _)
   | (with_reducible exact impl_ChristoffelWord.mono _ _ _)
   | (with_reducible exact impl_IsChristoffel.mono _ _)
   | (with_reducible exact impl_SlopeOf.mono _ _)
   | (with_reducible exact impl_UpperChristoffel.mono _ _ _)
   | (with_reducible exact laws_sameInts.mono _ _ _)
   | (with_reducible exact laws_sameWords.mono _ _ _)
   | (with_reducible exact spec_ChristoffelSplit.mono _ _ _)
   | (with_reducible exact spec_ChristoffelWord.mono _ _ _)
   | (with_reducible exact spec_CompareWords.mono _ _ _)
   | (with_reducible exact spec_DrawChristoffelSplit.mono _ _)
   | (with_reducible exact spec_DrawChristoffelTree.mono _ _)
   | (with_reducible exact spec_DrawChristoffelWord.mono _ _)
   | (with_reducible exact spec_DrawIsChristoffel.mono _ _)
   | (with_reducible exact spec_IsBalanced.mono _ _)
   | (with_reducible exact spec_IsChristoffel.mono _ _)
   | (with_reducible exact spec_IsLyndon.mono _ _)
   | (with_reducible exact spec_IsPalindrome.mono _ _)
   | (with_reducible exact spec_UpperChristoffel.mono _ _ _)
   | (with_reducible exact LeO.refl _)
   | (with_reducible exact LeO.none _)
   | (with_reducible refine LeO.ite ?_ ?_)
   | (with_reducible refine LeO.bind ?_ (fun _ => ?_))
   | exact ih0 _ _ _ _ _ _
   | exact ih1 _
   | exact ih2 _ _
   | exact ih3 _ _ _
   | exact ih4 _ _ _ _ _
   | exact impl_ChristoffelSplit.mono _ _ _
   | exact impl_ChristoffelWord.mono _ _ _
   | exact impl_IsChristoffel.mono _ _
   | exact impl_SlopeOf.mono _ _
   | exact impl_UpperChristoffel.mono _ _ _
   | exact laws_sameInts.mono _ _ _
   | exact laws_sameWords.mono _ _ _
   | exact spec_ChristoffelSplit.mono _ _ _
   | exact spec_ChristoffelWord.mono _ _ _
   | exact spec_CompareWords.mono _ _ _
   | exact spec_DrawChristoffelSplit.mono _ _
   | exact spec_DrawChristoffelTree.mono _ _
   | exact spec_DrawChristoffelWord.mono _ _
   | exact spec_DrawIsChristoffel.mono _ _
   | exact spec_IsBalanced.mono _ _
   | exact spec_IsChristoffel.mono _ _
   | exact spec_IsLyndon.mono _ _
   | exact spec_IsPalindrome.mono _ _
   | exact spec_UpperChristoffel.mono _ _ _
   | exact LeO.none _
   | refine LeO.ite ?_ ?_
   | refine LeO.bind ?_ (fun _ => ?_)
  ·intro y0 y1 y2
   unfold laws_FnChristoffel.l0
   repeat' first
   | (with_reducible exact ih0 _ _ _ _ _ _)
   | (with_reducible exact ih1 _)
   | (with_reducible exact ih2 _ _)
   | (with_reducible exact ih3 _ _ _)
   | (with_reducible exact ih4 _ _ _ _ _)
   | (with_reducible exact impl_ChristoffelSplit.mono _ _ _)
   | (with_reducible exact impl_ChristoffelWord.mono _ _ _)
   | (with_reducible exact impl_IsChristoffel.mono _ _)
   | (with_reducible exact impl_SlopeOf.mono _ _)
   | (with_reducible exact impl_UpperChristoffel.mono _ _ _)
   | (with_reducible exact laws_sameInts.mono _ _ _)
   | (with_reducible exact laws_sameWords.mono _ _ _)
   | (with_reducible exact spec_ChristoffelSplit.mono _ _ _)
   | (with_reducible exact spec_ChristoffelWord.mono _ _ _)
   | (with_reducible exact spec_CompareWords.mono _ _ _)
   | (with_reducible exact spec_DrawChristoffelSplit.mono _ _)
   | (with_reducible exact spec_DrawChristoffelTree.mono _ _)
   | (with_reducible exact spec_DrawChristoffelWord.mono _ _)
   | (with_reducible exact spec_DrawIsChristoffel.mono _ _)
   | (with_reducible exact spec_IsBalanced.mono _ _)
   | (with_reducible exact spec_IsChristoffel.mono _ _)
   | (with_reducible exact spec_IsLyndon.mono _ _)
   | (with_reducible exact spec_IsPalindrome.mono _ _)
   | (with_reducible exact spec_UpperChristoffel.mono _ _ _)
   | (with_reducible exact LeO.refl _)
   | (with_reducible exact LeO.none _)
   | (with_reducible refine LeO.ite ?_ ?_)
   | (with_reducible refine LeO.bind ?_ (fun _ => ?_))
   | exact ih0 _ _ _ _ _ _
   | exact ih1 _
   | exact ih2 _ _
   | exact ih3 _ _ _
   | exact ih4 _ _ _ _ _
   | exact impl_ChristoffelSplit.mono _ _ _
   | exact impl_ChristoffelWord.mono _ _ _
   | exact impl_IsChristoffel.mono _ _
   | exact impl_SlopeOf.mono _ _
   | exact impl_UpperChristoffel.mono _ _ _
   | exact laws_sameInts.mono _ _ _
   | exact laws_sameWords.mono _ _ _
   | exact spec_ChristoffelSplit.mono _ _ _
   | exact spec_ChristoffelWord.mono _ _ _
   | exact spec_CompareWords.mono _ _ _
   | exact spec_DrawChristoffelSplit.mono _ _
   | exact spec_DrawChristoffelTree.mono _ _
   | exact spec_DrawChristoffelWord.mono _ _
   | exact spec_DrawIsChristoffel.mono _ _
   | exact spec_IsBalanced.mono _ _
   | exact spec_IsChristoffel.mono _ _
   | exact spec_IsLyndon.mono _ _
   | exact spec_IsPalindrome.mono _ _
   | exact spec_UpperChristoffel.mono _ _ _
   | exact LeO.none _
   | refine LeO.ite ?_ ?_
   | refine LeO.bind ?_ (fun _ => ?_)
  ·intro y0 y1 y2 y3 y4
   unfold laws_FnChristoffel.j1
   repeat' first
   | (with_reducible exact ih0 _ _ _ _ _ _)
   | (with_reducible exact ih1 _)
   | (with_reducible exact ih2 _ _)
   | (with_reducible exact ih3 _ _ _)
   | (with_reducible exact ih4 _ _ _ _ _)
   | (with_reducible exact impl_ChristoffelSplit.mono _ _ _)
   | (with_reducible exact impl_ChristoffelWord.mono _ _ _)
   | (with_reducible exact impl_IsChristoffel.mono _ _)
   | (with_reducible exact impl_SlopeOf.mono _ _)
   | (with_reducible exact impl_UpperChristoffel.mono _ _ _)
   | (with_reducible exact laws_sameInts.mono _ _ _)
   | (with_reducible exact laws_sameWords.mono _ _ _)
   | (with_reducible exact spec_ChristoffelSplit.mono _ _ _)
   | (with_reducible exact spec_ChristoffelWord.mono _ _ _)
   | (with_reducible exact spec_CompareWords.mono _ _ _)
   | (with_reducible exact spec_DrawChristoffelSplit.mono _ _)
   | (with_reducible exact spec_DrawChristoffelTree.mono _ _)
   | (with_reducible exact spec_DrawChristoffelWord.mono _ _)
   | (with_reducible exact spec_DrawIsChristoffel.mono _ _)
   | (with_reducible exact spec_IsBalanced.mono _ _)
   | (with_reducible exact spec_IsChristoffel.mono _ _)
   | (with_reducible exact spec_IsLyndon.mono _ _)
   | (with_reducible exact spec_IsPalindrome.mono _ _)
   | (with_reducible exact spec_UpperChristoffel.mono _ _ _)
   | (with_reducible exact LeO.refl _)
   | (with_reducible exact LeO.none _)
   | (with_reducible refine LeO.ite ?_ ?_)
   | (with_reducible refine LeO.bind ?_ (fun _ => ?_))
   | exact ih0 _ _ _ _ _ _
   | exact ih1 _
   | exact ih2 _ _
   | exact ih3 _ _ _
   | exact ih4 _ _ _ _ _
   | exact impl_ChristoffelSplit.mono _ _ _
   | exact impl_ChristoffelWord.mono _ _ _
   | exact impl_IsChristoffel.mono _ _
   | exact impl_SlopeOf.mono _ _
   | exact impl_UpperChristoffel.mono _ _ _
   | exact laws_sameInts.mono _ _ _
   | exact laws_sameWords.mono _ _ _
   | exact spec_ChristoffelSplit.mono _ _ _
   | exact spec_ChristoffelWord.mono _ _ _
   | exact spec_CompareWords.mono _ _ _
   | exact spec_DrawChristoffelSplit.mono _ _
   | exact spec_DrawChristoffelTree.mono _ _
   | exact spec_DrawChristoffelWord.mono _ _
   | exact spec_DrawIsChristoffel.mono _ _
   | exact spec_IsBalanced.mono _ _
   | exact spec_IsChristoffel.mono _ _
   | exact spec_IsLyndon.mono _ _
   | exact spec_IsPalindrome.mono _ _
   | exact spec_UpperChristoffel.mono _ _ _
   | exact LeO.none _
   | refine LeO.ite ?_ ?_
   | refine LeO.bind ?_ (fun _ => ?_)
theorem laws_FnChristoffel.mono : ∀ a0 k, LeO (laws_FnChristoffel.f k a0) (laws_FnChristoffel.f (k + 1) a0) := by
 intro a0 k
 obtain ⟨ih0, ih1, ih2, ih3, ih4⟩ := laws_FnChristoffel.mono_l k
 unfold laws_FnChristoffel.f
 repeat' first
   | (with_reducible exact ih0 _ _ _ _ _ _)
   | (with_reducible exact ih1 _)
   | (with_reducible exact ih2 _ _)
   | (with_reducible exact ih3 _ _ _)
   | (with_reducible exact ih4 _ _ _ _ _)
   | (with_reducible exact impl_ChristoffelSplit.mono _ _ _)
   | (with_reducible exact impl_ChristoffelWord.mono _ _ _)
   | (with_reducible exact impl_IsChristoffel.mono _ _)
   | (with_reducible exact impl_SlopeOf.mono _ _)
   | (with_reducible exact impl_UpperChristoffel.mono _ _ _)
   | (with_reducible exact laws_sameInts.mono _ _ _)
   | (with_reducible exact laws_sameWords.mono _ _ _)
   | (with_reducible exact spec_ChristoffelSplit.mono _ _ _)
   | (with_reducible exact spec_ChristoffelWord.mono _ _ _)
   | (with_reducible exact spec_CompareWords.mono _ _ _)
   | (with_reducible exact spec_DrawChristoffelSplit.mono _ _)
   | (with_reducible exact spec_DrawChristoffelTree.mono _ _)
   | (with_reducible exact spec_DrawChristoffelWord.mono _ _)
   | (with_reducible exact spec_DrawIsChristoffel.mono _ _)
   | (with_reducible exact spec_IsBalanced.mono _ _)
   | (with_reducible exact spec_IsChristoffel.mono _ _)
   | (with_reducible exact spec_IsLyndon.mono _ _)
   | (with_reducible exact spec_IsPalindrome.mono _ _)
   | (with_reducible exact spec_UpperChristoffel.mono _ _ _)
   | (with_reducible exact LeO.refl _)
   | (with_reducible exact LeO.none _)
   | (with_reducible refine LeO.ite ?_ ?_)
   | (with_reducible refine LeO.bind ?_ (fun _ => ?_))
   | exact ih0 _ _ _ _ _ _
   | exact ih1 _
   | exact ih2 _ _
   | exact ih3 _ _ _
   | exact ih4 _ _ _ _ _
   | exact impl_ChristoffelSplit.mono _ _ _
   | exact impl_ChristoffelWord.mono _ _ _
   | exact impl_IsChristoffel.mono _ _
   | exact impl_SlopeOf.mono _ _
   | exact impl_UpperChristoffel.mono _ _ _
   | exact laws_sameInts.mono _ _ _
   | exact laws_sameWords.mono _ _ _
   | exact spec_ChristoffelSplit.mono _ _ _
   | exact spec_ChristoffelWord.mono _ _ _
   | exact spec_CompareWords.mono _ _ _
   | exact spec_DrawChristoffelSplit.mono _ _
   | exact spec_DrawChristoffelTree.mono _ _
   | exact spec_DrawChristoffelWord.mono _ _
   | exact spec_DrawIsChristoffel.mono _ _
   | exact spec_IsBalanced.mono _ _
   | exact spec_IsChristoffel.mono _ _
   | exact spec_IsLyndon.mono _ _
   | exact spec_IsPalindrome.mono _ _
   | exact spec_UpperChristoffel.mono _ _ _
   | exact LeO.none _
   | refine LeO.ite ?_ ?_
   | refine LeO.bind ?_ (fun _ => ?_)
def laws_FnChristoffel.T27 : Bool × List (List Nat × List Nat) := (true, [([], []), ([], []), ([0, 1], [0, 1]), ([2], [2]), ([3], [3]), ([4], [4]), ([5, 4], [5]), ([6], [6]), ([6], [6]), ([8, 6], [6, 8]), ([7, 9, 6], [6, 7, 9]), ([10, 6], [6, 10]), ([6], [6]), ([6], [6]), ([12, 13, 6], [6, 12, 13]), ([14, 6], [6, 14]), ([11, 15, 6, 6], [6, 11, 15]), ([16, 6], [6, 16]), ([6, 17], [6, 17])])
def laws_FnChristoffel.B27 : List Nat := [0, 0, 3, 7, 15, 31, 63, 127, 127, 383, 1023, 2047, 127, 127, 12415, 28799, 65535, 131071, 262143]
theorem laws_FnChristoffel.tab27 : rtab .any (opsOf Try.f3 27) = laws_FnChristoffel.T27 := by kernel_rfl
theorem laws_FnChristoffel.bits27 : waitsOk laws_FnChristoffel.T27.2 laws_FnChristoffel.B27 = true := by kernel_rfl
/-! Short names of what is said often in the next walk. -/
abbrev m0_ : Array Bool := #[false, false, false, false, false, false, false, false, false, false, false, false, false, false, false, false, false, false, false]
abbrev m1_ : Array Bool := #[true, false, false, false, false, false, false, false, false, false, false, false, false, false, false, false, false, false, false]
abbrev m2_ : Array Bool := #[true, true, false, false, false, false, false, false, false, false, false, false, false, false, false, false, false, false, false]
abbrev m3_ : Array Bool := #[true, true, true, false, false, false, false, false, false, false, false, false, false, false, false, false, false, false, false]
abbrev m4_ : Array Bool := #[true, true, true, true, false, false, false, false, false, false, false, false, false, false, false, false, false, false, false]
abbrev m5_ : Array Bool := #[true, true, true, true, true, false, false, false, false, false, false, false, false, false, false, false, false, false, false]
abbrev m6_ : Array Bool := #[true, true, true, true, true, true, false, false, false, false, false, false, false, false, false, false, false, false, false]
abbrev m7_ : Array Bool := #[true, true, true, true, true, true, true, false, false, false, false, false, false, false, false, false, false, false, false]
abbrev m8_ : Array Bool := #[true, true, true, true, true, true, true, true, false, false, false, false, false, false, false, false, false, false, false]
abbrev m9_ : Array Bool := #[true, true, true, true, true, true, true, true, true, false, false, false, false, false, false, false, false, false, false]
abbrev m10_ : Array Bool := #[true, true, true, true, true, true, true, true, true, true, false, false, false, false, false, false, false, false, false]
abbrev m11_ : Array Bool := #[true, true, true, true, true, true, true, true, true, true, true, false, false, false, false, false, false, false, false]
abbrev m12_ : Array Bool := #[true, true, true, true, true, true, true, true, true, true, true, false, true, false, false, false, false, false, false]
abbrev m13_ : Array Bool := #[true, true, true, true, true, true, true, true, true, true, true, false, true, true, false, false, false, false, false]
abbrev m14_ : Array Bool := #[true, true, true, true, true, true, true, true, true, true, true, false, true, true, true, false, false, false, false]
abbrev m15_ : Array Bool := #[true, true, true, true, true, true, true, true, true, true, true, true, true, true, true, false, false, false, false]
abbrev m16_ : Array Bool := #[true, true, true, true, true, true, true, true, true, true, true, true, true, true, true, true, false, false, false]
abbrev m17_ : Array Bool := #[true, true, true, true, true, true, true, true, true, true, true, true, true, true, true, true, true, false, false]
abbrev m18_ : Array Bool := #[true, true, true, true, true, true, true, true, true, true, true, true, true, true, true, true, true, true, false]
abbrev m19_ : Array Bool := #[true, true, true, true, true, true, true, true, true, true, true, true, true, true, true, true, true, true, true]
theorem z1_ {α : Type} (l : List α) (i : Nat) (a : α) : l.toArray.setIfInBounds i a = (l.set i a).toArray := List.setIfInBounds_toArray ..
theorem z2_ {α : Type} (l : List α) (a b : α) : (a :: l).set 0 b = b :: l := List.set_cons_zero
theorem z3_ {α : Type} (l : List α) (n : Nat) (a b : α) : (a :: l).set (n + 1) b = a :: l.set n b := List.set_cons_succ

end Go.Proofs.Ytcofhkocfkappaa.PFnChristoffel
