/- Written by this session's own program (wip/myprint.py): the machine side of one law, some contracts of it typed by hand. -/
import Derived.Test.YtdcakddfibnllaaPFnExactIsColdPairx0
import Derived.Test.YtdcakddfibnllaaPFnExactIsColdPairx1
import Derived.Test.YtdcakddfibnllaaPFnExactIsColdPairx3
namespace Go.Proofs.Ytdcakddfibnllaa.PFnExactIsColdPair
open Go.RowKit Go.Proofs.YtdcakddfibnllaaW.PrintWords Go.Proofs.YtdcakddfibnllaaW.PrintLast Go.Proofs.YtdcakddfibnllaaW.PrintMore
attribute [local go_sem] max2_int min2_int max_two min_two max_three min_three max_four min_four   -- for this text's walks alone
set_option linter.unusedVariables false
set_option linter.unusedSimpArgs false

/-! ### impl_IsColdPair: function 24 -/
def impl_IsColdPair.j0 : Nat → Int → Int → Bool → Option (Bool)
  | 0, _, _, _ => none
  | k + 1, x0, x1, x18 => if x18 = true then (some false) else (if (mn x0 x1) = 0 then (if (mx x0 x1) = 0 then (some true) else (if (mx x0 x1) > (mn x0 x1) then ((impl_LowerWythoff.f k (wrap64 ((mx x0 x1) - (mn x0 x1)))).bind fun t179 => (if (mn x0 x1) = t179 then ((impl_UpperWythoff.f k (wrap64 ((mx x0 x1) - (mn x0 x1)))).bind fun t180 => (some ((mx x0 x1) == t180))) else (some false))) else (some false))) else (if (mx x0 x1) > (mn x0 x1) then ((impl_LowerWythoff.f k (wrap64 ((mx x0 x1) - (mn x0 x1)))).bind fun t181 => (if (mn x0 x1) = t181 then ((impl_UpperWythoff.f k (wrap64 ((mx x0 x1) - (mn x0 x1)))).bind fun t182 => (some ((mx x0 x1) == t182))) else (some false))) else (some false)))
def impl_IsColdPair.f (k : Nat) (a0 : Int) (a1 : Int) : Option (Bool) := if a0 < 0 then (impl_IsColdPair.j0 k a0 a1 true) else (if a1 < 0 then (impl_IsColdPair.j0 k a0 a1 true) else (if a0 > 200 then (impl_IsColdPair.j0 k a0 a1 true) else (impl_IsColdPair.j0 k a0 a1 (decide (a1 > 200)))))
theorem impl_IsColdPair.mono_l : ∀ k, (∀ y0 y1 y2, LeO (impl_IsColdPair.j0 k y0 y1 y2) (impl_IsColdPair.j0 (k + 1) y0 y1 y2))
  | 0 => fun _ _ _ r h => by simp [impl_IsColdPair.j0] at h
  | k + 1 => by
    have ih0 := impl_IsColdPair.mono_l k
    · intro y0 y1 y2
      unfold impl_IsColdPair.j0
      repeat' first
      | (with_reducible exact ih0 _ _ _)
      | (with_reducible exact impl_LowerWythoff.mono _ _)
      | (with_reducible exact impl_UpperWythoff.mono _ _)
      | (with_reducible exact LeO.refl _)
      | (with_reducible exact LeO.none _)
      | (with_reducible refine LeO.ite ?_ ?_)
      | (with_reducible refine LeO.bind ?_ (fun _ => ?_))
      | exact ih0 _ _ _
      | exact impl_LowerWythoff.mono _ _
      | exact impl_UpperWythoff.mono _ _
      | exact LeO.none _
      | refine LeO.ite ?_ ?_
      | refine LeO.bind ?_ (fun _ => ?_)
theorem impl_IsColdPair.mono : ∀ a0 a1 k, LeO (impl_IsColdPair.f k a0 a1) (impl_IsColdPair.f (k + 1) a0 a1) := by
  intro a0 a1 k
  have ih0 := impl_IsColdPair.mono_l k
  unfold impl_IsColdPair.f
  repeat' first
      | (with_reducible exact ih0 _ _ _)
      | (with_reducible exact impl_LowerWythoff.mono _ _)
      | (with_reducible exact impl_UpperWythoff.mono _ _)
      | (with_reducible exact LeO.refl _)
      | (with_reducible exact LeO.none _)
      | (with_reducible refine LeO.ite ?_ ?_)
      | (with_reducible refine LeO.bind ?_ (fun _ => ?_))
      | exact ih0 _ _ _
      | exact impl_LowerWythoff.mono _ _
      | exact impl_UpperWythoff.mono _ _
      | exact LeO.none _
      | refine LeO.ite ?_ ?_
      | refine LeO.bind ?_ (fun _ => ?_)
set_option maxHeartbeats 8000000 in
set_option maxRecDepth 100000 in
theorem impl_IsColdPair.calls (k : Nat) (a0 : Int) (a1 : Int) (r : Bool) (w : World) (h : impl_IsColdPair.f k a0 a1 = some r) :
    Calls Try.prog 24 #[.int .i64 a0, .int .i64 a1] w fun e w' => e = .returned (.bool r) ∧ Below w.heap.size w w' := by
  have HB := Aside0.mk (Below.refl w.heap.size w)
  have H : (if a0 < 0 then (impl_IsColdPair.j0 k a0 a1 true) else (if a1 < 0 then (impl_IsColdPair.j0 k a0 a1 true) else (if a0 > 200 then (impl_IsColdPair.j0 k a0 a1 true) else (impl_IsColdPair.j0 k a0 a1 (decide (a1 > 200)))))) = some r := h
  clear h
  have HC3 := Aside0.mk H
  clear H
  go_enter Try.func24, Try.ntmps24
  go_upto_region 1 with (fail)
  go_cut [18] (fun v18 wc => ∃ (kq : Nat) (x18_2 : Bool), v18 = .bool x18_2 ∧ Aside0 (impl_IsColdPair.j0 kq a0 a1 x18_2 = some r) ∧ Aside0 (kq ≤ k) ∧ Aside0 (Below w.heap.size w wc))
  case first =>
    have H := HC3.out
    clear HC3
    by_cases c4 : a0 < 0
    · rw [if_pos c4] at H
      have c4b0 : decide (a0 < 0) = true := decide_eq_true c4
      clear c4
      (first | rw [c4b0] | (simp only [i64_w, i32_w]; rw [c4b0]) | skip)
      have H' := Aside0.mk H
      clear H
      go_wp2
      go_meet
      case rel => exact ⟨_, (true), (by first | rfl | (simp; done) | (simp [*]; done)), H', ⟨by first | omega | exact Nat.le_refl _⟩, ⟨by repeat (first | (with_reducible first | exact HB.out | apply below_alloc | apply pw_below_drewN | apply below_drew1) | exact HB.out)⟩⟩
    · rw [if_neg c4] at H
      have c4b0 : decide (a0 < 0) = false := decide_eq_false c4
      clear c4
      (first | rw [c4b0] | (simp only [i64_w, i32_w]; rw [c4b0]) | skip)
      by_cases c5 : a1 < 0
      · rw [if_pos c5] at H
        have c5b0 : decide (a1 < 0) = true := decide_eq_true c5
        clear c5
        have H' := Aside0.mk H
        clear H
        go_wp2
        go_meet
        case rel => exact ⟨_, (true), (by first | rfl | (simp; done) | (simp [*]; done)), H', ⟨by first | omega | exact Nat.le_refl _⟩, ⟨by repeat (first | (with_reducible first | exact HB.out | apply below_alloc | apply pw_below_drewN | apply below_drew1) | exact HB.out)⟩⟩
      · rw [if_neg c5] at H
        have c5b0 : decide (a1 < 0) = false := decide_eq_false c5
        clear c5
        by_cases c6 : a0 > 200
        · rw [if_pos c6] at H
          have c6b0 : decide (200 < a0) = true := decide_eq_true c6
          clear c6
          have H' := Aside0.mk H
          clear H
          go_wp2
          go_meet
          case rel => exact ⟨_, (true), (by first | rfl | (simp; done) | (simp [*]; done)), H', ⟨by first | omega | exact Nat.le_refl _⟩, ⟨by repeat (first | (with_reducible first | exact HB.out | apply below_alloc | apply pw_below_drewN | apply below_drew1) | exact HB.out)⟩⟩
        · rw [if_neg c6] at H
          have c6b0 : decide (200 < a0) = false := decide_eq_false c6
          clear c6
          have H' := Aside0.mk H
          clear H
          go_wp2
          go_meet
          case rel => exact ⟨_, (decide (a1 > 200)), (by first | rfl | (simp; done) | (simp [*]; done)), H', ⟨by first | omega | exact Nat.le_refl _⟩, ⟨by repeat (first | (with_reducible first | exact HB.out | apply below_alloc | apply pw_below_drewN | apply below_drew1) | exact HB.out)⟩⟩
  case rest =>
    clear HC3
    try clear c2
    try clear p2
    try clear c4
    try clear c4b0
    try clear c5
    try clear c5b0
    try clear c6
    try clear c6b0
    obtain ⟨kq, x18_2, rfl, HA, HJ2, HB⟩ := hcut
    cases kq with
    | zero => exact absurd HA.out (by simp [impl_IsColdPair.j0])
    | succ kj2 =>
      have H := HA.out
      clear HA
      simp only [impl_IsColdPair.j0] at H
      by_cases c7 : x18_2 = true
      · subst c7
        have H1 : (some false) = some r := by rw [if_pos rfl] at H; exact H
        clear H
        have H := H1
        clear H1
        obtain rfl := Option.some.inj H
        go_wp2
        go_ret
        exact ⟨by first | rfl | (simp [errW_none, errW_some] <;> rfl) | (simp [*, errW_none, errW_some] <;> rfl), by repeat (first | (with_reducible first | exact HB.out | apply below_alloc | apply pw_below_drewN | apply below_drew1) | exact HB.out)⟩
      · replace c7 := Bool.eq_false_iff.mpr c7
        subst c7
        have H1 : (if (mn a0 a1) = 0 then (if (mx a0 a1) = 0 then (some true) else (if (mx a0 a1) > (mn a0 a1) then ((impl_LowerWythoff.f kj2 (wrap64 ((mx a0 a1) - (mn a0 a1)))).bind fun t179 => (if (mn a0 a1) = t179 then ((impl_UpperWythoff.f kj2 (wrap64 ((mx a0 a1) - (mn a0 a1)))).bind fun t180 => (some ((mx a0 a1) == t180))) else (some false))) else (some false))) else (if (mx a0 a1) > (mn a0 a1) then ((impl_LowerWythoff.f kj2 (wrap64 ((mx a0 a1) - (mn a0 a1)))).bind fun t181 => (if (mn a0 a1) = t181 then ((impl_UpperWythoff.f kj2 (wrap64 ((mx a0 a1) - (mn a0 a1)))).bind fun t182 => (some ((mx a0 a1) == t182))) else (some false))) else (some false))) = some r := by rw [if_neg (show ¬ (false = true) by decide)] at H; exact H
        clear H
        have H := H1
        clear H1
        obtain ⟨ji8, hji8⟩ : ∃ j_ : Int, (mn a0 a1) = j_ := ⟨_, rfl⟩
        replace H : (if (ji8) = 0 then (if (mx a0 a1) = 0 then (some true) else (if (mx a0 a1) > (ji8) then ((impl_LowerWythoff.f kj2 (wrap64 ((mx a0 a1) - (ji8)))).bind fun t179 => (if (ji8) = t179 then ((impl_UpperWythoff.f kj2 (wrap64 ((mx a0 a1) - (ji8)))).bind fun t180 => (some ((mx a0 a1) == t180))) else (some false))) else (some false))) else (if (mx a0 a1) > (ji8) then ((impl_LowerWythoff.f kj2 (wrap64 ((mx a0 a1) - (ji8)))).bind fun t181 => (if (ji8) = t181 then ((impl_UpperWythoff.f kj2 (wrap64 ((mx a0 a1) - (ji8)))).bind fun t182 => (some ((mx a0 a1) == t182))) else (some false))) else (some false))) = some r := by first | (rw [hji8] at H; exact H) | (simp only [hji8] at H ⊢; exact H)
        have hji8_ : (if a1 < a0 then a1 else a0) = ji8 := hji8
        obtain ⟨ji9, hji9⟩ : ∃ j_ : Int, (mx a0 a1) = j_ := ⟨_, rfl⟩
        replace H : (if (ji8) = 0 then (if (ji9) = 0 then (some true) else (if (ji9) > (ji8) then ((impl_LowerWythoff.f kj2 (wrap64 ((ji9) - (ji8)))).bind fun t179 => (if (ji8) = t179 then ((impl_UpperWythoff.f kj2 (wrap64 ((ji9) - (ji8)))).bind fun t180 => (some ((ji9) == t180))) else (some false))) else (some false))) else (if (ji9) > (ji8) then ((impl_LowerWythoff.f kj2 (wrap64 ((ji9) - (ji8)))).bind fun t181 => (if (ji8) = t181 then ((impl_UpperWythoff.f kj2 (wrap64 ((ji9) - (ji8)))).bind fun t182 => (some ((ji9) == t182))) else (some false))) else (some false))) = some r := by first | (rw [hji9] at H; exact H) | (simp only [hji9] at H ⊢; exact H)
        have hji9_ : (if a0 < a1 then a1 else a0) = ji9 := hji9
        by_cases c10 : (ji8) = 0
        · rw [if_pos c10] at H
          have c10b0 : ((ji8) == 0) = true := beq_iff_eq.mpr c10
          have c10b1 : ((ji8) != 0) = false := bne_eq_false_iff_eq.mpr c10
          clear c10
          by_cases c11 : (ji9) = 0
          · rw [if_pos c11] at H
            have c11b0 : ((ji9) == 0) = true := beq_iff_eq.mpr c11
            have c11b1 : ((ji9) != 0) = false := bne_eq_false_iff_eq.mpr c11
            clear c11
            obtain rfl := Option.some.inj H
            go_wp2
            go_ret
            exact ⟨by first | rfl | (simp [errW_none, errW_some] <;> rfl) | (simp only [← hji8, ← hji9]; first | rfl | (simp [errW_none, errW_some] <;> rfl)) | (simp [*, errW_none, errW_some] <;> rfl), by repeat (first | (with_reducible first | exact HB.out | apply below_alloc | apply pw_below_drewN | apply below_drew1) | exact HB.out)⟩
          · rw [if_neg c11] at H
            have c11b0 : ((ji9) == 0) = false := beq_eq_false_iff_ne.mpr c11
            have c11b1 : ((ji9) != 0) = true := bne_iff_ne.mpr c11
            by_cases c12 : (ji9) > (ji8)
            · rw [if_pos c12] at H
              have c12b0 : decide ((ji8) < (ji9)) = true := decide_eq_true c12
              clear c12
              replace H := Option.bind_eq_some_iff.mp H
              obtain ⟨t179, A130, H⟩ := H
              replace H : (if (ji8) = t179 then ((impl_UpperWythoff.f kj2 (wrap64 ((ji9) - (ji8)))).bind fun t180 => (some ((ji9) == t180))) else (some false)) = some r := H
              have A13 := Aside0.mk A130
              clear A130
              by_cases c14 : (ji8) = t179
              · rw [if_pos c14] at H
                have c14b0 : ((ji8) == t179) = true := beq_iff_eq.mpr c14
                have c14b1 : ((ji8) != t179) = false := bne_eq_false_iff_eq.mpr c14
                clear c14
                replace H := Option.bind_eq_some_iff.mp H
                obtain ⟨t180, A150, H⟩ := H
                replace H : (some ((ji9) == t180)) = some r := H
                have A15 := Aside0.mk A150
                clear A150
                obtain rfl := Option.some.inj H
                go_wp2_with (first | (go_at_call 15; (with_reducible refine (impl_LowerWythoff.calls kj2 (wrap64 ((ji9) - (ji8))) t179 _ A13.out).mono ?_); rintro e w16 ⟨rfl, hb⟩; have n0_ := Aside0.mk (below_step (by repeat (first | (with_reducible first | exact HB.out | apply below_alloc | apply pw_below_drewN | apply below_drew1) | exact HB.out)) hb); clear HB; have HB := n0_; clear n0_; (try clear hb); (try clear hb2); (try clear hk); (try clear hi)) | (go_at_call 17; (with_reducible refine (impl_UpperWythoff.calls kj2 (wrap64 ((ji9) - (ji8))) t180 _ A15.out).mono ?_); rintro e w17 ⟨rfl, hb⟩; have n0_ := Aside0.mk (below_step (by repeat (first | (with_reducible first | exact HB.out | apply below_alloc | apply pw_below_drewN | apply below_drew1) | exact HB.out)) hb); clear HB; have HB := n0_; clear n0_; (try clear hb); (try clear hb2); (try clear hk); (try clear hi)))
                go_ret
                exact ⟨by first | rfl | (simp [errW_none, errW_some] <;> rfl) | (simp only [← hji8, ← hji9]; first | rfl | (simp [errW_none, errW_some] <;> rfl)) | (simp [*, errW_none, errW_some] <;> rfl), by repeat (first | (with_reducible first | exact HB.out | apply below_alloc | apply pw_below_drewN | apply below_drew1) | exact HB.out)⟩
              · rw [if_neg c14] at H
                have c14b0 : ((ji8) == t179) = false := beq_eq_false_iff_ne.mpr c14
                have c14b1 : ((ji8) != t179) = true := bne_iff_ne.mpr c14
                obtain rfl := Option.some.inj H
                go_wp2_with (first | (go_at_call 15; (with_reducible refine (impl_LowerWythoff.calls kj2 (wrap64 ((ji9) - (ji8))) t179 _ A13.out).mono ?_); rintro e w18 ⟨rfl, hb⟩; have n0_ := Aside0.mk (below_step (by repeat (first | (with_reducible first | exact HB.out | apply below_alloc | apply pw_below_drewN | apply below_drew1) | exact HB.out)) hb); clear HB; have HB := n0_; clear n0_; (try clear hb); (try clear hb2); (try clear hk); (try clear hi)))
                go_ret
                exact ⟨by first | rfl | (simp [errW_none, errW_some] <;> rfl) | (simp only [← hji8, ← hji9]; first | rfl | (simp [errW_none, errW_some] <;> rfl)) | (simp [*, errW_none, errW_some] <;> rfl), by repeat (first | (with_reducible first | exact HB.out | apply below_alloc | apply pw_below_drewN | apply below_drew1) | exact HB.out)⟩
            · rw [if_neg c12] at H
              have c12b0 : decide ((ji8) < (ji9)) = false := decide_eq_false c12
              clear c12
              obtain rfl := Option.some.inj H
              go_wp2
              go_ret
              exact ⟨by first | rfl | (simp [errW_none, errW_some] <;> rfl) | (simp only [← hji8, ← hji9]; first | rfl | (simp [errW_none, errW_some] <;> rfl)) | (simp [*, errW_none, errW_some] <;> rfl), by repeat (first | (with_reducible first | exact HB.out | apply below_alloc | apply pw_below_drewN | apply below_drew1) | exact HB.out)⟩
        · rw [if_neg c10] at H
          have c10b0 : ((ji8) == 0) = false := beq_eq_false_iff_ne.mpr c10
          have c10b1 : ((ji8) != 0) = true := bne_iff_ne.mpr c10
          by_cases c19 : (ji9) > (ji8)
          · rw [if_pos c19] at H
            have c19b0 : decide ((ji8) < (ji9)) = true := decide_eq_true c19
            clear c19
            replace H := Option.bind_eq_some_iff.mp H
            obtain ⟨t181, A200, H⟩ := H
            replace H : (if (ji8) = t181 then ((impl_UpperWythoff.f kj2 (wrap64 ((ji9) - (ji8)))).bind fun t182 => (some ((ji9) == t182))) else (some false)) = some r := H
            have A20 := Aside0.mk A200
            clear A200
            by_cases c21 : (ji8) = t181
            · rw [if_pos c21] at H
              have c21b0 : ((ji8) == t181) = true := beq_iff_eq.mpr c21
              have c21b1 : ((ji8) != t181) = false := bne_eq_false_iff_eq.mpr c21
              clear c21
              replace H := Option.bind_eq_some_iff.mp H
              obtain ⟨t182, A220, H⟩ := H
              replace H : (some ((ji9) == t182)) = some r := H
              have A22 := Aside0.mk A220
              clear A220
              obtain rfl := Option.some.inj H
              go_wp2_with (first | (go_at_call 15; (with_reducible refine (impl_LowerWythoff.calls kj2 (wrap64 ((ji9) - (ji8))) t181 _ A20.out).mono ?_); rintro e w23 ⟨rfl, hb⟩; have n0_ := Aside0.mk (below_step (by repeat (first | (with_reducible first | exact HB.out | apply below_alloc | apply pw_below_drewN | apply below_drew1) | exact HB.out)) hb); clear HB; have HB := n0_; clear n0_; (try clear hb); (try clear hb2); (try clear hk); (try clear hi)) | (go_at_call 17; (with_reducible refine (impl_UpperWythoff.calls kj2 (wrap64 ((ji9) - (ji8))) t182 _ A22.out).mono ?_); rintro e w24 ⟨rfl, hb⟩; have n0_ := Aside0.mk (below_step (by repeat (first | (with_reducible first | exact HB.out | apply below_alloc | apply pw_below_drewN | apply below_drew1) | exact HB.out)) hb); clear HB; have HB := n0_; clear n0_; (try clear hb); (try clear hb2); (try clear hk); (try clear hi)))
              go_ret
              exact ⟨by first | rfl | (simp [errW_none, errW_some] <;> rfl) | (simp only [← hji8, ← hji9]; first | rfl | (simp [errW_none, errW_some] <;> rfl)) | (simp [*, errW_none, errW_some] <;> rfl), by repeat (first | (with_reducible first | exact HB.out | apply below_alloc | apply pw_below_drewN | apply below_drew1) | exact HB.out)⟩
            · rw [if_neg c21] at H
              have c21b0 : ((ji8) == t181) = false := beq_eq_false_iff_ne.mpr c21
              have c21b1 : ((ji8) != t181) = true := bne_iff_ne.mpr c21
              obtain rfl := Option.some.inj H
              go_wp2_with (first | (go_at_call 15; (with_reducible refine (impl_LowerWythoff.calls kj2 (wrap64 ((ji9) - (ji8))) t181 _ A20.out).mono ?_); rintro e w25 ⟨rfl, hb⟩; have n0_ := Aside0.mk (below_step (by repeat (first | (with_reducible first | exact HB.out | apply below_alloc | apply pw_below_drewN | apply below_drew1) | exact HB.out)) hb); clear HB; have HB := n0_; clear n0_; (try clear hb); (try clear hb2); (try clear hk); (try clear hi)))
              go_ret
              exact ⟨by first | rfl | (simp [errW_none, errW_some] <;> rfl) | (simp only [← hji8, ← hji9]; first | rfl | (simp [errW_none, errW_some] <;> rfl)) | (simp [*, errW_none, errW_some] <;> rfl), by repeat (first | (with_reducible first | exact HB.out | apply below_alloc | apply pw_below_drewN | apply below_drew1) | exact HB.out)⟩
          · rw [if_neg c19] at H
            have c19b0 : decide ((ji8) < (ji9)) = false := decide_eq_false c19
            clear c19
            obtain rfl := Option.some.inj H
            go_wp2
            go_ret
            exact ⟨by first | rfl | (simp [errW_none, errW_some] <;> rfl) | (simp only [← hji8, ← hji9]; first | rfl | (simp [errW_none, errW_some] <;> rfl)) | (simp [*, errW_none, errW_some] <;> rfl), by repeat (first | (with_reducible first | exact HB.out | apply below_alloc | apply pw_below_drewN | apply below_drew1) | exact HB.out)⟩

/-! ### laws_FnExactIsColdPair: function 7 -/
def laws_FnExactIsColdPair.f (k : Nat) (a0 : Int) (a1 : Int) : Option (Bool) := (spec_IsColdPair.f k a0 a1).bind fun t183 => ((impl_IsColdPair.f k a0 a1).bind fun t184 => (if (t184 != t183) = true then (some false) else (some true)))
theorem laws_FnExactIsColdPair.mono : ∀ a0 a1 k, LeO (laws_FnExactIsColdPair.f k a0 a1) (laws_FnExactIsColdPair.f (k + 1) a0 a1) := by
  intro a0 a1 k
  unfold laws_FnExactIsColdPair.f
  repeat' first
      | (with_reducible exact impl_IsColdPair.mono _ _ _)
      | (with_reducible exact spec_IsColdPair.mono _ _ _)
      | (with_reducible exact LeO.refl _)
      | (with_reducible exact LeO.none _)
      | (with_reducible refine LeO.ite ?_ ?_)
      | (with_reducible refine LeO.bind ?_ (fun _ => ?_))
      | exact impl_IsColdPair.mono _ _ _
      | exact spec_IsColdPair.mono _ _ _
      | exact LeO.none _
      | refine LeO.ite ?_ ?_
      | refine LeO.bind ?_ (fun _ => ?_)
set_option maxHeartbeats 8000000 in
set_option maxRecDepth 100000 in
theorem laws_FnExactIsColdPair.calls (k : Nat) (a0 : Int) (a1 : Int) (r : Bool) (w : World) (h : laws_FnExactIsColdPair.f k a0 a1 = some r) :
    Calls Try.prog 7 #[.int .i64 a0, .int .i64 a1] w fun e w' => e = .returned (.bool r) ∧ Below w.heap.size w w' := by
  have HB := Aside0.mk (Below.refl w.heap.size w)
  have H : ((spec_IsColdPair.f k a0 a1).bind fun t183 => ((impl_IsColdPair.f k a0 a1).bind fun t184 => (if (t184 != t183) = true then (some false) else (some true)))) = some r := h
  clear h
  replace H := Option.bind_eq_some_iff.mp H
  obtain ⟨t183, A30, H⟩ := H
  replace H : ((impl_IsColdPair.f k a0 a1).bind fun t184 => (if (t184 != t183) = true then (some false) else (some true))) = some r := H
  have A3 := Aside0.mk A30
  clear A30
  replace H := Option.bind_eq_some_iff.mp H
  obtain ⟨t184, A40, H⟩ := H
  replace H : (if (t184 != t183) = true then (some false) else (some true)) = some r := H
  have A4 := Aside0.mk A40
  clear A40
  by_cases c5 : (t184 != t183) = true
  · rw [if_pos c5] at H
    have c5b0 : (t184 != t183) = true := c5
    (try (have c5b1 : decide (t184 = t183) = false := by simpa using c5))
    (try (have c5b2 : (t184 == t183) = false := by simpa using c5))
    (try (have c5b3 : ¬ (t184 = t183) := by simpa using c5))
    clear c5
    obtain rfl := Option.some.inj H
    go_enter Try.func7, Try.ntmps7
    go_wp2_with (first | ((with_reducible refine gate_callee (f := 23) rfl ?_); refine goesL_ (some 9) rfl rfl Try.func23 (by kernel_rfl) rfl #[.int .i64 a0, .int .i64 a1] rfl (by (try simp only [List.map_toArray, List.map_cons, List.map_nil]); first | done | rfl | (simp only [List.length_drop, List.length_take]; rfl)) ?_; (with_reducible refine (spec_IsColdPair.calls k a0 a1 t183 _ A3.out).mono ?_); rintro e w6 ⟨rfl, hb⟩; refine ⟨_, rfl, ?_⟩; have n0_ := Aside0.mk (below_step (by repeat (first | (with_reducible first | exact HB.out | apply below_alloc | apply pw_below_drewN | apply below_drew1) | exact HB.out)) hb); clear HB; have HB := n0_; clear n0_; (try clear hb); (try clear hb2); (try clear hk); (try clear hi)) | ((with_reducible refine gate_callee (f := 24) rfl ?_); refine goesL_ (some 12) rfl rfl Try.func24 (by kernel_rfl) rfl #[.int .i64 a0, .int .i64 a1] rfl (by (try simp only [List.map_toArray, List.map_cons, List.map_nil]); first | done | rfl | (simp only [List.length_drop, List.length_take]; rfl)) ?_; (with_reducible refine (impl_IsColdPair.calls k a0 a1 t184 _ A4.out).mono ?_); rintro e w7 ⟨rfl, hb⟩; refine ⟨_, rfl, ?_⟩; have n0_ := Aside0.mk (below_step (by repeat (first | (with_reducible first | exact HB.out | apply below_alloc | apply pw_below_drewN | apply below_drew1) | exact HB.out)) hb); clear HB; have HB := n0_; clear n0_; (try clear hb); (try clear hb2); (try clear hk); (try clear hi)))
    go_ret
    exact ⟨by first | rfl | (simp [errW_none, errW_some] <;> rfl) | (simp [*, errW_none, errW_some] <;> rfl), by repeat (first | (with_reducible first | exact HB.out | apply below_alloc | apply pw_below_drewN | apply below_drew1) | exact HB.out)⟩
  · rw [if_neg c5] at H
    have c5b0 : (t184 != t183) = false := by simpa using c5
    (try (have c5b1 : decide (t184 = t183) = true := by simpa using c5))
    (try (have c5b2 : (t184 == t183) = true := by simpa using c5))
    clear c5
    obtain rfl := Option.some.inj H
    go_enter Try.func7, Try.ntmps7
    go_wp2_with (first | ((with_reducible refine gate_callee (f := 23) rfl ?_); refine goesL_ (some 9) rfl rfl Try.func23 (by kernel_rfl) rfl #[.int .i64 a0, .int .i64 a1] rfl (by (try simp only [List.map_toArray, List.map_cons, List.map_nil]); first | done | rfl | (simp only [List.length_drop, List.length_take]; rfl)) ?_; (with_reducible refine (spec_IsColdPair.calls k a0 a1 t183 _ A3.out).mono ?_); rintro e w8 ⟨rfl, hb⟩; refine ⟨_, rfl, ?_⟩; have n0_ := Aside0.mk (below_step (by repeat (first | (with_reducible first | exact HB.out | apply below_alloc | apply pw_below_drewN | apply below_drew1) | exact HB.out)) hb); clear HB; have HB := n0_; clear n0_; (try clear hb); (try clear hb2); (try clear hk); (try clear hi)) | ((with_reducible refine gate_callee (f := 24) rfl ?_); refine goesL_ (some 12) rfl rfl Try.func24 (by kernel_rfl) rfl #[.int .i64 a0, .int .i64 a1] rfl (by (try simp only [List.map_toArray, List.map_cons, List.map_nil]); first | done | rfl | (simp only [List.length_drop, List.length_take]; rfl)) ?_; (with_reducible refine (impl_IsColdPair.calls k a0 a1 t184 _ A4.out).mono ?_); rintro e w9 ⟨rfl, hb⟩; refine ⟨_, rfl, ?_⟩; have n0_ := Aside0.mk (below_step (by repeat (first | (with_reducible first | exact HB.out | apply below_alloc | apply pw_below_drewN | apply below_drew1) | exact HB.out)) hb); clear HB; have HB := n0_; clear n0_; (try clear hb); (try clear hb2); (try clear hk); (try clear hi)))
    go_ret
    exact ⟨by first | rfl | (simp [errW_none, errW_some] <;> rfl) | (simp [*, errW_none, errW_some] <;> rfl), by repeat (first | (with_reducible first | exact HB.out | apply below_alloc | apply pw_below_drewN | apply below_drew1) | exact HB.out)⟩

/-- THE ONE PURE STATEMENT of laws_FnExactIsColdPair: yours. -/
def laws_FnExactIsColdPair.Pure : Prop := ∀ (a0 : Int) (a1 : Int), (Lit.int .i64 a0).wf = true → (Lit.int .i64 a1).wf = true → ∃ k, laws_FnExactIsColdPair.f k a0 a1 = some true
theorem laws_FnExactIsColdPair.walk (P : laws_FnExactIsColdPair.Pure) (a0 : Int) (a1 : Int) (w : World) (w0 : (Lit.int .i64 a0).wf = true) (w1 : (Lit.int .i64 a1).wf = true) :
    Calls Try.prog 7 #[.int .i64 a0, .int .i64 a1] w fun e w' => e = .returned (.bool true) ∧ Below w.heap.size w w' := by
  obtain ⟨k, h⟩ := P a0 a1 w0 w1
  refine (laws_FnExactIsColdPair.calls k a0 a1 true w h).mono ?_
  rintro e w' ⟨rfl, hd⟩
  exact ⟨rfl, hd⟩

end Go.Proofs.Ytdcakddfibnllaa.PFnExactIsColdPair
