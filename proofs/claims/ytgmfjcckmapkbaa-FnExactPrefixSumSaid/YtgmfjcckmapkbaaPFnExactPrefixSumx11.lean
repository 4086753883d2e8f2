/- Walks of the functions that the law reaches. -/
import Derived.Test.YtgmfjcckmapkbaaPFnExactPrefixSumx9
namespace Go.Proofs.Ytgmfjcckmapkbaa.PFnExactPrefixSum
open Go.RowKit Go.Proofs.YtgmfjcckmapkbaaW.PrintWords Go.Proofs.YtgmfjcckmapkbaaW.PrintLast Go.Proofs.YtgmfjcckmapkbaaW.PrintMore
attribute [local go_sem] max2_int min2_int max_two min_two max_three min_three max_four min_four
set_option linter.unusedVariables false
set_option maxHeartbeats 8000000
set_option maxRecDepth 100000
set_option linter.unusedSimpArgs false

mutual
def spec_DigitsOf.j0 : Nat → Int → Int → List Int → Bool → Option (List Int)
 | 0, _, _, _, _ => none
 | k + 1, x0, x1, x5, aN => if aN = true then (some x5) else (spec_DigitsOf.l0 k x0 x1 x5)
def spec_DigitsOf.l0 : Nat → Int → Int → List Int → Option (List Int)
 | 0, _, _, _ => none
 | k + 1, x0, x1, x5 => if x0 > 0 then (if x1 = 0 then (none) else ((some (([Int.tmod x0 x1] : List Int) : List Int)).bind fun af => (if af.length + x5.length < 17592186044416 then (spec_DigitsOf.l0 k (wrap64 (Int.tdiv x0 x1)) x1 (af ++ x5)) else (none)))) else (some x5)
end
def spec_DigitsOf.f (k : Nat) (a0 : Int) (a1 : Int) : Option (List Int) := (some (([] : List Int) : List Int)).bind fun ac => (if a0 < 0 then (spec_DigitsOf.j0 k a0 a1 ac true) else ((spec_l1In.f a1 2 4).bind fun am => (if am = true then ((spec_PowerOf.f k a1 16).bind fun ah => (spec_DigitsOf.j0 k a0 a1 ac (decide (a0 ≥ ah)))) else (spec_DigitsOf.j0 k a0 a1 ac true))))
theorem spec_DigitsOf.calls (k : Nat) (a0 : Int) (a1 : Int) (r : List Int) (w : World) (h : spec_DigitsOf.f k a0 a1 = some r) :
  Calls Try.prog 47 #[.int .i64 a0, .int .i64 a1] w fun e w' => ∃ v0_ : Value, e = .returned (v0_) ∧ Kd.R (Kd.int .i64) 3 w' w.heap.size (fun _ => True) v0_ r ∧ Below w.heap.size w w' := by
 have HB := A_ (Below.refl w.heap.size w); unfold spec_DigitsOf.f at h; have H := h; clear h; obtain ⟨ac, aj⟩ := ex_ ((([] : List Int)) : List Int); replace H : (if a0 < 0 then (spec_DigitsOf.j0 k a0 a1 ac true) else ((spec_l1In.f a1 2 4).bind fun am => (if am = true then ((spec_PowerOf.f k a1 16).bind fun ah => (spec_DigitsOf.j0 k a0 a1 ac (decide (a0 ≥ ah)))) else (spec_DigitsOf.j0 k a0 a1 ac true)))) = some r := by (have H2_ := (Option.bind_some _ _).symm.trans H; rw [aj]; with_reducible exact H2_)
 have ar := A_ aj; clear aj; have HC3 := A_ H; clear H; go_enter Try.func47, Try.ntmps47
 go_upto_region 2 with (first | ((with_reducible refine gd_ 6 rfl ?_); refine RL_ 6 3 [] [] rfl rfl (by go_simp; done) rfl rfl ?_; rintro aD w4 ho5 hb - -; (rw [← ar.o] at ho5); have ai := A_ (Kd.R_lower ho5 (below_size HB.o)); replace HB := bs_ HB hb; clear hb ho5))
 (try simp only [Act.put, mD, mE, mF])
 go_cut [19] (fun aK wc => ∃ (kq : Nat) (ag : Bool), aK = .bool ag ∧ Aside0 (spec_DigitsOf.j0 kq a0 a1 ac ag = some r) ∧ Aside0 (kq ≤ k) ∧ Aside0 (Kd.R (Kd.int .i64) 3 wc w.heap.size (fun _ => True) aD ac) ∧ Aside0 (Below w.heap.size w wc))
 case first =>
  have H := HC3.o; clear HC3
  by_cases c6 : a0 < 0
  ·rw [if_pos c6] at H; have az := decide_eq_true c6; clear c6
   (skip)
   have H' := A_ H
   clear H
   go_wp2
   go_meet
   case rel => exact ⟨_, (true), (by rfl), H', ⟨by omega⟩, ⟨ai.o⟩, ⟨HB.o⟩⟩
  rw [if_neg c6] at H; have az := decide_eq_false c6; clear c6
  (skip)
  replace H := bA_ H; obtain ⟨am, A7, H⟩ := H
  by_cases c8 : am = true
  ·subst c8; rw [if_pos rfl] at H; replace H := bA_ H; obtain ⟨ah, A9, H⟩ := H
   have H' := A_ H
   clear H
   go_wp2_with (first | (go_at_call 22; (with_reducible refine (spec_l1In.calls a1 2 4 true _ A7.o).mono ?_); rintro e w' ⟨rfl, ⟨nd, rfl⟩⟩) | (go_at_call 37; (with_reducible refine (spec_PowerOf.calls k a1 16 ah _ A9.o).mono ?_); rintro e w' ⟨rfl, ⟨nd, rfl⟩⟩))
   go_meet
   case rel => exact ⟨_, (decide (a0 ≥ ah)), (by rfl), H', ⟨by omega⟩, ⟨by (with_reducible repeat (first | apply Kd.R_alloc | apply Kd.R_drewN | apply Kd.R_drew)); exact ai.o⟩, ⟨by repeat (first | (with_reducible first | exact HB.o | apply below_alloc | apply pw_below_drewN | apply below_drew1) | exact HB.o)⟩⟩
  replace c8 := Bool.eq_false_iff.mpr c8; subst c8; rw [if_neg nf_] at H
  have H' := A_ H
  clear H
  go_wp2_with (first | (go_at_call 22; (with_reducible refine (spec_l1In.calls a1 2 4 false _ A7.o).mono ?_); rintro e w' ⟨rfl, ⟨nd, rfl⟩⟩))
  go_meet
  case rel => exact ⟨_, (true), (by rfl), H', ⟨by omega⟩, ⟨by (with_reducible repeat (first | apply Kd.R_alloc | apply Kd.R_drewN | apply Kd.R_drew)); exact ai.o⟩, ⟨by repeat (first | (with_reducible first | exact HB.o | apply below_alloc | apply pw_below_drewN | apply below_drew1) | exact HB.o)⟩⟩
 case rest =>
  clear HC3; obtain ⟨kq, ag, rfl, HA, aG, ab, HB⟩ := hcut
  cases kq with
  | zero => exact nz_ HA.o
  | succ kj2 =>
   have H := HA.o; clear HA; simp only [spec_DigitsOf.j0] at H
   by_cases c10 : ag = true
   ·subst c10; rw [if_pos rfl] at H; obtain rfl := Option.some.inj H
    go_wp2
    go_ret
    exact ⟨_, by rfl, ab.o, HB.o⟩
   replace c10 := Bool.eq_false_iff.mpr c10; subst c10; rw [if_neg nf_] at H
   have H' := A_ H
   clear H
   go_wp2
   go_loopg [0, 5] kj2 (fun kq v0 v5 w' => ∃ (aa : Int) (ae : List Int), v0 = .int .i64 aa ∧ Aside0 (spec_DigitsOf.l0 kq aa a1 ae = some r) ∧ Aside0 (kq ≤ kj2) ∧ Aside0 (Kd.R (Kd.int .i64) 3 w' w.heap.size (fun _ => True) v5 ae) ∧ Aside0 (Below w.heap.size w w'))
   case atStart => exact ⟨(a0), (ac), (by rfl), H', ⟨Nat.le_refl _⟩, ⟨ab.o⟩, ⟨HB.o⟩⟩
   case round =>
    clear H'; obtain ⟨aa, ae, rfl, HA, aH, ab, HB⟩ := hrel
    cases gk with
    | zero => exact nz_ HA.o
    | succ k2 =>
     have H := HA.o; clear HA; simp only [spec_DigitsOf.l0] at H
     by_cases c11 : aa > 0
     ·rw [if_pos c11] at H
      have aw : decide (0 < aa) = true := decide_eq_true c11
      clear c11
      by_cases c12 : a1 = 0
      ·rw [if_pos c12] at H
       cases H
      rw [if_neg c12] at H
      have aI : (a1 == 0) = false := beq_eq_false_iff_ne.mpr c12
      have aJ : (a1 != 0) = true := bne_iff_ne.mpr c12
      obtain ⟨af, ak⟩ := ex_ ((([Int.tmod aa a1] : List Int)) : List Int); replace H : (if af.length + ae.length < 17592186044416 then (spec_DigitsOf.l0 k2 (wrap64 (Int.tdiv aa a1)) a1 (af ++ ae)) else (none)) = some r := by (have H2_ := (Option.bind_some _ _).symm.trans H; rw [ak]; with_reducible exact H2_)
      have au := A_ ak; clear ak
      by_cases c13 : af.length + ae.length < 17592186044416
      ·rw [if_pos c13] at H; have aq := A_ c13; clear c13; obtain ⟨ax, al⟩ := ex_ ((af ++ ae) : List Int); replace H : (spec_DigitsOf.l0 k2 (wrap64 (Int.tdiv aa a1)) a1 ax) = some r := by (rw [al]; with_reducible exact H)
       have av := A_ al; clear al
       have H' := A_ H
       clear H
       go_wp2_with (first | ((with_reducible refine gate_dst (N := 26) rfl ?_); refine Kd.R_lit (Kd.int .i64) _ 3 ?hg (N := 26) ?hd (xs := ([Int.tmod aa a1] : List Int)) (inner := [.int .i64 (Int.tmod aa a1)]) (ok := fun _ => True) (okp := fun _ => True) ?hr ?hp (fun _ hk => hk) trivial (Below.refl _ _) (Nat.le_refl _) (by simp) ?_; (case hd | hg => rfl); (case hr => go_simp; done); (case hp => exact (Reps.one (show Kd.M (Kd.int .i64) _ _ _ (Int.tmod aa a1) [.int .i64 (Int.tmod aa a1)] from rfl) (Reps.none _ _))); rintro aE w14 an hb - -; (rw [← au.o] at an); have ao := A_ (Kd.R_lower (Kd.R_new' an (Kd.R_lt ab.o)) (below_size HB.o)); replace ab := A_ (Kd.R_elder' ab.o (Kd.R_base an) hb); replace HB := bs_ HB hb; clear hb an; obtain ⟨ay, aA, aC⟩ := Kd.R_slice ab.o; subst aC) | ((with_reducible refine gate_builtin (b := .append) (xs := #[.tmp 26, .tmp 27]) rfl ?_); at_builtin; refine Kd.R_append_rows (Kd.int .i64) (w0 := w) w.heap.size rfl (.tmp 26) (.tmp 27) 23 3 (.int .i64 0) 8 rfl Try.underlying23 info3 rfl (by decide) (by omega) aE af ae _ _ _ (o1 (.slice ay ae.length aA)) (fun _ => False) rfl rfl ?aO ?aR (fun _ _ h => h) (fun _ h => h.elim) ?aF ?aB ?aS ?aL ?_; (case aR => exact (Kd.R_reads' ab.o).2.2); (case aB => exact HB.o); (case aF => exact (fun k_ hk => Kd.fresh' (Kd.R_lt ab.o) k_ hk)); (case aO => exact (by exact Kd.R_mono ao.o (fun _ hk => hk.2))); (case aS => exact (below_size HB.o)); (case aL => have := aq.o; omega); intro aM w16 ho hb hg hat; rw [← av.o] at ho; replace ab := A_ (Kd.R_after (ok := (fun _ => True)) ab.o hg hat); replace HB := A_ (hb); have ap := A_ (ho); clear ao; clear ho hb hg hat))
       go_roundg k2
       case measure => have := aG.o; have := aH.o; omega
       case rel => exact ⟨(wrap64 (Int.tdiv aa a1)), (ax), (by rfl), H', ⟨by have := aG.o; have := aH.o; omega⟩, ⟨by exact Kd.R_mono ap.o (fun _ hk => trivial)⟩, ⟨HB.o⟩⟩
      rw [if_neg c13] at H
      cases H
     rw [if_neg c11] at H
     have aw : decide (0 < aa) = false := decide_eq_false c11
     clear c11; obtain rfl := Option.some.inj H
     go_wp2
     go_ret
     exact ⟨_, by rfl, ab.o, HB.o⟩

end Go.Proofs.Ytgmfjcckmapkbaa.PFnExactPrefixSum

