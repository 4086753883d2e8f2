/- Walks of the functions that the law reaches. -/
import Derived.Test.YtlcepacbbfekoaaPFnExactSumFormsx0
namespace Go.Proofs.Ytlcepacbbfekoaa.PFnExactSumForms
open Go.RowKit Go.Proofs.YtlcepacbbfekoaaW.PrintWords Go.Proofs.YtlcepacbbfekoaaW.PrintLast Go.Proofs.YtlcepacbbfekoaaW.PrintMore
attribute [local go_sem] max2_int min2_int max_two min_two max_three min_three max_four min_four
set_option linter.unusedVariables false
set_option maxHeartbeats 8000000
set_option maxRecDepth 100000
set_option linter.unusedSimpArgs false

def slices_Grow0.f (a0 : Int) : Option (List Int) := if 0 ≤ a0 then if a0.toNat ≤ 17592186044416 then some [] else none else none
theorem slices_Grow0.calls (a0 : Int) (r : List Int) (w : World) (h : slices_Grow0.f a0 = some r) :
  Calls Try.prog 30 #[.slice none 0 0, .int .i64 a0] w fun e w' => ∃ v0_ : Value, e = .returned (v0_) ∧ Kd.R (Kd.int .i64) 3 w' w.heap.size (fun _ => True) v0_ r ∧ Below w.heap.size w w' := by
 unfold slices_Grow0.f at h
 by_cases h0 : 0 ≤ a0
 case neg => rw [if_neg h0] at h; cases h
 rw [if_pos h0] at h
 by_cases h1 : a0.toNat ≤ 17592186044416
 case neg => rw [if_neg h1] at h; cases h
 rw [if_pos h1] at h; obtain rfl := Option.some.inj h; clear h; have H0 := A_ h0; have H1 := A_ h1
 have c1 : decide (a0 < 0) = false := decide_eq_false (by omega)
 have hwa : wrap64 a0 = a0 := by unfold wrap64; omega
 have HW := A_ hwa
 by_cases hz : 0 < a0
 ·have c2 : decide (a0 > 0) = true := decide_eq_true hz
  clear h0 h1 hz; go_enter Try.func30, Try.ntmps30
  go_wp2_with (first | ((with_reducible refine gate_builtin (b := .append) (xs := #[.tmp 20, .tmp 21]) rfl ?_); at_builtin; refine Kd.R_append_zeros (Kd.int .i64) (w0 := w) w.heap.size rfl (.tmp 20) (.tmp 21) 22 3 3 (.int .i64 0) 8 rfl Try.underlying22 Try.underlying3 info3 rfl (by decide) (by omega) (.slice none 0 0) [] 0 (wrap64 a0) (fun _ => True) rfl rfl ?aZ (fun _ _ => trivial) (Kd.R_nil _ _ _ _ _) (by rw [HW.o]; exact H0.o) (Below.refl _ _) (Nat.le_refl _) ?aL ?_; (case aL => (have := H1.o; rw [HW.o]; simp only [List.length_nil]; omega)); (case aZ => exact rfl); intro v1 w1 ho hb hg hat; obtain ⟨A, cp, e_⟩ := Kd.R_slice ho; subst e_; have HO := A_ ho; have HB := A_ hb; clear ho hb hg hat))
  go_ret
  exact ⟨_, rfl, Kd.R_take (m := 0) HO.o (Nat.zero_le _), HB.o⟩
 have c2 : decide (a0 > 0) = false := decide_eq_false hz
 clear h0 h1 hz; go_enter Try.func30, Try.ntmps30
 go_wp2
 go_ret
 exact ⟨_, rfl, Kd.R_nil _ _ _ _ _, Below.refl _ _⟩
mutual
def slices_Concat_int_int.l0 : Nat → List (List Int) → Int → List (List Int) → Int → Int → Option (List Int)
 | 0, _, _, _, _, _ => none
 | k + 1, x0, x3, x9, bx, aE => if aE < bx then (if 0 ≤ aE then (if aE < (x9.length : Int) then (if (wrap64 (x3 + ((rd_L1 x9 aE).length : Int))) < 0 then (none) else (slices_Concat_int_int.l0 k x0 (wrap64 (x3 + ((rd_L1 x9 aE).length : Int))) x9 bx (wrap64 (aE + 1)))) else (none)) else (none)) else ((slices_Grow0.f x3).bind fun aw => (slices_Concat_int_int.l1 k aw x0 (x0.length : Int) 0))
def slices_Concat_int_int.l1 : Nat → List Int → List (List Int) → Int → Int → Option (List Int)
 | 0, _, _, _, _ => none
 | k + 1, x6, bh, bz, aG => if aG < bz then (if 0 ≤ aG then (if aG < (bh.length : Int) then (if x6.length + (rd_L1 bh aG).length < 17592186044416 then (slices_Concat_int_int.l1 k (x6 ++ (rd_L1 bh aG)) bh bz (wrap64 (aG + 1))) else (none)) else (none)) else (none)) else (some x6)
end
def slices_Concat_int_int.f (k : Nat) (l0 : List (List Int)) : Option (List Int) := slices_Concat_int_int.l0 k l0 0 l0 (l0.length : Int) 0
theorem slices_Concat_int_int.mono_l : ∀ k, (∀ y0 y1 y2 y3 y4, LeO (slices_Concat_int_int.l0 k y0 y1 y2 y3 y4) (slices_Concat_int_int.l0 (k + 1) y0 y1 y2 y3 y4)) ∧ (∀ y0 y1 y2 y3, LeO (slices_Concat_int_int.l1 k y0 y1 y2 y3) (slices_Concat_int_int.l1 (k + 1) y0 y1 y2 y3))
 | 0 => ⟨fun _ _ _ _ _ r h => by simp [slices_Concat_int_int.l0] at h, fun _ _ _ _ r h => by simp [slices_Concat_int_int.l1] at h⟩
 | k + 1 => by
  obtain ⟨ih0, ih1⟩ := slices_Concat_int_int.mono_l k; refine ⟨?_, ?_⟩
  ·intro y0 y1 y2 y3 y4; unfold slices_Concat_int_int.l0
   with_reducible repeat' first | exact ih0 _ _ _ _ _ | exact ih1 _ _ _ _ | exact LeO.refl _ | exact LeO.none _ | refine LeO.ite ?_ ?_ | refine LeO.bind ?_ (fun _ => ?_)
  intro y0 y1 y2 y3; unfold slices_Concat_int_int.l1
  with_reducible repeat' first | exact ih0 _ _ _ _ _ | exact ih1 _ _ _ _ | exact LeO.refl _ | exact LeO.none _ | refine LeO.ite ?_ ?_ | refine LeO.bind ?_ (fun _ => ?_)
theorem slices_Concat_int_int.mono : ∀ a0 k, LeO (slices_Concat_int_int.f k a0) (slices_Concat_int_int.f (k + 1) a0) := by
 intro a0 k; obtain ⟨ih0, ih1⟩ := slices_Concat_int_int.mono_l k; unfold slices_Concat_int_int.f
 with_reducible repeat' first | exact ih0 _ _ _ _ _ | exact ih1 _ _ _ _ | exact LeO.refl _ | exact LeO.none _ | refine LeO.ite ?_ ?_ | refine LeO.bind ?_ (fun _ => ?_)
theorem slices_Concat_int_int.calls (k : Nat) (A0 : Option Addr) (c0 : Nat) (l0 : List (List Int)) (r : List Int) (w : World) (hr0 : Kd.C (Kd.slice 3 (Kd.int .i64)) w A0 l0.length l0) (hc0 : l0.length ≤ c0) (h : slices_Concat_int_int.f k l0 = some r) :
  Calls Try.prog 17 #[.slice A0 l0.length c0] w fun e w' => ∃ v0_ : Value, e = .returned (v0_) ∧ Kd.R (Kd.int .i64) 3 w' w.heap.size (fun _ => True) v0_ r ∧ Below w.heap.size w w' := by
 have HR0 := A_ hr0; have HC0 := A_ hc0; clear hr0 hc0; have HB := A_ (Below.refl w.heap.size w); unfold slices_Concat_int_int.f at h; have H := h; clear h
 have H' := A_ H
 clear H; go_enter Try.func17, Try.ntmps17
 go_wp2
 go_loopg [3, 11] k (fun kq v3 bF w' => ∃ (ac : Int) (ab : Int), v3 = .int .i64 ac ∧ bF = .int .i64 ab ∧ Aside0 (slices_Concat_int_int.l0 kq l0 ac l0 (l0.length : Int) ab = some r) ∧ Aside0 (kq ≤ k) ∧ Aside0 (Below w.heap.size w w'))
 case atStart => exact ⟨(0), (0), (by rfl), (by rfl), H', ⟨Nat.le_refl _⟩, ⟨HB.o⟩⟩
 case round =>
  clear H'; obtain ⟨ac, ab, rfl, rfl, HA, ax, HB⟩ := hrel
  cases gk with
  | zero => exact nz_ HA.o
  | succ k1 =>
   have H := HA.o; clear HA; simp only [slices_Concat_int_int.l0] at H
   by_cases c2 : ab < (l0.length : Int)
   ·rw [if_pos c2] at H; have aX := decide_eq_true c2; clear c2
    by_cases c3 : 0 ≤ ab
    ·rw [if_pos c3] at H; have bA := decide_eq_true c3; clear c3
     by_cases c4 : ab < (l0.length : Int)
     ·rw [if_pos c4] at H; have aY := decide_eq_true c4; clear c4
      by_cases c5 : (wrap64 (ac + ((rd_L1 l0 ab).length : Int))) < 0
      ·rw [if_pos c5] at H; have a8 := decide_eq_true c5; clear c5
       cases H
      rw [if_neg c5] at H; have a8 := decide_eq_false c5; clear c5
      have H' := A_ H
      clear H
      have az : 0 ≤ (ab : Int) := oa_
      have aC : ab < (l0.length : Int) := oa_
      obtain ⟨bu, bi, bl, bp, ae, al, aj⟩ := at_L1 HR0.o ab az aC
      cases bp
      replace ae := (HB.o.cell (World.block_lt_of_cell? w _ ae)).trans ae; have bg := A_ aj; have be := A_ al; clear aj al; replace az := eq_true az; replace aC := eq_true aC
      go_wp2
      go_roundg k1
      case measure => have := ax.o; omega
      case rel => exact ⟨(wrap64 (ac + ((rd_L1 l0 ab).length : Int))), (wrap64 (ab + 1)), (by rfl), (by rfl), H', ⟨by have := ax.o; omega⟩, ⟨HB.o⟩⟩
     rw [if_neg c4] at H
     cases H
    rw [if_neg c3] at H
    cases H
   rw [if_neg c2] at H; have aX := decide_eq_false c2; clear c2; replace H := bA_ H; obtain ⟨aw, A6, H⟩ := H
   have H' := A_ H
   clear H
   go_wp2_with (first | ((with_reducible refine gc_ 30 rfl ?_); refine cM_ E30 24 (slices_Grow0.calls ac aw _ A6.o) ?_; rintro e w7 ⟨bG, rfl, ho0, hb⟩; refine ⟨_, rfl, ?_⟩; have aI := A_ (Kd.R_lower ho0 (below_size HB.o)); replace HB := bs_ HB hb; clear hb; (try clear ho0)))
   go_loopg [6, 27] k1 (fun kq v6 bL w' => ∃ (an : List Int) (aa : Int), bL = .int .i64 aa ∧ Aside0 (slices_Concat_int_int.l1 kq an l0 (l0.length : Int) aa = some r) ∧ Aside0 (kq ≤ k1) ∧ Aside0 (Kd.R (Kd.int .i64) 3 w' w.heap.size (fun _ => True) v6 an) ∧ Aside0 (Below w.heap.size w w'))
   case atStart => exact ⟨(aw), (0), (by rfl), H', ⟨Nat.le_refl _⟩, ⟨aI.o⟩, ⟨HB.o⟩⟩
   case round =>
    clear H'
    try clear aX
    obtain ⟨an, aa, rfl, HA, bs, ay, HB⟩ := hrel
    cases gk with
    | zero => exact nz_ HA.o
    | succ k2 =>
     have H := HA.o; clear HA; simp only [slices_Concat_int_int.l1] at H
     by_cases c8 : aa < (l0.length : Int)
     ·rw [if_pos c8] at H; have bn := decide_eq_true c8; clear c8
      by_cases c9 : 0 ≤ aa
      ·rw [if_pos c9] at H; have bE := decide_eq_true c9; clear c9
       by_cases c10 : aa < (l0.length : Int)
       ·rw [if_pos c10] at H; have bw := decide_eq_true c10; clear c10
        by_cases c11 : an.length + (rd_L1 l0 aa).length < 17592186044416
        ·rw [if_pos c11] at H; have aQ := A_ c11; clear c11; obtain ⟨ba, ao⟩ := ex_ ((an ++ (rd_L1 l0 aa)) : List Int); replace H : (slices_Concat_int_int.l1 k2 ba l0 (l0.length : Int) (wrap64 (aa + 1))) = some r := by (rw [ao]; with_reducible exact H)
         have aT := A_ ao; clear ao
         have H' := A_ H
         clear H
         have aA : 0 ≤ (aa : Int) := oa_
         have aD : aa < (l0.length : Int) := oa_
         obtain ⟨bv, bj, bm, bq, af, am, ak⟩ := at_L1 HR0.o aa aA aD
         cases bq
         replace af := (HB.o.cell (World.block_lt_of_cell? w _ af)).trans af; have av := A_ ak; have bf := A_ am; clear ak am; replace aA := eq_true aA; replace aD := eq_true aD
         go_wp2_with (first | ((with_reducible refine gate_builtin (b := .append) (xs := #[.tmp 31, .tmp 32]) rfl ?_); at_builtin; refine Kd.R_append_rows (Kd.int .i64) (w0 := w) w.heap.size rfl (.tmp 31) (.tmp 32) 22 3 (.int .i64 0) 8 rfl Try.underlying22 info3 rfl (by decide) (by omega) u6 an (rd_L1 l0 aa) _ _ _ (fun _ => True) (fun _ => False) rfl rfl ?aO ?aR (fun _ _ h => h) (fun _ h => h.elim) ?aF ?aB ?aS ?aL ?_; (case aR => exact (Kd.C_below av.o HB.o)); (case aB => exact HB.o); (case aF => exact (fun _ _ => trivial)); (case aO => exact ay.o); (case aS => exact (below_size HB.o)); (case aL => have := aQ.o; omega); intro bH w12 ho hb hg hat; rw [← aT.o] at ho; replace HB := A_ (hb); have aJ := A_ (ho); clear ay; clear ho hb hg hat))
         go_roundg k2
         case measure => have := ax.o; have := bs.o; omega
         case rel => exact ⟨(ba), (wrap64 (aa + 1)), (by rfl), H', ⟨by have := ax.o; have := bs.o; omega⟩, ⟨aJ.o⟩, ⟨HB.o⟩⟩
        rw [if_neg c11] at H
        cases H
       rw [if_neg c10] at H
       cases H
      rw [if_neg c9] at H
      cases H
     rw [if_neg c8] at H; have bn := decide_eq_false c8; clear c8; obtain rfl := Option.some.inj H
     go_wp2
     go_ret
     exact ⟨_, by rfl, ay.o, HB.o⟩

def impl_square.l0 : Nat → Int → List (List Int) → Int → Int → Option ((List (List Int)))
 | 0, _, _, _, _ => none
 | k + 1, x0, x3, x5, x6 => if x6 < x5 then (if 0 ≤ x0 then (if (x0 : Int).toNat ≤ 35184372088832 then (if x3.length < 5864062014805 then (impl_square.l0 k x0 (x3 ++ [(List.replicate (x0 : Int).toNat 0)]) x5 (wrap64 (x6 + 1))) else (none)) else (none)) else (none)) else (some x3)
def impl_square.f (k : Nat) (a0 : Int) : Option ((List (List Int))) := impl_square.l0 k a0 (([] : List (List Int))) a0 0
theorem impl_square.mono_l : ∀ k, (∀ y0 y1 y2 y3, LeO (impl_square.l0 k y0 y1 y2 y3) (impl_square.l0 (k + 1) y0 y1 y2 y3))
 | 0 => fun _ _ _ _ r h => by simp [impl_square.l0] at h
 | k + 1 => by
  have ih0 := impl_square.mono_l k
  ·intro y0 y1 y2 y3; unfold impl_square.l0
   with_reducible repeat' first | exact ih0 _ _ _ _ | exact LeO.refl _ | exact LeO.none _ | refine LeO.ite ?_ ?_ | refine LeO.bind ?_ (fun _ => ?_)
theorem impl_square.mono : ∀ a0 k, LeO (impl_square.f k a0) (impl_square.f (k + 1) a0) := by
 intro a0 k; have ih0 := impl_square.mono_l k; unfold impl_square.f
 with_reducible repeat' first | exact ih0 _ _ _ _ | exact LeO.refl _ | exact LeO.none _ | refine LeO.ite ?_ ?_ | refine LeO.bind ?_ (fun _ => ?_)
theorem impl_square.calls (k : Nat) (a0 : Int) (r : List (List Int)) (w : World) (h : impl_square.f k a0 = some r) :
  Calls Try.prog 18 #[.int .i64 a0] w fun e w' => ∃ v0_ : Value, e = .returned (v0_) ∧ Kd.S (Kd.slice 3 (Kd.int .i64)) 22 w' w.heap.size (fun _ => True) v0_ r ∧ Below w.heap.size w w' := by
 have HB := A_ (Below.refl w.heap.size w); unfold impl_square.f at h; have H := h; clear h; obtain ⟨bb, ap⟩ := ex_ ((([] : List (List Int))) : List (List Int)); replace H : (impl_square.l0 k a0 bb a0 0) = some r := by (rw [ap]; with_reducible exact H)
 have aU := A_ ap; clear ap
 have H' := A_ H
 clear H; go_enter Try.func18, Try.ntmps18
 go_wp2_with (first | ((with_reducible refine gate_dst (N := 4) rfl ?_); refine Kd.S_lit (Kd.slice 3 (Kd.int .i64)) _ 22 ?hg (N := 4) ?hd (xs := ([] : List (List Int))) (inner := []) (ok := fun _ => True) (okp := fun _ => True) ?hr ?hp (fun _ hk => hk) trivial (Below.refl _ _) (Nat.le_refl _) (by simp) ?_; (case hd | hg => rfl); (case hr => go_simp; done); (case hp => exact (Reps.none _ _)); rintro bI w2 ho3 hb - -; (rw [← aU.o] at ho3); have aM := A_ (Kd.S_lower ho3 (below_size HB.o)); replace HB := bs_ HB hb; clear hb ho3))
 go_loopg [3, 6] k (fun kq v3 v6 w' => ∃ (ac : List (List Int)) (ah : Int), v6 = .int .i64 ah ∧ Aside0 (impl_square.l0 kq a0 ac a0 ah = some r) ∧ Aside0 (kq ≤ k) ∧ Aside0 (Kd.S (Kd.slice 3 (Kd.int .i64)) 22 w' w.heap.size (fun _ => True) v3 ac) ∧ Aside0 (Below w.heap.size w w'))
 case atStart => exact ⟨(bb), (0), (by rfl), H', ⟨Nat.le_refl _⟩, ⟨aM.o⟩, ⟨HB.o⟩⟩
 case round =>
  clear H'; obtain ⟨ac, ah, rfl, HA, ax, ag, HB⟩ := hrel
  cases gk with
  | zero => exact nz_ HA.o
  | succ k1 =>
   have H := HA.o; clear HA; simp only [impl_square.l0] at H
   by_cases c4 : ah < a0
   ·rw [if_pos c4] at H; have aY := decide_eq_true c4; clear c4
    by_cases c5 : 0 ≤ a0
    ·rw [if_pos c5] at H; have a8 := eq_true c5; have bB := decide_eq_true c5; clear c5
     by_cases c6 : (a0 : Int).toNat ≤ 35184372088832
     ·rw [if_pos c6] at H; have bC := eq_true c6; have bD := decide_eq_true c6; clear c6; obtain ⟨au, aq⟩ := ex_ ((List.replicate (a0 : Int).toNat 0) : List Int); replace H : (if ac.length < 5864062014805 then (impl_square.l0 k1 a0 (ac ++ [au]) a0 (wrap64 (ah + 1))) else (none)) = some r := by (rw [aq]; with_reducible exact H)
      have aV := A_ aq; clear aq
      by_cases c7 : ac.length < 5864062014805
      ·rw [if_pos c7] at H; have bk := A_ c7; clear c7; obtain ⟨bc, ar⟩ := ex_ ((ac ++ [au]) : List (List Int)); replace H : (impl_square.l0 k1 a0 bc a0 (wrap64 (ah + 1))) = some r := by (rw [ar]; with_reducible exact H)
       have aW := A_ ar; clear ar
       have H' := A_ H
       clear H
       go_wp2_with (first | ((with_reducible refine gate_dst (N := 10) rfl ?_); refine Kd.R_make (Kd.int .i64) _ 3 rfl (N := 10) rfl 22 _ _ rfl a0 rfl rfl Try.underlying22 (.int .i64 0) 8 info3 rfl (by decide) (by omega) 0 (ok := fun _ => True) (okp := fun _ => True) rfl (fun _ hk => hk) trivial oa_ (Nat.le_trans (Nat.mul_le_mul_right _ (oa_ : a0.toNat ≤ 35184372088832)) (by omega)) (Below.refl _ _) (Nat.le_refl _) ?_; rintro bJ w8 ho9 hb - -; (rw [← aV.o] at ho9); replace ag := A_ (Kd.S_elder' ag.o (Kd.R_base ho9) hb); have ai := A_ (Kd.R_lower ho9 (below_size HB.o)); replace HB := bs_ HB hb; clear hb ho9; obtain ⟨aH, a9, br⟩ := Kd.R_slice ai.o; subst br) | ((with_reducible refine gate_builtin (b := .append) (xs := #[.tmp 8, .tmp 11]) rfl ?_); at_builtin; refine Kd.S_append (Kd.slice 3 (Kd.int .i64)) (w0 := w) w.heap.size rfl (.tmp 8) (.tmp 11) 37 22 (.slice none 0 0) 24 rfl Try.underlying37 info22 rfl (by decide) (by omega) u3 ac au [.slice aH au.length a9] (fun _ => True) (fun k_ => some k_ = (.slice aH au.length a9 : Value).ownBlock) rfl rfl ?aP (fun k_ hk_ => ((Kd.R_mono (ok' := fun k_ => ((fun _ => True)) k_ ∧ some k_ ≠ (u3 : Value).ownBlock) (Kd.R_apart' (ai.o) (Kd.S_typed ag.o) (by decide)) (fun k_ hk => ⟨trivial, hk.2⟩))).1 k_ hk_.symm) ?aF ?aO ?aB ?aS ?aL ?_; (case aP => exact Kd.M_row (Kd.R_mono (Kd.R_tight rfl (Kd.R_mono (ok' := fun k_ => ((fun _ => True)) k_ ∧ some k_ ≠ (u3 : Value).ownBlock) (Kd.R_apart' (ai.o) (Kd.S_typed ag.o) (by decide)) (fun k_ hk => ⟨trivial, hk.2⟩))) (fun _ h_ => h_))); (case aB => exact HB.o); (case aF => exact (fun _ _ => trivial)); (case aO => exact (by exact Kd.S_mono ag.o (fun k_ hk => ⟨trivial, fun e_ => hk.2 e_⟩))); (case aS => exact (below_size HB.o)); (case aL => have := bk.o; omega); intro bK w10 ho hb hg hat; rw [← aW.o] at ho; replace HB := A_ (hb); have aN := A_ (ho); clear ag ai; clear ho hb hg hat))
       go_roundg k1
       case measure => have := ax.o; omega
       case rel => exact ⟨(bc), (wrap64 (ah + 1)), (by rfl), H', ⟨by have := ax.o; omega⟩, ⟨aN.o⟩, ⟨HB.o⟩⟩
      rw [if_neg c7] at H
      cases H
     rw [if_neg c6] at H
     cases H
    rw [if_neg c5] at H
    cases H
   rw [if_neg c4] at H; have aY := decide_eq_false c4; clear c4; obtain rfl := Option.some.inj H
   go_wp2
   go_ret
   exact ⟨_, by rfl, ag.o, HB.o⟩

end Go.Proofs.Ytlcepacbbfekoaa.PFnExactSumForms
