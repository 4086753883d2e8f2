/- Walks of the functions that the law reaches. -/
import Derived.Test.YtnhpbmagbajliaaPFnBordersx10
namespace Go.Proofs.Ytnhpbmagbajliaa.PFnBorders
open Go.RowKit Go.Proofs.YtnhpbmagbajliaaW.PrintWords Go.Proofs.YtnhpbmagbajliaaW.PrintLast Go.Proofs.YtnhpbmagbajliaaW.PrintMore
attribute [local go_sem] max2_int min2_int max_two min_two max_three min_three max_four min_four
set_option linter.unusedVariables false
set_option maxHeartbeats 8000000
set_option maxRecDepth 100000
set_option linter.unusedSimpArgs false

def spec_ReverseDigits.l0 : Nat → List Int → List Int → Int → Option (List Int)
 | 0, _, _, _ => none
 | k + 1, x0, x3, x4 => if x4 ≥ 0 then (if 0 ≤ x4 then (if x4 < (x0.length : Int) then (if x3.length < 17592186044416 then (spec_ReverseDigits.l0 k x0 (x3 ++ [rd x0 x4]) (wrap64 (x4 - 1))) else (none)) else (none)) else (none)) else (some x3)
def spec_ReverseDigits.f (k : Nat) (l0 : List Int) : Option (List Int) := spec_ReverseDigits.l0 k l0 (([] : List Int)) (wrap64 ((l0.length : Int) - 1))
theorem spec_ReverseDigits.calls (k : Nat) (A0 : Option Addr) (c0 : Nat) (l0 : List Int) (r : List Int) (w : World) (hr0 : Kd.C (Kd.int .i64) w A0 l0.length l0) (hc0 : l0.length ≤ c0) (h : spec_ReverseDigits.f k l0 = some r) :
  Calls Try.prog 39 #[.slice A0 l0.length c0] w fun e w' => ∃ v0_ : Value, e = .returned (v0_) ∧ Kd.R (Kd.int .i64) 3 w' w.heap.size (fun _ => True) v0_ r ∧ Below w.heap.size w w' := by
 have HR0 := A_ hr0; have HC0 := A_ hc0; clear hr0 hc0; have HB := A_ (Below.refl w.heap.size w); unfold spec_ReverseDigits.f at h; have H := h; clear h; obtain ⟨y724, hy724⟩ := ex_ ((([] : List Int)) : List Int); replace H : (spec_ReverseDigits.l0 k l0 y724 (wrap64 ((l0.length : Int) - 1))) = some r := by (rw [hy724]; with_reducible exact H)
 have Ny724 := A_ hy724; clear hy724
 have H' := A_ H
 clear H; go_enter Try.func39, Try.ntmps39
 go_wp2_with (first | ((with_reducible refine gd_ 5 rfl ?_); refine RL_ 5 3 [] [] rfl rfl (by go_simp; done) rfl rfl ?_; rintro v725 w2 ho3 hb - -; (rw [← Ny724.out] at ho3); have HO726 := A_ (Kd.R_lower ho3 (below_size HB.out)); replace HB := bs_ HB hb; clear hb ho3))
 go_loopg [3, 4] k (fun kq v3 v4 w' => ∃ (x3_1 : List Int) (x4_1 : Int), v4 = .int .i64 x4_1 ∧ Aside0 (spec_ReverseDigits.l0 kq l0 x3_1 x4_1 = some r) ∧ Aside0 (kq ≤ k) ∧ Aside0 (Kd.R (Kd.int .i64) 3 w' w.heap.size (fun _ => True) v3 x3_1) ∧ Aside0 (Below w.heap.size w w'))
 case atStart => exact ⟨(y724), (wrap64 ((l0.length : Int) - 1)), (by rfl), H', ⟨Nat.le_refl _⟩, ⟨HO726.out⟩, ⟨HB.out⟩⟩
 case round =>
  clear H'; obtain ⟨x3_1, x4_1, rfl, HA, HK1, HO_3, HB⟩ := hrel
  cases gk with
  | zero => exact absurd HA.out (by simp [spec_ReverseDigits.l0])
  | succ k1 =>
   have H := HA.out; clear HA; simp only [spec_ReverseDigits.l0] at H
   by_cases c4 : x4_1 ≥ 0
   ·rw [if_pos c4] at H
    have c4b0 : decide (0 ≤ x4_1) = true := decide_eq_true c4
    clear c4
    by_cases c5 : 0 ≤ x4_1
    ·rw [if_pos c5] at H; have c5b0 := decide_eq_true c5; clear c5
     by_cases c6 : x4_1 < (l0.length : Int)
     ·rw [if_pos c6] at H; have c6b0 := decide_eq_true c6; clear c6
      by_cases c7 : x3_1.length < 17592186044416
      ·rw [if_pos c7] at H; have LMc7 := A_ c7; clear c7; obtain ⟨y728, hy728⟩ := ex_ ((x3_1 ++ [rd l0 x4_1]) : List Int); replace H : (spec_ReverseDigits.l0 k1 l0 y728 (wrap64 (x4_1 - 1))) = some r := by (rw [hy728]; with_reducible exact H)
       have Ny728 := A_ hy728; clear hy728
       have H' := A_ H
       clear H
       have p727 : 0 ≤ (x4_1 : Int) := od_ (by assumption)
       have q727 : x4_1 < (l0.length : Int) := od_ (by assumption)
       obtain ⟨ad727, e727, hx727_0⟩ := Kd.at_int HR0.out x4_1 p727 q727
       cases e727
       replace hx727_0 := (HB.out.cell (World.block_lt_of_cell? w _ hx727_0)).trans hx727_0; replace p727 := eq_true p727; replace q727 := eq_true q727
       go_wp2_with (first | ((with_reducible refine gate_builtin (b := .append) (xs := #[.tmp 13, .tmp 18]) rfl ?_); at_builtin; refine Kd.R_append (Kd.int .i64) (w0 := w) w.heap.size rfl (.tmp 13) (.tmp 18) 24 3 (.int .i64 0) 8 rfl Try.underlying24 info3 rfl (by decide) (by omega) u3 x3_1 (rd l0 x4_1) [.int .i64 (rd l0 x4_1)] (fun _ => True) (fun _ => False) rfl rfl ?aP (fun _ hk => hk.elim) ?aF ?aO ?aB ?aS ?aL ?_; (case aP => exact rfl); (case aB => exact HB.out); (case aF => exact (fun _ _ => trivial)); (case aO => exact HO_3.out); (case aS => exact (below_size HB.out)); (case aL => have := LMc7.out; omega); intro v729 w8 ho hb hg hat; rw [← Ny728.out] at ho; replace HB := A_ (hb); have HO730 := A_ (ho); clear HO_3; clear ho hb hg hat))
       go_roundg k1
       case measure => have := HK1.out; omega
       case rel => exact ⟨(y728), (wrap64 (x4_1 - 1)), (by rfl), H', ⟨by have := HK1.out; omega⟩, ⟨HO730.out⟩, ⟨HB.out⟩⟩
      rw [if_neg c7] at H
      cases H
     rw [if_neg c6] at H
     cases H
    rw [if_neg c5] at H
    cases H
   rw [if_neg c4] at H
   have c4b0 : decide (0 ≤ x4_1) = false := decide_eq_false c4
   clear c4; obtain rfl := Option.some.inj H
   go_wp2
   go_ret
   exact ⟨_, by rfl, HO_3.out, HB.out⟩

def spec_DrawIsPalindrome.f (k : Nat) (l0 : List Int) : Option (List Int) := (spec_l1New.f k l0).bind fun bt731 => ((spec_l7Word.f k bt731.1 bt731.2.1 bt731.2.2 2).bind fun bt735 => ((spec_l1Once.f bt731.1 bt735.2.1 bt735.2.2 2).bind fun bt740 => (if bt740.1 = true then ((some (([] : List Int) : List Int)).bind fun y743 => (if y743.length + bt735.1.length < 17592186044416 then ((some (y743 ++ bt735.1 : List Int)).bind fun y746 => ((spec_ReverseDigits.f k bt735.1).bind fun t749 => (if y746.length + t749.length < 17592186044416 then (some (y746 ++ t749)) else (none)))) else (none))) else (some bt735.1))))
theorem spec_DrawIsPalindrome.calls (k : Nat) (A0 : Option Addr) (c0 : Nat) (l0 : List Int) (r : List Int) (w : World) (hr0 : Kd.C (Kd.int .u8) w A0 l0.length l0) (hc0 : l0.length ≤ c0) (h : spec_DrawIsPalindrome.f k l0 = some r) :
  Calls Try.prog 19 #[.slice A0 l0.length c0] w fun e w' => ∃ v0_ : Value, e = .returned (v0_) ∧ Kd.R (Kd.int .i64) 3 w' w.heap.size (fun _ => True) v0_ r ∧ Below w.heap.size w w' := by
 have HR0 := A_ hr0; have HC0 := A_ hc0; clear hr0 hc0; have HB := A_ (Below.refl w.heap.size w); unfold spec_DrawIsPalindrome.f at h; have H := h; clear h; replace H := bA_ H; obtain ⟨⟨t731, t732, t733⟩, A2, H⟩ := H; dsimp only at H; replace H := bA_ H; obtain ⟨⟨t735, t738, t739⟩, A3, H⟩ := H; dsimp only at H; replace H := bA_ H; obtain ⟨⟨t740, t741, t742⟩, A4, H⟩ := H; dsimp only at H
 by_cases c5 : t740 = true
 ·subst c5; rw [if_pos rfl] at H; obtain ⟨y743, hy743⟩ := ex_ ((([] : List Int)) : List Int); replace H : (if y743.length + t735.length < 17592186044416 then ((some (y743 ++ t735 : List Int)).bind fun y746 => ((spec_ReverseDigits.f k t735).bind fun t749 => (if y746.length + t749.length < 17592186044416 then (some (y746 ++ t749)) else (none)))) else (none)) = some r := by (have H2_ := (Option.bind_some _ _).symm.trans H; rw [hy743]; with_reducible exact H2_)
  have Ny743 := A_ hy743; clear hy743
  by_cases c6 : y743.length + t735.length < 17592186044416
  ·rw [if_pos c6] at H; have LMc6 := A_ c6; clear c6; obtain ⟨y746, hy746⟩ := ex_ ((y743 ++ t735) : List Int); replace H : ((spec_ReverseDigits.f k t735).bind fun t749 => (if y746.length + t749.length < 17592186044416 then (some (y746 ++ t749)) else (none))) = some r := by (have H2_ := (Option.bind_some _ _).symm.trans H; rw [hy746]; with_reducible exact H2_)
   have Ny746 := A_ hy746; clear hy746; replace H := bA_ H; obtain ⟨t749, A7, H⟩ := H
   by_cases c8 : y746.length + t749.length < 17592186044416
   ·rw [if_pos c8] at H; have LMc8 := A_ c8; clear c8; obtain ⟨y752, hy752⟩ := ex_ ((y746 ++ t749) : List Int); replace H : (some y752) = some r := by (rw [hy752]; with_reducible exact H)
    have Ny752 := A_ hy752; clear hy752; obtain rfl := Option.some.inj H; go_enter Try.func19, Try.ntmps19
    go_wp2_with (first | ((with_reducible refine gc_ 33 rfl ?_); refine cL_ E33 6 rfl rfl rfl (spec_l1New.calls k _ _ l0 t731 t732 t733 w _ HB.out HR0.out HC0.out A2.out) (by simp only [mA, mB, mC]; rfl) ?_; rintro e w9 ⟨g734, rfl, hi, hb, hb2⟩; refine ⟨_, rfl, ?_⟩; replace HB := A_ (hb); have HI734 := A_ (hi); clear hb hb2; (try clear hi)) | ((with_reducible refine gc_ 37 rfl ?_); refine cL_ E37 8 rfl rfl rfl (spec_l7Word.calls k g734 t731 t732 t733 2 t735 t738 t739 w _ HI734.out HB.out A3.out) (by simp only [mA, mB, mC]; rfl) ?_; rintro e w10 ⟨v736, rfl, ho0, hi, hb, hk⟩; refine ⟨_, rfl, ?_⟩; have HO737 := A_ (Kd.R_lower ho0 (below_size HB.out)); replace HB := A_ (hb); replace HI734 := A_ (hi); clear hb hk hi; (try clear ho0)) | ((with_reducible refine gc_ 38 rfl ?_); refine cL_ E38 10 rfl rfl rfl (spec_l1Once.calls g734 t731 t738 t739 2 true t741 t742 w _ HI734.out HB.out A4.out) (by simp only [mA, mB, mC]; rfl) ?_; rintro e w11 ⟨rfl, hi, hb, hk⟩; refine ⟨_, rfl, ?_⟩; replace HO737 := A_ (Kd.R_mono (Kd.R_keep (IsS50.apart HI734.out HO737.out (by decide)) hk (fun _ h => h.2)) (fun _ h => h.1)); replace HB := A_ (hb); replace HI734 := A_ (hi); clear hb hk; (try clear hi)) | ((with_reducible refine gd_ 11 rfl ?_); refine RL_ 11 3 [] [] rfl rfl (by go_simp; done) rfl rfl ?_; rintro v744 w12 ho13 hb - -; (rw [← Ny743.out] at ho13); have HO745 := A_ (Kd.R_lower (Kd.R_new' ho13 (Kd.R_lt HO737.out)) (below_size HB.out)); replace HO737 := A_ (Kd.R_elder' HO737.out (Kd.R_base ho13) hb); replace HI734 := A_ (IsS50.below HI734.out hb); replace HB := bs_ HB hb; clear hb ho13; obtain ⟨Ao15, co15, eo15⟩ := Kd.R_slice HO737.out; subst eo15) | ((with_reducible refine gate_builtin (b := .append) (xs := #[.tmp 11, .tmp 12]) rfl ?_); at_builtin; refine Kd.R_append_rows (Kd.int .i64) (w0 := w) w.heap.size rfl (.tmp 11) (.tmp 12) 24 3 (.int .i64 0) 8 rfl Try.underlying24 info3 rfl (by decide) (by omega) v744 y743 t735 _ _ _ (fun k_ => some k_ ≠ (.slice Ao15 t735.length co15 : Value).ownBlock) (fun _ => False) rfl rfl ?aO ?aR (fun _ _ h => h) (fun _ h => h.elim) ?aF ?aB ?aS ?aL ?_; (case aR => exact (Kd.R_reads' HO737.out).2.2); (case aB => exact HB.out); (case aF => exact (fun k_ hk => Kd.fresh' (Kd.R_lt HO737.out) k_ hk)); (case aO => exact (by exact Kd.R_mono HO745.out (fun _ hk => hk.2))); (case aS => exact (below_size HB.out)); (case aL => have := LMc6.out; omega); intro v747 w14 ho hb hg hat; rw [← Ny746.out] at ho; replace HI734 := A_ (IsS50.grown HI734.out hg (IsS50.own_ne HI734.out HO745.out (by decide))); replace HO737 := A_ (Kd.R_after (ok := (fun _ => True)) HO737.out hg hat); replace HB := A_ (hb); have HO748 := A_ (ho); clear HO745; clear ho hb hg hat) | ((with_reducible refine gc_ 39 rfl ?_); refine cL_ E39 15 rfl rfl rfl (spec_ReverseDigits.calls k _ _ t735 t749 _ ((Kd.R_reads' HO737.out).2.2) ((Kd.R_reads' HO737.out).2.1) A7.out) (by simp only [mA, mB, mC]; rfl) ?_; rintro e w16 ⟨v750, rfl, ho0, hb⟩; refine ⟨_, rfl, ?_⟩; have HO751 := A_ (Kd.R_lower (Kd.R_new' (Kd.R_new' ho0 (Kd.R_lt HO737.out)) (Kd.R_lt HO748.out)) (below_size HB.out)); replace HO737 := A_ (Kd.R_elder' HO737.out (Kd.R_base ho0) hb); replace HO748 := A_ (Kd.R_elder' HO748.out (Kd.R_base ho0) hb); replace HI734 := A_ (IsS50.below HI734.out hb); replace HB := bs_ HB hb; clear hb ho0; obtain ⟨Ao18, co18, eo18⟩ := Kd.R_slice HO751.out; subst eo18) | ((with_reducible refine gate_builtin (b := .append) (xs := #[.tmp 13, .tmp 15]) rfl ?_); at_builtin; refine Kd.R_append_rows (Kd.int .i64) (w0 := w) w.heap.size rfl (.tmp 13) (.tmp 15) 24 3 (.int .i64 0) 8 rfl Try.underlying24 info3 rfl (by decide) (by omega) v747 y746 t749 _ _ _ (fun k_ => some k_ ≠ (.slice Ao15 t735.length co15 : Value).ownBlock ∧ some k_ ≠ (.slice Ao18 t749.length co18 : Value).ownBlock) (fun _ => False) rfl rfl ?aO ?aR (fun _ _ h => h) (fun _ h => h.elim) ?aF ?aB ?aS ?aL ?_; (case aR => exact (Kd.R_reads' HO751.out).2.2); (case aB => exact HB.out); (case aF => exact (fun k_ hk => ⟨Kd.fresh' (Kd.R_lt HO737.out) k_ hk, Kd.fresh' (Kd.R_lt HO751.out) k_ hk⟩)); (case aO => exact HO748.out); (case aS => exact (below_size HB.out)); (case aL => have := LMc8.out; omega); intro v753 w17 ho hb hg hat; rw [← Ny752.out] at ho; replace HI734 := A_ (IsS50.grown HI734.out hg (IsS50.own_ne HI734.out HO748.out (by decide))); replace HO737 := A_ (Kd.R_after (ok := (fun k_ => some k_ ≠ (.slice Ao18 t749.length co18 : Value).ownBlock)) (by exact Kd.R_mono HO737.out (fun _ hk => ⟨hk.2, hk.1.2⟩)) hg hat); replace HO751 := A_ (Kd.R_after (ok := (fun k_ => some k_ ≠ (.slice Ao15 t735.length co15 : Value).ownBlock)) (by exact Kd.R_mono HO751.out (fun _ hk => ⟨hk.1.2, hk.2⟩)) hg hat); replace HB := A_ (hb); have HO754 := A_ (ho); clear HO748; clear ho hb hg hat))
    go_ret
    exact ⟨_, by rfl, by exact Kd.R_mono HO754.out (fun _ hk => trivial), HB.out⟩
   rw [if_neg c8] at H
   cases H
  rw [if_neg c6] at H
  cases H
 replace c5 := Bool.eq_false_iff.mpr c5; subst c5; rw [if_neg nf_] at H; obtain rfl := Option.some.inj H; go_enter Try.func19, Try.ntmps19
 go_wp2_with (first | ((with_reducible refine gc_ 33 rfl ?_); refine cL_ E33 6 rfl rfl rfl (spec_l1New.calls k _ _ l0 t731 t732 t733 w _ HB.out HR0.out HC0.out A2.out) (by simp only [mA, mB, mC]; rfl) ?_; rintro e w19 ⟨g734, rfl, hi, hb, hb2⟩; refine ⟨_, rfl, ?_⟩; replace HB := A_ (hb); have HI734 := A_ (hi); clear hb hb2; (try clear hi)) | ((with_reducible refine gc_ 37 rfl ?_); refine cL_ E37 8 rfl rfl rfl (spec_l7Word.calls k g734 t731 t732 t733 2 t735 t738 t739 w _ HI734.out HB.out A3.out) (by simp only [mA, mB, mC]; rfl) ?_; rintro e w20 ⟨v736, rfl, ho0, hi, hb, hk⟩; refine ⟨_, rfl, ?_⟩; have HO737 := A_ (Kd.R_lower ho0 (below_size HB.out)); replace HB := A_ (hb); replace HI734 := A_ (hi); clear hb hk hi; (try clear ho0)) | ((with_reducible refine gc_ 38 rfl ?_); refine cL_ E38 10 rfl rfl rfl (spec_l1Once.calls g734 t731 t738 t739 2 false t741 t742 w _ HI734.out HB.out A4.out) (by simp only [mA, mB, mC]; rfl) ?_; rintro e w21 ⟨rfl, hi, hb, hk⟩; refine ⟨_, rfl, ?_⟩; replace HO737 := A_ (Kd.R_mono (Kd.R_keep (IsS50.apart HI734.out HO737.out (by decide)) hk (fun _ h => h.2)) (fun _ h => h.1)); replace HB := A_ (hb); replace HI734 := A_ (hi); clear hb hk; (try clear hi)))
 go_ret
 exact ⟨_, by rfl, HO737.out, HB.out⟩

def spec_DrawPalindromesOf.f (k : Nat) (l0 : List Int) : Option (List Int) := (spec_l1New.f k l0).bind fun bt755 => ((spec_l8Any.f k bt755.1 bt755.2.1 bt755.2.2).bind fun bt759 => (some bt759.1))
theorem spec_DrawPalindromesOf.calls (k : Nat) (A0 : Option Addr) (c0 : Nat) (l0 : List Int) (r : List Int) (w : World) (hr0 : Kd.C (Kd.int .u8) w A0 l0.length l0) (hc0 : l0.length ≤ c0) (h : spec_DrawPalindromesOf.f k l0 = some r) :
  Calls Try.prog 20 #[.slice A0 l0.length c0] w fun e w' => ∃ v0_ : Value, e = .returned (v0_) ∧ Kd.R (Kd.int .i64) 3 w' w.heap.size (fun _ => True) v0_ r ∧ Below w.heap.size w w' := by
 have HR0 := A_ hr0; have HC0 := A_ hc0; clear hr0 hc0; have HB := A_ (Below.refl w.heap.size w); unfold spec_DrawPalindromesOf.f at h; have H := h; clear h; replace H := bA_ H; obtain ⟨⟨t755, t756, t757⟩, A2, H⟩ := H; dsimp only at H; replace H := bA_ H; obtain ⟨⟨t759, t762, t763⟩, A3, H⟩ := H; dsimp only at H; obtain rfl := Option.some.inj H; go_enter Try.func20, Try.ntmps20
 go_wp2_with (first | ((with_reducible refine gc_ 33 rfl ?_); refine cL_ E33 4 rfl rfl rfl (spec_l1New.calls k _ _ l0 t755 t756 t757 w _ HB.out HR0.out HC0.out A2.out) (by simp only [mA, mB, mC]; rfl) ?_; rintro e w4 ⟨g758, rfl, hi, hb, hb2⟩; refine ⟨_, rfl, ?_⟩; replace HB := A_ (hb); have HI758 := A_ (hi); clear hb hb2; (try clear hi)) | ((with_reducible refine gc_ 32 rfl ?_); refine cL_ E32 5 rfl rfl rfl (spec_l8Any.calls k g758 t755 t756 t757 t759 t762 t763 w _ HI758.out HB.out A3.out) (by simp only [mA, mB, mC]; rfl) ?_; rintro e w5 ⟨v760, rfl, ho0, hi, hb, hk⟩; refine ⟨_, rfl, ?_⟩; have HO761 := A_ (Kd.R_lower ho0 (below_size HB.out)); replace HB := A_ (hb); replace HI758 := A_ (hi); clear hb hk hi; (try clear ho0)))
 go_ret
 exact ⟨_, by rfl, HO761.out, HB.out⟩

def impl_IsPalindrome.l0 : Nat → List Int → Int → Int → Option (Bool)
 | 0, _, _, _ => none
 | k + 1, x0, x6, x7 => if x7 < x6 then (if 0 ≤ x7 then (if x7 < (x0.length : Int) then (if 0 ≤ (wrap64 ((wrap64 ((x0.length : Int) - 1)) - x7)) then (if (wrap64 ((wrap64 ((x0.length : Int) - 1)) - x7)) < (x0.length : Int) then (if (rd x0 x7) = (rd x0 (wrap64 ((wrap64 ((x0.length : Int) - 1)) - x7))) then (impl_IsPalindrome.l0 k x0 x6 (wrap64 (x7 + 1))) else (some false)) else (none)) else (none)) else (none)) else (none)) else (some true)
def impl_IsPalindrome.f (k : Nat) (l0 : List Int) : Option (Bool) := impl_IsPalindrome.l0 k l0 (wrap64 ((l0.length : Int) / 2)) 0
theorem impl_IsPalindrome.calls (k : Nat) (A0 : Option Addr) (c0 : Nat) (l0 : List Int) (r : Bool) (w : World) (hr0 : Kd.C (Kd.int .i64) w A0 l0.length l0) (hc0 : l0.length ≤ c0) (h : impl_IsPalindrome.f k l0 = some r) :
  Calls Try.prog 29 #[.slice A0 l0.length c0] w fun e w' => e = .returned (.bool r) ∧ Drawn0 w w' := by
 have HR0 := A_ hr0; have HC0 := A_ hc0; clear hr0 hc0; unfold impl_IsPalindrome.f at h; have H := h; clear h
 have H' := A_ H
 clear H; go_enter Try.func29, Try.ntmps29
 go_wp2
 repeat (go_quiet (fail); try go_wp2)
 go_loopg [7] k (fun kq v7 w' => ∃ (x7_1 : Int), v7 = .int .i64 x7_1 ∧ Aside0 (impl_IsPalindrome.l0 kq l0 (wrap64 ((l0.length : Int) / 2)) x7_1 = some r) ∧ Aside0 (kq ≤ k) ∧ Drawn0 w w')
 case atStart => exact ⟨(0), (by rfl), H', ⟨Nat.le_refl _⟩, by repeat (first | exact Drawn0.refl _ | apply Drawn0.step)⟩
 case round =>
  clear H'; obtain ⟨x7_1, rfl, HA, HK1, ⟨m1, rfl⟩⟩ := hrel
  cases gk with
  | zero => exact absurd HA.out (by simp [impl_IsPalindrome.l0])
  | succ k1 =>
   have H := HA.out; clear HA; simp only [impl_IsPalindrome.l0] at H
   by_cases c2 : x7_1 < (wrap64 ((l0.length : Int) / 2))
   ·rw [if_pos c2] at H; have c2b0 := decide_eq_true c2; clear c2
    by_cases c3 : 0 ≤ x7_1
    ·rw [if_pos c3] at H; have c3b0 := decide_eq_true c3; clear c3
     by_cases c4 : x7_1 < (l0.length : Int)
     ·rw [if_pos c4] at H; have c4b0 := decide_eq_true c4; clear c4; obtain ⟨ji5, hji5⟩ : ∃ j_ : Int, (wrap64 ((wrap64 ((l0.length : Int) - 1)) - x7_1)) = j_ := ⟨_, rfl⟩; replace H : (if 0 ≤ (ji5) then (if (ji5) < (l0.length : Int) then (if (rd l0 x7_1) = (rd l0 (ji5)) then (impl_IsPalindrome.l0 k1 l0 (wrap64 ((l0.length : Int) / 2)) (wrap64 (x7_1 + 1))) else (some false)) else (none)) else (none)) = some r := by first | (rw [hji5] at H; exact H) | (simp only [hji5] at H ⊢; exact H)
      have hji5w : (IntKind.i64.wrap ((wrap64 ((l0.length : Int) - 1)) - x7_1)) = ji5 := (i64_w _).trans hji5
      by_cases c6 : 0 ≤ (ji5)
      ·rw [if_pos c6] at H; have c6b0 := decide_eq_true c6; clear c6
       by_cases c7 : (ji5) < (l0.length : Int)
       ·rw [if_pos c7] at H; have c7b0 := decide_eq_true c7; clear c7
        by_cases c8 : (rd l0 x7_1) = (rd l0 (ji5))
        ·rw [if_pos c8] at H
         have c8b0 : ((rd l0 x7_1) == (rd l0 (ji5))) = true := beq_iff_eq.mpr c8
         have c8b1 : ((rd l0 x7_1) != (rd l0 (ji5))) = false := bne_eq_false_iff_eq.mpr c8
         clear c8
         have H' := A_ H
         clear H
         have p764 : 0 ≤ (x7_1 : Int) := od_ (by assumption)
         have q764 : x7_1 < (l0.length : Int) := od_ (by assumption)
         obtain ⟨ad764, e764, hx764_0⟩ := Kd.at_int HR0.out x7_1 p764 q764
         cases e764
         replace p764 := eq_true p764; replace q764 := eq_true q764
         have p765 : 0 ≤ ((ji5) : Int) := od_ (by assumption)
         have q765 : (ji5) < (l0.length : Int) := od_ (by assumption)
         obtain ⟨ad765, e765, hx765_0⟩ := Kd.at_int HR0.out (ji5) p765 q765; obtain rfl : ad764 = ad765 := (by injection e765); replace p765 := eq_true p765; replace q765 := eq_true q765
         go_wp2
         repeat (go_quiet (fail); try go_wp2)
         (try subst hji5)
         go_roundg k1
         case measure => have := HK1.out; omega
         case rel => exact ⟨(wrap64 (x7_1 + 1)), (by rfl), H', ⟨by have := HK1.out; omega⟩, by repeat (first | exact Drawn0.refl _ | apply Drawn0.step)⟩
        rw [if_neg c8] at H
        have c8b0 : ((rd l0 x7_1) == (rd l0 (ji5))) = false := beq_eq_false_iff_ne.mpr c8
        have c8b1 : ((rd l0 x7_1) != (rd l0 (ji5))) = true := bne_iff_ne.mpr c8
        obtain rfl := Option.some.inj H
        have p764 : 0 ≤ (x7_1 : Int) := od_ (by assumption)
        have q764 : x7_1 < (l0.length : Int) := od_ (by assumption)
        obtain ⟨ad764, e764, hx764_0⟩ := Kd.at_int HR0.out x7_1 p764 q764
        cases e764
        replace p764 := eq_true p764; replace q764 := eq_true q764
        have p765 : 0 ≤ ((ji5) : Int) := od_ (by assumption)
        have q765 : (ji5) < (l0.length : Int) := od_ (by assumption)
        obtain ⟨ad765, e765, hx765_0⟩ := Kd.at_int HR0.out (ji5) p765 q765; obtain rfl : ad764 = ad765 := (by injection e765); replace p765 := eq_true p765; replace q765 := eq_true q765
        go_wp2
        repeat (go_quiet (fail); try go_wp2)
        go_ret
        exact ⟨by first | rfl | (simp; done) | (simp only [← hji5] <;> (first | rfl | simp)) | (simp [*]; done), by repeat (first | exact Drawn0.refl _ | apply Drawn0.step)⟩
       rw [if_neg c7] at H
       cases H
      rw [if_neg c6] at H
      cases H
     rw [if_neg c4] at H
     cases H
    rw [if_neg c3] at H
    cases H
   rw [if_neg c2] at H; have c2b0 := decide_eq_false c2; clear c2; obtain rfl := Option.some.inj H
   go_wp2
   repeat (go_quiet (fail); try go_wp2)
   go_ret
   exact ⟨by rfl, by repeat (first | exact Drawn0.refl _ | apply Drawn0.step)⟩

def impl_areLetters.l0 : Nat → Int → List Int → Int → Int → Option (Bool)
 | 0, _, _, _, _ => none
 | k + 1, x1, x7, x8, x9 => if x9 < x8 then (if 0 ≤ x9 then (if x9 < (x7.length : Int) then (if (rd x7 x9) < 0 then (some false) else (if (rd x7 x9) ≥ x1 then (some false) else (impl_areLetters.l0 k x1 x7 x8 (wrap64 (x9 + 1))))) else (none)) else (none)) else (some true)
def impl_areLetters.f (k : Nat) (l0 : List Int) (a1 : Int) : Option (Bool) := impl_areLetters.l0 k a1 l0 (l0.length : Int) 0
theorem impl_areLetters.calls (k : Nat) (A0 : Option Addr) (c0 : Nat) (l0 : List Int) (a1 : Int) (r : Bool) (w : World) (hr0 : Kd.C (Kd.int .i64) w A0 l0.length l0) (hc0 : l0.length ≤ c0) (h : impl_areLetters.f k l0 a1 = some r) :
  Calls Try.prog 67 #[.slice A0 l0.length c0, .int .i64 a1] w fun e w' => e = .returned (.bool r) ∧ Drawn0 w w' := by
 have HR0 := A_ hr0; have HC0 := A_ hc0; clear hr0 hc0; unfold impl_areLetters.f at h; have H := h; clear h
 have H' := A_ H
 clear H; go_enter Try.func67, Try.ntmps67
 go_wp2
 go_loopg [9] k (fun kq v9 w' => ∃ (x9_1 : Int), v9 = .int .i64 x9_1 ∧ Aside0 (impl_areLetters.l0 kq a1 l0 (l0.length : Int) x9_1 = some r) ∧ Aside0 (kq ≤ k) ∧ Drawn0 w w')
 case atStart => exact ⟨(0), (by rfl), H', ⟨Nat.le_refl _⟩, by repeat (first | exact Drawn0.refl _ | apply Drawn0.step)⟩
 case round =>
  clear H'; obtain ⟨x9_1, rfl, HA, HK1, ⟨m1, rfl⟩⟩ := hrel
  cases gk with
  | zero => exact absurd HA.out (by simp [impl_areLetters.l0])
  | succ k1 =>
   have H := HA.out; clear HA; simp only [impl_areLetters.l0] at H
   by_cases c3 : x9_1 < (l0.length : Int)
   ·rw [if_pos c3] at H; have c3b0 := decide_eq_true c3; clear c3
    by_cases c4 : 0 ≤ x9_1
    ·rw [if_pos c4] at H; have c4b0 := decide_eq_true c4; clear c4
     by_cases c5 : x9_1 < (l0.length : Int)
     ·rw [if_pos c5] at H; have c5b0 := decide_eq_true c5; clear c5
      by_cases c6 : (rd l0 x9_1) < 0
      ·rw [if_pos c6] at H; have c6b0 := decide_eq_true c6; clear c6; obtain rfl := Option.some.inj H
       have p766 : 0 ≤ (x9_1 : Int) := od_ (by assumption)
       have q766 : x9_1 < (l0.length : Int) := od_ (by assumption)
       obtain ⟨ad766, e766, hx766_0⟩ := Kd.at_int HR0.out x9_1 p766 q766
       cases e766
       replace p766 := eq_true p766; replace q766 := eq_true q766
       go_wp2
       go_ret
       exact ⟨by rfl, by repeat (first | exact Drawn0.refl _ | apply Drawn0.step)⟩
      rw [if_neg c6] at H; have c6b0 := decide_eq_false c6; clear c6
      by_cases c7 : (rd l0 x9_1) ≥ a1
      ·rw [if_pos c7] at H
       have c7b0 : decide (a1 ≤ (rd l0 x9_1)) = true := decide_eq_true c7
       clear c7; obtain rfl := Option.some.inj H
       have p766 : 0 ≤ (x9_1 : Int) := od_ (by assumption)
       have q766 : x9_1 < (l0.length : Int) := od_ (by assumption)
       obtain ⟨ad766, e766, hx766_0⟩ := Kd.at_int HR0.out x9_1 p766 q766
       cases e766
       replace p766 := eq_true p766; replace q766 := eq_true q766
       go_wp2
       go_ret
       exact ⟨by rfl, by repeat (first | exact Drawn0.refl _ | apply Drawn0.step)⟩
      rw [if_neg c7] at H
      have c7b0 : decide (a1 ≤ (rd l0 x9_1)) = false := decide_eq_false c7
      clear c7
      have H' := A_ H
      clear H
      have p766 : 0 ≤ (x9_1 : Int) := od_ (by assumption)
      have q766 : x9_1 < (l0.length : Int) := od_ (by assumption)
      obtain ⟨ad766, e766, hx766_0⟩ := Kd.at_int HR0.out x9_1 p766 q766
      cases e766
      replace p766 := eq_true p766; replace q766 := eq_true q766
      go_wp2
      go_roundg k1
      case measure => have := HK1.out; omega
      case rel => exact ⟨(wrap64 (x9_1 + 1)), (by rfl), H', ⟨by have := HK1.out; omega⟩, by repeat (first | exact Drawn0.refl _ | apply Drawn0.step)⟩
     rw [if_neg c5] at H
     cases H
    rw [if_neg c4] at H
    cases H
   rw [if_neg c3] at H; have c3b0 := decide_eq_false c3; clear c3; obtain rfl := Option.some.inj H
   go_wp2
   go_ret
   exact ⟨by rfl, by repeat (first | exact Drawn0.refl _ | apply Drawn0.step)⟩

def impl_IsWord.f (k : Nat) (l0 : List Int) (a1 : Int) : Option (Bool) := if a1 ≥ 1 then (if a1 ≤ 16 then (if (l0.length : Int) ≤ 400 then ((impl_areLetters.f k l0 a1).bind fun t767 => (some t767)) else (some false)) else (some false)) else (some false)
theorem impl_IsWord.calls (k : Nat) (A0 : Option Addr) (c0 : Nat) (l0 : List Int) (a1 : Int) (r : Bool) (w : World) (hr0 : Kd.C (Kd.int .i64) w A0 l0.length l0) (hc0 : l0.length ≤ c0) (h : impl_IsWord.f k l0 a1 = some r) :
  Calls Try.prog 56 #[.slice A0 l0.length c0, .int .i64 a1] w fun e w' => e = .returned (.bool r) ∧ Drawn0 w w' := by
 have HR0 := A_ hr0; have HC0 := A_ hc0; clear hr0 hc0; unfold impl_IsWord.f at h; have H := h; clear h
 by_cases c3 : a1 ≥ 1
 ·rw [if_pos c3] at H
  have c3b0 : decide (1 ≤ a1) = true := decide_eq_true c3
  clear c3
  by_cases c4 : a1 ≤ 16
  ·rw [if_pos c4] at H; have c4b0 := decide_eq_true c4; clear c4
   by_cases c5 : (l0.length : Int) ≤ 400
   ·rw [if_pos c5] at H; have c5b0 := decide_eq_true c5
    have c5b1 : decide (l0.length ≤ 400) = true := decide_eq_true (by omega)
    clear c5; replace H := bA_ H; obtain ⟨t767, A6, H⟩ := H; obtain rfl := Option.some.inj H; go_enter Try.func56, Try.ntmps56
    go_wp2_with (first | (go_at_call 67; (with_reducible refine (impl_areLetters.calls k _ _ l0 a1 t767 _ ?side1 ?side2 A6.out).mono ?_); (case side1 => repeat (first | exact HR0.out | (with_reducible refine Kd.C_alloc ?_ _) | (with_reducible refine Kd.C_drewN ?_ _) | (with_reducible refine Kd.C_drew ?_))); (case side2 => exact HC0.out); rintro e w' ⟨rfl, ⟨nd, rfl⟩⟩))
    go_ret
    exact ⟨by rfl, by repeat (first | exact Drawn0.refl _ | apply Drawn0.step)⟩
   rw [if_neg c5] at H; have c5b0 := decide_eq_false c5
   have c5b1 : decide (l0.length ≤ 400) = false := decide_eq_false (by omega)
   clear c5; obtain rfl := Option.some.inj H; go_enter Try.func56, Try.ntmps56
   go_wp2
   go_ret
   exact ⟨by rfl, by repeat (first | exact Drawn0.refl _ | apply Drawn0.step)⟩
  rw [if_neg c4] at H; have c4b0 := decide_eq_false c4; clear c4; obtain rfl := Option.some.inj H; go_enter Try.func56, Try.ntmps56
  go_wp2
  go_ret
  exact ⟨by rfl, by repeat (first | exact Drawn0.refl _ | apply Drawn0.step)⟩
 rw [if_neg c3] at H
 have c3b0 : decide (1 ≤ a1) = false := decide_eq_false c3
 clear c3; obtain rfl := Option.some.inj H; go_enter Try.func56, Try.ntmps56
 go_wp2
 go_ret
 exact ⟨by rfl, by repeat (first | exact Drawn0.refl _ | apply Drawn0.step)⟩

def impl_isShort.f (k : Nat) (l0 : List Int) (a1 : Int) : Option (Bool) := if (l0.length : Int) ≤ a1 then ((impl_IsWord.f k l0 16).bind fun t768 => (some t768)) else (some false)
theorem impl_isShort.calls (k : Nat) (A0 : Option Addr) (c0 : Nat) (l0 : List Int) (a1 : Int) (r : Bool) (w : World) (hr0 : Kd.C (Kd.int .i64) w A0 l0.length l0) (hc0 : l0.length ≤ c0) (h : impl_isShort.f k l0 a1 = some r) :
  Calls Try.prog 40 #[.slice A0 l0.length c0, .int .i64 a1] w fun e w' => e = .returned (.bool r) ∧ Drawn0 w w' := by
 have HR0 := A_ hr0; have HC0 := A_ hc0; clear hr0 hc0; unfold impl_isShort.f at h; have H := h; clear h
 by_cases c3 : (l0.length : Int) ≤ a1
 ·rw [if_pos c3] at H; have c3b0 := decide_eq_true c3; clear c3; replace H := bA_ H; obtain ⟨t768, A4, H⟩ := H; obtain rfl := Option.some.inj H; go_enter Try.func40, Try.ntmps40
  go_wp2_with (first | (go_at_call 56; (with_reducible refine (impl_IsWord.calls k _ _ l0 16 t768 _ ?side1 ?side2 A4.out).mono ?_); (case side1 => repeat (first | exact HR0.out | (with_reducible refine Kd.C_alloc ?_ _) | (with_reducible refine Kd.C_drewN ?_ _) | (with_reducible refine Kd.C_drew ?_))); (case side2 => exact HC0.out); rintro e w' ⟨rfl, ⟨nd, rfl⟩⟩))
  go_ret
  exact ⟨by rfl, by repeat (first | exact Drawn0.refl _ | apply Drawn0.step)⟩
 rw [if_neg c3] at H; have c3b0 := decide_eq_false c3; clear c3; obtain rfl := Option.some.inj H; go_enter Try.func40, Try.ntmps40
 go_wp2
 go_ret
 exact ⟨by rfl, by repeat (first | exact Drawn0.refl _ | apply Drawn0.step)⟩

def slices_Equal_int_int.l0 : Nat → List Int → List Int → Int → Int → Option (Bool)
 | 0, _, _, _, _ => none
 | k + 1, x0, x1, x12, x13 => if x13 < x12 then (if 0 ≤ x13 then (if x13 < (x0.length : Int) then (if x13 < (x1.length : Int) then (if (rd x0 x13) = (rd x1 x13) then (slices_Equal_int_int.l0 k x0 x1 x12 (wrap64 (x13 + 1))) else (some false)) else (none)) else (none)) else (none)) else (some true)
def slices_Equal_int_int.f (k : Nat) (l0 : List Int) (l1 : List Int) : Option (Bool) := if (l0.length : Int) = (l1.length : Int) then (slices_Equal_int_int.l0 k l0 l1 (l0.length : Int) 0) else (some false)
theorem slices_Equal_int_int.calls (k : Nat) (A0 : Option Addr) (c0 : Nat) (l0 : List Int) (A1 : Option Addr) (c1 : Nat) (l1 : List Int) (r : Bool) (w : World) (hr0 : Kd.C (Kd.int .i64) w A0 l0.length l0) (hc0 : l0.length ≤ c0) (hr1 : Kd.C (Kd.int .i64) w A1 l1.length l1) (hc1 : l1.length ≤ c1) (h : slices_Equal_int_int.f k l0 l1 = some r) :
  Calls Try.prog 47 #[.slice A0 l0.length c0, .slice A1 l1.length c1] w fun e w' => e = .returned (.bool r) ∧ Drawn0 w w' := by
 have HR0 := A_ hr0; have HC0 := A_ hc0; clear hr0 hc0; have HR1 := A_ hr1; have HC1 := A_ hc1; clear hr1 hc1; unfold slices_Equal_int_int.f at h; have H := h; clear h
 by_cases c3 : (l0.length : Int) = (l1.length : Int)
 ·rw [if_pos c3] at H
  have c3b0 : ((l0.length : Int) == (l1.length : Int)) = true := beq_iff_eq.mpr c3
  have c3b1 : ((l0.length : Int) != (l1.length : Int)) = false := bne_eq_false_iff_eq.mpr c3
  have c3b2 : (l0.length == l1.length) = true := by first | simpa using c3 | (simp at c3 ⊢; omega)
  clear c3
  have H' := A_ H
  clear H; go_enter Try.func47, Try.ntmps47
  go_wp2
  repeat (go_quiet (fail); try go_wp2)
  go_loopg [13] k (fun kq v13 w' => ∃ (x13_1 : Int), v13 = .int .i64 x13_1 ∧ Aside0 (slices_Equal_int_int.l0 kq l0 l1 (l0.length : Int) x13_1 = some r) ∧ Aside0 (kq ≤ k) ∧ Drawn0 w w')
  case atStart => exact ⟨(0), (by rfl), H', ⟨Nat.le_refl _⟩, by repeat (first | exact Drawn0.refl _ | apply Drawn0.step)⟩
  case round =>
   clear H'
   try clear c3b0
   try clear c3b1
   try clear c3b2
   obtain ⟨x13_1, rfl, HA, HK1, ⟨m1, rfl⟩⟩ := hrel
   cases gk with
   | zero => exact absurd HA.out (by simp [slices_Equal_int_int.l0])
   | succ k1 =>
    have H := HA.out; clear HA; simp only [slices_Equal_int_int.l0] at H
    by_cases c4 : x13_1 < (l0.length : Int)
    ·rw [if_pos c4] at H; have c4b0 := decide_eq_true c4; clear c4
     by_cases c5 : 0 ≤ x13_1
     ·rw [if_pos c5] at H; have c5b0 := decide_eq_true c5; clear c5
      by_cases c6 : x13_1 < (l0.length : Int)
      ·rw [if_pos c6] at H; have c6b0 := decide_eq_true c6; clear c6
       by_cases c7 : x13_1 < (l1.length : Int)
       ·rw [if_pos c7] at H; have c7b0 := decide_eq_true c7; clear c7
        by_cases c8 : (rd l0 x13_1) = (rd l1 x13_1)
        ·rw [if_pos c8] at H
         have c8b0 : ((rd l0 x13_1) == (rd l1 x13_1)) = true := beq_iff_eq.mpr c8
         have c8b1 : ((rd l0 x13_1) != (rd l1 x13_1)) = false := bne_eq_false_iff_eq.mpr c8
         clear c8
         have H' := A_ H
         clear H
         have p769 : 0 ≤ (x13_1 : Int) := od_ (by assumption)
         have q769 : x13_1 < (l0.length : Int) := od_ (by assumption)
         obtain ⟨ad769, e769, hx769_0⟩ := Kd.at_int HR0.out x13_1 p769 q769
         cases e769
         replace p769 := eq_true p769; replace q769 := eq_true q769
         have p770 : 0 ≤ (x13_1 : Int) := od_ (by assumption)
         have q770 : x13_1 < (l1.length : Int) := od_ (by assumption)
         obtain ⟨ad770, e770, hx770_0⟩ := Kd.at_int HR1.out x13_1 p770 q770
         cases e770
         replace p770 := eq_true p770; replace q770 := eq_true q770
         go_wp2
         repeat (go_quiet (fail); try go_wp2)
         go_roundg k1
         case measure => have := HK1.out; omega
         case rel => exact ⟨(wrap64 (x13_1 + 1)), (by rfl), H', ⟨by have := HK1.out; omega⟩, by repeat (first | exact Drawn0.refl _ | apply Drawn0.step)⟩
        rw [if_neg c8] at H
        have c8b0 : ((rd l0 x13_1) == (rd l1 x13_1)) = false := beq_eq_false_iff_ne.mpr c8
        have c8b1 : ((rd l0 x13_1) != (rd l1 x13_1)) = true := bne_iff_ne.mpr c8
        obtain rfl := Option.some.inj H
        have p769 : 0 ≤ (x13_1 : Int) := od_ (by assumption)
        have q769 : x13_1 < (l0.length : Int) := od_ (by assumption)
        obtain ⟨ad769, e769, hx769_0⟩ := Kd.at_int HR0.out x13_1 p769 q769
        cases e769
        replace p769 := eq_true p769; replace q769 := eq_true q769
        have p770 : 0 ≤ (x13_1 : Int) := od_ (by assumption)
        have q770 : x13_1 < (l1.length : Int) := od_ (by assumption)
        obtain ⟨ad770, e770, hx770_0⟩ := Kd.at_int HR1.out x13_1 p770 q770
        cases e770
        replace p770 := eq_true p770; replace q770 := eq_true q770
        go_wp2
        repeat (go_quiet (fail); try go_wp2)
        go_ret
        exact ⟨by rfl, by repeat (first | exact Drawn0.refl _ | apply Drawn0.step)⟩
       rw [if_neg c7] at H
       cases H
      rw [if_neg c6] at H
      cases H
     rw [if_neg c5] at H
     cases H
    rw [if_neg c4] at H; have c4b0 := decide_eq_false c4; clear c4; obtain rfl := Option.some.inj H
    go_wp2
    repeat (go_quiet (fail); try go_wp2)
    go_ret
    exact ⟨by rfl, by repeat (first | exact Drawn0.refl _ | apply Drawn0.step)⟩
 rw [if_neg c3] at H
 have c3b0 : ((l0.length : Int) == (l1.length : Int)) = false := beq_eq_false_iff_ne.mpr c3
 have c3b1 : ((l0.length : Int) != (l1.length : Int)) = true := bne_iff_ne.mpr c3
 have c3b2 : (l0.length == l1.length) = false := by first | simpa using c3 | (simp at c3 ⊢; omega)
 obtain rfl := Option.some.inj H; go_enter Try.func47, Try.ntmps47
 go_wp2
 repeat (go_quiet (fail); try go_wp2)
 go_ret
 exact ⟨by rfl, by repeat (first | exact Drawn0.refl _ | apply Drawn0.step)⟩

end Go.Proofs.Ytnhpbmagbajliaa.PFnBorders

