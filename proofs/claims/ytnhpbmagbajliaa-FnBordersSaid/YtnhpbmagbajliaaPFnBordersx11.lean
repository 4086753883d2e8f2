/- Walks of the functions that the law reaches. -/
import Derived.Test.YtnhpbmagbajliaaPFnBordersx0
namespace Go.Proofs.Ytnhpbmagbajliaa.PFnBorders
open Go.RowKit Go.Proofs.YtnhpbmagbajliaaW.PrintWords Go.Proofs.YtnhpbmagbajliaaW.PrintLast Go.Proofs.YtnhpbmagbajliaaW.PrintMore
attribute [local go_sem] max2_int min2_int max_two min_two max_three min_three max_four min_four
set_option linter.unusedVariables false
set_option maxHeartbeats 8000000
set_option maxRecDepth 100000
set_option linter.unusedSimpArgs false

mutual
def impl_borders.l0 : Nat → List Int → List Int → Int → Option (List Int)
 | 0, _, _, _ => none
 | k + 1, x0, x3, x4 => if x4 ≤ (x0.length : Int) then (if 0 ≤ (wrap64 (x4 - 1)) then (if (wrap64 (x4 - 1)) < (x3.length : Int) then (impl_borders.l1 k x0 x3 x4 (rd x3 (wrap64 (x4 - 1)))) else (none)) else (none)) else (some x3)
def impl_borders.l1 : Nat → List Int → List Int → Int → Int → Option (List Int)
 | 0, _, _, _, _ => none
 | k + 1, x0, x3, x4, x5 => if x5 ≥ 0 then (if 0 ≤ x5 then (if x5 < (x0.length : Int) then (if 0 ≤ (wrap64 (x4 - 1)) then (if (wrap64 (x4 - 1)) < (x0.length : Int) then (if (rd x0 x5) = (rd x0 (wrap64 (x4 - 1))) then (if 0 ≤ x4 then (if x4 < (x3.length : Int) then (impl_borders.l0 k x0 (x3.set (x4 : Int).toNat (wrap64 (x5 + 1))) (wrap64 (x4 + 1))) else (none)) else (none)) else (if x5 < (x3.length : Int) then (impl_borders.l1 k x0 x3 x4 (rd x3 x5)) else (none))) else (none)) else (none)) else (none)) else (none)) else (if 0 ≤ x4 then (if x4 < (x3.length : Int) then (impl_borders.l0 k x0 (x3.set (x4 : Int).toNat (wrap64 (x5 + 1))) (wrap64 (x4 + 1))) else (none)) else (none))
end
def impl_borders.f (k : Nat) (l0 : List Int) : Option (List Int) := if 0 ≤ (wrap64 ((l0.length : Int) + 1)) then (if (wrap64 ((l0.length : Int) + 1) : Int).toNat ≤ 35184372088832 then ((some (List.replicate (wrap64 ((l0.length : Int) + 1) : Int).toNat 0 : List Int)).bind fun y585 => (if 0 < (y585.length : Int) then (impl_borders.l0 k l0 (y585.set (0 : Int).toNat (-1)) 1) else (none))) else (none)) else (none)
theorem cell_at_ {w w' : World} {m : Nat} {a : Addr} {v : Value} (hq : w.drewN m = w') (h : w.cell? a = some v) : w'.cell? a = some v := by subst hq; exact h
theorem frz_at_ {w w' : World} {m : Nat} {a : Addr} (hq : w.drewN m = w') (h : w.frozen? a = false) : w'.frozen? a = false := by subst hq; exact h
theorem impl_borders.calls (k : Nat) (A0 : Option Addr) (c0 : Nat) (l0 : List Int) (r : List Int) (w : World) (hr0 : Kd.C (Kd.int .i64) w A0 l0.length l0) (hc0 : l0.length ≤ c0) (h : impl_borders.f k l0 = some r) :
  Calls Try.prog 34 #[.slice A0 l0.length c0] w fun e w' => ∃ v0_ : Value, e = .returned (v0_) ∧ Kd.R (Kd.int .i64) 3 w' w.heap.size (fun _ => True) v0_ r ∧ Below w.heap.size w w' := by
 have HR0 := A_ hr0; have HC0 := A_ hc0; clear hr0 hc0; have HB := A_ (Below.refl w.heap.size w); unfold impl_borders.f at h; have H := h; clear h; obtain ⟨ji2, hji2⟩ : ∃ j_ : Int, (wrap64 ((l0.length : Int) + 1)) = j_ := ⟨_, rfl⟩; replace H : (if 0 ≤ (ji2) then (if (ji2 : Int).toNat ≤ 35184372088832 then ((some (List.replicate (ji2 : Int).toNat 0 : List Int)).bind fun y585 => (if 0 < (y585.length : Int) then (impl_borders.l0 k l0 (y585.set (0 : Int).toNat (-1)) 1) else (none))) else (none)) else (none)) = some r := by first | (rw [hji2] at H; exact H) | (simp only [hji2] at H ⊢; exact H)
 have hji2w : (IntKind.i64.wrap ((l0.length : Int) + 1)) = ji2 := (i64_w _).trans hji2
 by_cases c3 : 0 ≤ (ji2)
 ·rw [if_pos c3] at H; have c3b0 := eq_true c3; have c3b1 := decide_eq_true c3; clear c3
  by_cases c4 : (ji2 : Int).toNat ≤ 35184372088832
  ·rw [if_pos c4] at H; have c4b0 := eq_true c4; have c4b1 := decide_eq_true c4; clear c4; obtain ⟨y585, hy585⟩ := ex_ ((List.replicate (ji2 : Int).toNat 0) : List Int); replace H : (if 0 < (y585.length : Int) then (impl_borders.l0 k l0 (y585.set (0 : Int).toNat (-1)) 1) else (none)) = some r := by (have H2_ := (Option.bind_some _ _).symm.trans H; rw [hy585]; with_reducible exact H2_)
   have Ny585 := A_ hy585; clear hy585
   by_cases c5 : 0 < (y585.length : Int)
   ·rw [if_pos c5] at H; have c5b0 := decide_eq_true c5
    have c5b1 : decide (0 < y585.length) = true := decide_eq_true (by omega)
    clear c5; obtain ⟨y588, hy588⟩ := ex_ ((y585.set (0 : Int).toNat (-1)) : List Int); replace H : (impl_borders.l0 k l0 y588 1) = some r := by (rw [hy588]; with_reducible exact H)
    have Ny588 := A_ hy588; clear hy588
    have H' := A_ H
    clear H; go_enter Try.func34, Try.ntmps34
    go_wp2_with (first | ((with_reducible refine gate_dst (N := 9) rfl ?_); refine Kd.R_make (Kd.int .i64) _ 3 rfl (N := 9) rfl 24 _ _ rfl ji2 rfl rfl Try.underlying24 (.int .i64 0) 8 info3 rfl (by decide) (by omega) 0 (ok := fun _ => True) (okp := fun _ => True) rfl (fun _ hk => hk) trivial (od_ (by assumption)) (Nat.le_trans (Nat.mul_le_mul_right _ (od_ (by assumption) : ji2.toNat ≤ 35184372088832)) (by omega)) (Below.refl _ _) (Nat.le_refl _) ?_; rintro v586 w7 ho8 hb - -; (rw [← Ny585.out] at ho8); have HO587 := A_ (Kd.R_lower ho8 (below_size HB.out)); replace HB := bs_ HB hb; clear hb ho8; have p6 : 0 ≤ (0 : Int) := (by omega); have q6 : (0 : Int) < ((y585.length : Int) : Int) := od_ (by assumption); have qi6 : (0 < y585.length) = True := eq_true (by omega); obtain ⟨go6, co6, eo6, gb6, gl6, cl6, HG6⟩ := Kd.R_form HO587.out (by omega); (first | cases eo6 | (injection eo6 with ea_ en_ ec_; (first | subst ea_ | (injection ea_ with ea_; subst ea_)); subst ec_; clear en_)); have GB6 := A_ gb6; have GG6 := A_ HG6; clear gb6 gl6 HG6; obtain ⟨hx6_0, hf6_0⟩ := Kd.R_celln 0 HO587.out (0 : Int) p6 q6; (try rw [show ((0 : Int)).toNat = 0 from rfl] at hx6_0); (try simp only [Nat.reduceMul, Nat.zero_mul, Nat.zero_add, Nat.reduceAdd] at hx6_0); (try rw [show ((0 : Int)).toNat = 0 from rfl] at hf6_0); (try simp only [Nat.reduceMul, Nat.zero_mul, Nat.zero_add, Nat.reduceAdd] at hf6_0); replace p6 := eq_true p6; replace q6 := eq_true q6; obtain ⟨hy9_, hz9_⟩ := Kd.R_celln 0 HO587.out (0 : Int) (by omega) (od_ (by assumption)); (try simp only [Int.reduceToNat, Int.toNat_zero, Int.toNat_ofNat, Nat.reduceMul, Nat.zero_mul, Nat.zero_add] at hy9_ hz9_); (try rw [show ((0 : Int)).toNat = 0 from rfl] at hy9_); (try rw [show ((0 : Int)).toNat = 0 from rfl] at hz9_); have HP9 := Kd.R_putg HO587.out (0 : Int) (-1)) | ((with_reducible refine gate_store (t := 3) (p := 11) rfl ?_); (try (rw [drewN_self w7]; generalize hq_ : World.drewN w7 _ = w7; replace HO587 := A_ (Kd.R_at hq_ HO587.out); replace HB := A_ (below_at hq_ HB.out); clear hq_; (try (obtain ⟨hy9_, hz9_⟩ := Kd.R_celln 0 HO587.out (0 : Int) (by omega) (od_ (by first | (with_reducible assumption) | assumption)))); (try (try simp only [Int.reduceToNat, Int.toNat_zero, Int.toNat_ofNat, Nat.reduceMul, Nat.zero_mul, Nat.zero_add] at hy9_ hz9_)); (try (try rw [show ((0 : Int)).toNat = 0 from rfl] at hy9_)); (try (try rw [show ((0 : Int)).toNat = 0 from rfl] at hz9_)); (try (have HP9 := Kd.R_putg HO587.out (0 : Int) (-1))))); refine store_event (t := 3) (p := 11) (v := ?vo_w10) (w1 := (w7.setCell ⟨go6, (0 : Int).toNat, none⟩ (.int .i64 (-1)))) ?hg ?ho ?hn ?hr ?_; (case ho => rfl); (case hg => rfl); (case hn => rfl); (case hr => first | (go_simp; done) | (go_simp; rfl) | (obtain ⟨_, _, rfl⟩ := Kd.R_slice HO587.out; go_simp; first | done | rfl) | (obtain ⟨_, _, rfl⟩ := Kd.R_slice (Kd.S_R HO587.out); go_simp; first | done | rfl)); intro w10 hw; have hg : w7.grownBy w10 (some go6) := (by rw [hw]; exact HP9.2); have hp_ : Kd.R (Kd.int .i64) 3 w10 w.heap.size (fun _ => True) (.slice (some ⟨go6, 0, none⟩) y585.length co6) y588 := (by rw [hw, Ny588.out]; exact HP9.1); clear HP9; replace HO587 := A_ (hp_); replace HB := A_ ((by rw [hw]; exact below_set (HB.out) GB6.out : Below w.heap.size w w10)); clear hg hw hp_))
    repeat (go_quiet (first | ((with_reducible refine gate_dst (N := 9) rfl ?_); refine Kd.R_make (Kd.int .i64) _ 3 rfl (N := 9) rfl 24 _ _ rfl ji2 rfl rfl Try.underlying24 (.int .i64 0) 8 info3 rfl (by decide) (by omega) 0 (ok := fun _ => True) (okp := fun _ => True) rfl (fun _ hk => hk) trivial (od_ (by first | (with_reducible assumption) | assumption)) (Nat.le_trans (Nat.mul_le_mul_right _ (od_ (by first | (with_reducible assumption) | assumption) : ji2.toNat ≤ 35184372088832)) (by omega)) (Below.refl _ _) (Nat.le_refl _) ?_; rintro v586 w7 ho8 hb - -; (first | rw [← Ny585.out] at ho8 | (simp only [Int.reduceToNat] at ho8; rw [← Ny585.out] at ho8)); have HO587 := A_ (Kd.R_lower ho8 (below_size HB.out)); replace HB := bs_ HB hb; clear hb ho8; have p6 : 0 ≤ (0 : Int) := (by omega); have q6 : (0 : Int) < ((y585.length : Int) : Int) := od_ (by first | (with_reducible assumption) | assumption); have qi6 : (0 < y585.length) = True := eq_true (by omega); obtain ⟨go6, co6, eo6, gb6, gl6, cl6, HG6⟩ := Kd.R_form HO587.out (by omega); (first | cases eo6 | (injection eo6 with ea_ en_ ec_; (first | subst ea_ | (injection ea_ with ea_; subst ea_)); subst ec_; clear en_)); have GB6 := A_ gb6; have GG6 := A_ HG6; clear gb6 gl6 HG6; obtain ⟨hx6_0, hf6_0⟩ := Kd.R_celln 0 HO587.out (0 : Int) p6 q6; (try rw [show ((0 : Int)).toNat = 0 from rfl] at hx6_0); (try simp only [Nat.reduceMul, Nat.zero_mul, Nat.zero_add, Nat.reduceAdd] at hx6_0); (try rw [show ((0 : Int)).toNat = 0 from rfl] at hf6_0); (try simp only [Nat.reduceMul, Nat.zero_mul, Nat.zero_add, Nat.reduceAdd] at hf6_0); replace p6 := eq_true p6; replace q6 := eq_true q6; obtain ⟨hy9_, hz9_⟩ := Kd.R_celln 0 HO587.out (0 : Int) (by omega) (od_ (by first | (with_reducible assumption) | assumption)); (try simp only [Int.reduceToNat, Int.toNat_zero, Int.toNat_ofNat, Nat.reduceMul, Nat.zero_mul, Nat.zero_add] at hy9_ hz9_); (try rw [show ((0 : Int)).toNat = 0 from rfl] at hy9_); (try rw [show ((0 : Int)).toNat = 0 from rfl] at hz9_); have HP9 := Kd.R_putg HO587.out (0 : Int) (-1)) | ((with_reducible refine gate_store (t := 3) (p := 11) rfl ?_); (try (rw [drewN_self w7]; generalize hq_ : World.drewN w7 _ = w7; replace HO587 := A_ (Kd.R_at hq_ HO587.out); replace HB := A_ (below_at hq_ HB.out); clear hq_; (try (obtain ⟨hy9_, hz9_⟩ := Kd.R_celln 0 HO587.out (0 : Int) (by omega) (od_ (by first | (with_reducible assumption) | assumption)))); (try (try simp only [Int.reduceToNat, Int.toNat_zero, Int.toNat_ofNat, Nat.reduceMul, Nat.zero_mul, Nat.zero_add] at hy9_ hz9_)); (try (try rw [show ((0 : Int)).toNat = 0 from rfl] at hy9_)); (try (try rw [show ((0 : Int)).toNat = 0 from rfl] at hz9_)); (try (have HP9 := Kd.R_putg HO587.out (0 : Int) (-1))))); refine store_event (t := 3) (p := 11) (v := ?vo_w10) (w1 := (w7.setCell ⟨go6, (0 : Int).toNat, none⟩ (.int .i64 (-1)))) ?hg ?ho ?hn ?hr ?_; (case ho => rfl); (case hg => rfl); (case hn => rfl); (case hr => first | (go_simp; done) | (go_simp; rfl) | (obtain ⟨_, _, rfl⟩ := Kd.R_slice HO587.out; go_simp; first | done | rfl) | (obtain ⟨_, _, rfl⟩ := Kd.R_slice (Kd.S_R HO587.out); go_simp; first | done | rfl)); intro w10 hw; have hg : w7.grownBy w10 (some go6) := (by rw [hw]; exact HP9.2); have hp_ : Kd.R (Kd.int .i64) 3 w10 w.heap.size (fun _ => True) (.slice (some ⟨go6, 0, none⟩) y585.length co6) y588 := (by rw [hw, Ny588.out]; exact HP9.1); clear HP9; replace HO587 := A_ (hp_); replace HB := A_ ((by rw [hw]; exact below_set (HB.out) GB6.out : Below w.heap.size w w10)); clear hg hw hp_)); try go_wp2_with (first | ((with_reducible refine gate_dst (N := 9) rfl ?_); refine Kd.R_make (Kd.int .i64) _ 3 rfl (N := 9) rfl 24 _ _ rfl ji2 rfl rfl Try.underlying24 (.int .i64 0) 8 info3 rfl (by decide) (by omega) 0 (ok := fun _ => True) (okp := fun _ => True) rfl (fun _ hk => hk) trivial (od_ (by first | (with_reducible assumption) | assumption)) (Nat.le_trans (Nat.mul_le_mul_right _ (od_ (by first | (with_reducible assumption) | assumption) : ji2.toNat ≤ 35184372088832)) (by omega)) (Below.refl _ _) (Nat.le_refl _) ?_; rintro v586 w7 ho8 hb - -; (first | rw [← Ny585.out] at ho8 | (simp only [Int.reduceToNat] at ho8; rw [← Ny585.out] at ho8)); have HO587 := A_ (Kd.R_lower ho8 (below_size HB.out)); replace HB := bs_ HB hb; clear hb ho8; have p6 : 0 ≤ (0 : Int) := (by omega); have q6 : (0 : Int) < ((y585.length : Int) : Int) := od_ (by first | (with_reducible assumption) | assumption); have qi6 : (0 < y585.length) = True := eq_true (by omega); obtain ⟨go6, co6, eo6, gb6, gl6, cl6, HG6⟩ := Kd.R_form HO587.out (by omega); (first | cases eo6 | (injection eo6 with ea_ en_ ec_; (first | subst ea_ | (injection ea_ with ea_; subst ea_)); subst ec_; clear en_)); have GB6 := A_ gb6; have GG6 := A_ HG6; clear gb6 gl6 HG6; obtain ⟨hx6_0, hf6_0⟩ := Kd.R_celln 0 HO587.out (0 : Int) p6 q6; (try rw [show ((0 : Int)).toNat = 0 from rfl] at hx6_0); (try simp only [Nat.reduceMul, Nat.zero_mul, Nat.zero_add, Nat.reduceAdd] at hx6_0); (try rw [show ((0 : Int)).toNat = 0 from rfl] at hf6_0); (try simp only [Nat.reduceMul, Nat.zero_mul, Nat.zero_add, Nat.reduceAdd] at hf6_0); replace p6 := eq_true p6; replace q6 := eq_true q6; obtain ⟨hy9_, hz9_⟩ := Kd.R_celln 0 HO587.out (0 : Int) (by omega) (od_ (by first | (with_reducible assumption) | assumption)); (try simp only [Int.reduceToNat, Int.toNat_zero, Int.toNat_ofNat, Nat.reduceMul, Nat.zero_mul, Nat.zero_add] at hy9_ hz9_); (try rw [show ((0 : Int)).toNat = 0 from rfl] at hy9_); (try rw [show ((0 : Int)).toNat = 0 from rfl] at hz9_); have HP9 := Kd.R_putg HO587.out (0 : Int) (-1)) | ((with_reducible refine gate_store (t := 3) (p := 11) rfl ?_); (try (rw [drewN_self w7]; generalize hq_ : World.drewN w7 _ = w7; replace HO587 := A_ (Kd.R_at hq_ HO587.out); replace HB := A_ (below_at hq_ HB.out); clear hq_; (try (obtain ⟨hy9_, hz9_⟩ := Kd.R_celln 0 HO587.out (0 : Int) (by omega) (od_ (by first | (with_reducible assumption) | assumption)))); (try (try simp only [Int.reduceToNat, Int.toNat_zero, Int.toNat_ofNat, Nat.reduceMul, Nat.zero_mul, Nat.zero_add] at hy9_ hz9_)); (try (try rw [show ((0 : Int)).toNat = 0 from rfl] at hy9_)); (try (try rw [show ((0 : Int)).toNat = 0 from rfl] at hz9_)); (try (have HP9 := Kd.R_putg HO587.out (0 : Int) (-1))))); refine store_event (t := 3) (p := 11) (v := ?vo_w10) (w1 := (w7.setCell ⟨go6, (0 : Int).toNat, none⟩ (.int .i64 (-1)))) ?hg ?ho ?hn ?hr ?_; (case ho => rfl); (case hg => rfl); (case hn => rfl); (case hr => first | (go_simp; done) | (go_simp; rfl) | (obtain ⟨_, _, rfl⟩ := Kd.R_slice HO587.out; go_simp; first | done | rfl) | (obtain ⟨_, _, rfl⟩ := Kd.R_slice (Kd.S_R HO587.out); go_simp; first | done | rfl)); intro w10 hw; have hg : w7.grownBy w10 (some go6) := (by rw [hw]; exact HP9.2); have hp_ : Kd.R (Kd.int .i64) 3 w10 w.heap.size (fun _ => True) (.slice (some ⟨go6, 0, none⟩) y585.length co6) y588 := (by rw [hw, Ny588.out]; exact HP9.1); clear HP9; replace HO587 := A_ (hp_); replace HB := A_ ((by rw [hw]; exact below_set (HB.out) GB6.out : Below w.heap.size w w10)); clear hg hw hp_)))
    go_loopg [4] k (fun kq v4 w' => ∃ (x3_1 : List Int) (x4_1 : Int), v4 = .int .i64 x4_1 ∧ Aside0 (impl_borders.l0 kq l0 x3_1 x4_1 = some r) ∧ Aside0 (kq ≤ k) ∧ Aside0 (Kd.R (Kd.int .i64) 3 w' w.heap.size (fun _ => True) (.slice (some ⟨go6, 0, none⟩) y585.length co6) x3_1) ∧ Aside0 (Below w.heap.size w w'))
    case atStart => exact ⟨(y588), (1), (by rfl), H', ⟨Nat.le_refl _⟩, ⟨HO587.out⟩, ⟨HB.out⟩⟩
    case round =>
     clear H'
     try clear c3b0
     try clear c3b1
     try clear c4b0
     try clear c4b1
     try clear c5b0
     try clear c5b1
     try clear p6
     try clear q6
     try clear qi6
     try clear hx6_0
     obtain ⟨x3_1, x4_1, rfl, HA, HK1, HO_3, HB⟩ := hrel; have hl3_1 := (Kd.R_reads' HO_3.out).1; rw [hl3_1] at HO_3
     (try simp only [hl3_1])
     cases gk with
     | zero => exact absurd HA.out (by simp [impl_borders.l0])
     | succ k1 =>
      have H := HA.out; clear HA; simp only [impl_borders.l0] at H
      by_cases c11 : x4_1 ≤ (l0.length : Int)
      ·rw [if_pos c11] at H; have c11b0 := decide_eq_true c11; clear c11; obtain ⟨ji12, hji12⟩ : ∃ j_ : Int, (wrap64 (x4_1 - 1)) = j_ := ⟨_, rfl⟩; replace H : (if 0 ≤ (ji12) then (if (ji12) < (x3_1.length : Int) then (impl_borders.l1 k1 l0 x3_1 x4_1 (rd x3_1 (ji12))) else (none)) else (none)) = some r := by first | (rw [hji12] at H; exact H) | (simp only [hji12] at H ⊢; exact H)
       have hji12w : (IntKind.i64.wrap (x4_1 - 1)) = ji12 := (i64_w _).trans hji12
       by_cases c13 : 0 ≤ (ji12)
       ·rw [if_pos c13] at H; have c13b0 := decide_eq_true c13; clear c13
        by_cases c14 : (ji12) < (x3_1.length : Int)
        ·rw [if_pos c14] at H; have c14b0 := decide_eq_true c14; clear c14
         have H' := A_ H
         clear H
         have p589 : 0 ≤ ((ji12) : Int) := od_ (by assumption)
         have q589 : (ji12) < (x3_1.length : Int) := od_ (by assumption)
         obtain ⟨ad589, e589, hx589_0⟩ := Kd.at_int (Kd.R_reads' HO_3.out).2.2 (ji12) p589 q589; obtain rfl : (⟨go6, 0, none⟩ : Addr) = ad589 := (by injection e589)
         (first | simp only [add_plain] at hx589_0 | simp only [add_at] at hx589_0 | simp only [Addr.add, Nat.zero_add] at hx589_0 | skip)
         replace p589 := eq_true p589; replace q589 := eq_true q589
         go_wp2
         repeat (go_quiet (fail); try go_wp2)
         go_loopg [5] k1 (fun kq v5 w' => ∃ (x5_2 : Int), v5 = .int .i64 x5_2 ∧ Aside0 (impl_borders.l1 kq l0 x3_1 x4_1 x5_2 = some r) ∧ Aside0 (kq ≤ k1) ∧ Aside0 (Kd.R (Kd.int .i64) 3 w' w.heap.size (fun _ => True) (.slice (some ⟨go6, 0, none⟩) x3_1.length co6) x3_1) ∧ Aside0 (Below w.heap.size w w'))
         case atStart => exact ⟨(rd x3_1 (ji12)), (by first | rfl | (simp; done) | (simp only [← hji12] <;> (first | rfl | simp)) | (simp [*]; done)), H', ⟨Nat.le_refl _⟩, ⟨by (try simp only [hl3_1]); exact HO_3.out⟩, ⟨HB.out⟩⟩
         case round =>
          clear H'
          try clear c11b0
          try clear c13b0
          try clear c14b0
          try clear hx589_0
          try clear p589
          try clear q589
          obtain ⟨x5_2, rfl, HA, HK2, HO_3, HB⟩ := hrel
          cases gk with
          | zero => exact absurd HA.out (by simp [impl_borders.l1])
          | succ k2 =>
           have H := HA.out; clear HA; simp only [impl_borders.l1] at H
           by_cases c15 : x5_2 ≥ 0
           ·rw [if_pos c15] at H
            have c15b0 : decide (0 ≤ x5_2) = true := decide_eq_true c15
            clear c15
            by_cases c16 : 0 ≤ x5_2
            ·rw [if_pos c16] at H; have c16b0 := decide_eq_true c16; clear c16
             by_cases c17 : x5_2 < (l0.length : Int)
             ·rw [if_pos c17] at H; have c17b0 := decide_eq_true c17; clear c17; replace H : (if 0 ≤ (ji12) then (if (ji12) < (l0.length : Int) then (if (rd l0 x5_2) = (rd l0 (ji12)) then (if 0 ≤ x4_1 then (if x4_1 < (x3_1.length : Int) then (impl_borders.l0 k2 l0 (x3_1.set (x4_1 : Int).toNat (wrap64 (x5_2 + 1))) (wrap64 (x4_1 + 1))) else (none)) else (none)) else (if x5_2 < (x3_1.length : Int) then (impl_borders.l1 k2 l0 x3_1 x4_1 (rd x3_1 x5_2)) else (none))) else (none)) else (none)) = some r := by first | (rw [hji12] at H; exact H) | (simp only [hji12] at H ⊢; exact H)
              by_cases c19 : 0 ≤ (ji12)
              ·rw [if_pos c19] at H; have c19b0 := decide_eq_true c19; clear c19
               by_cases c20 : (ji12) < (l0.length : Int)
               ·rw [if_pos c20] at H; have c20b0 := decide_eq_true c20; clear c20
                by_cases c21 : (rd l0 x5_2) = (rd l0 (ji12))
                ·rw [if_pos c21] at H
                 have c21b0 : ((rd l0 x5_2) == (rd l0 (ji12))) = true := beq_iff_eq.mpr c21
                 have c21b1 : ((rd l0 x5_2) != (rd l0 (ji12))) = false := bne_eq_false_iff_eq.mpr c21
                 clear c21
                 by_cases c22 : 0 ≤ x4_1
                 ·rw [if_pos c22] at H; have c22b0 := decide_eq_true c22; clear c22
                  by_cases c23 : x4_1 < (x3_1.length : Int)
                  ·rw [if_pos c23] at H; have c23b0 := decide_eq_true c23; clear c23; obtain ⟨y592, hy592⟩ := ex_ ((x3_1.set (x4_1 : Int).toNat (wrap64 (x5_2 + 1))) : List Int); replace H : (impl_borders.l0 k2 l0 y592 (wrap64 (x4_1 + 1))) = some r := by (rw [hy592]; with_reducible exact H)
                   have Ny592 := A_ hy592; clear hy592
                   have H' := A_ H
                   clear H
                   have p590 : 0 ≤ (x5_2 : Int) := od_ (by assumption)
                   have q590 : x5_2 < (l0.length : Int) := od_ (by assumption)
                   obtain ⟨ad590, e590, hx590_0⟩ := Kd.at_int HR0.out x5_2 p590 q590
                   cases e590
                   replace hx590_0 := (HB.out.cell (World.block_lt_of_cell? w _ hx590_0)).trans hx590_0; replace p590 := eq_true p590; replace q590 := eq_true q590
                   have p591 : 0 ≤ ((ji12) : Int) := od_ (by assumption)
                   have q591 : (ji12) < (l0.length : Int) := od_ (by assumption)
                   obtain ⟨ad591, e591, hx591_0⟩ := Kd.at_int HR0.out (ji12) p591 q591; obtain rfl : ad590 = ad591 := (by injection e591); replace hx591_0 := (HB.out.cell (World.block_lt_of_cell? w _ hx591_0)).trans hx591_0; replace p591 := eq_true p591; replace q591 := eq_true q591
                   have p24 : 0 ≤ (x4_1 : Int) := od_ (by assumption)
                   have q24 : (x4_1 : Int) < ((x3_1.length : Int) : Int) := od_ (by assumption)
                   obtain ⟨hx24_0, hf24_0⟩ := Kd.R_celln 0 HO_3.out (x4_1 : Int) p24 q24; replace p24 := eq_true p24; replace q24 := eq_true q24; have HP25 := Kd.R_putg HO_3.out (x4_1 : Int) (wrap64 (x5_2 + 1))
                   go_wp2_with (first | ((with_reducible refine gate_store (t := 3) (p := 45) rfl ?_); (try (rw [drewN_self wr]; generalize hq_ : World.drewN wr _ = wr; (try (have hx6_0 := cell_at_ hq_ hx6_0)); (try (have hf6_0 := frz_at_ hq_ hf6_0)); (try (have hx24_0 := cell_at_ hq_ hx24_0)); (try (have hf24_0 := frz_at_ hq_ hf24_0)); (try (have hx30_0 := cell_at_ hq_ hx30_0)); (try (have hf30_0 := frz_at_ hq_ hf30_0)); replace HO_3 := A_ (Kd.R_at hq_ HO_3.out); replace HB := A_ (below_at hq_ HB.out); clear hq_; (try (have HP25 := Kd.R_putg HO_3.out (x4_1 : Int) (wrap64 (x5_2 + 1)))))); refine store_event (t := 3) (p := 45) (v := ?vo_w26) (w1 := (wr.setCell ⟨go6, (x4_1 : Int).toNat, none⟩ (.int .i64 (wrap64 (x5_2 + 1))))) ?hg ?ho ?hn ?hr ?_; (case ho => rfl); (case hg => rfl); (case hn => rfl); (case hr => first | (go_simp; done) | (go_simp; rfl)); intro w26 hw; have hg : wr.grownBy w26 (some go6) := (by rw [hw]; exact HP25.2); have hp_ : Kd.R (Kd.int .i64) 3 w26 w.heap.size (fun _ => True) (.slice (some ⟨go6, 0, none⟩) x3_1.length co6) y592 := (by rw [hw, Ny592.out]; exact HP25.1); clear HP25; replace HO_3 := A_ (hp_); replace HB := A_ ((by rw [hw]; exact below_set (HB.out) GB6.out : Below w.heap.size w w26)); clear hg hw hp_))
                   repeat (go_quiet (first | ((with_reducible refine gate_store (t := 3) (p := 45) rfl ?_); (try (rw [drewN_self wr]; generalize hq_ : World.drewN wr _ = wr; (try (have hx6_0 := cell_at_ hq_ hx6_0)); (try (have hf6_0 := frz_at_ hq_ hf6_0)); (try (have hx24_0 := cell_at_ hq_ hx24_0)); (try (have hf24_0 := frz_at_ hq_ hf24_0)); (try (have hx30_0 := cell_at_ hq_ hx30_0)); (try (have hf30_0 := frz_at_ hq_ hf30_0)); replace HO_3 := A_ (Kd.R_at hq_ HO_3.out); replace HB := A_ (below_at hq_ HB.out); clear hq_; (try (have HP25 := Kd.R_putg HO_3.out (x4_1 : Int) (wrap64 (x5_2 + 1)))))); refine store_event (t := 3) (p := 45) (v := ?vo_w26) (w1 := (wr.setCell ⟨go6, (x4_1 : Int).toNat, none⟩ (.int .i64 (wrap64 (x5_2 + 1))))) ?hg ?ho ?hn ?hr ?_; (case ho => rfl); (case hg => rfl); (case hn => rfl); (case hr => first | (go_simp; done) | (go_simp; rfl)); intro w26 hw; have hg : wr.grownBy w26 (some go6) := (by rw [hw]; exact HP25.2); have hp_ : Kd.R (Kd.int .i64) 3 w26 w.heap.size (fun _ => True) (.slice (some ⟨go6, 0, none⟩) x3_1.length co6) y592 := (by rw [hw, Ny592.out]; exact HP25.1); clear HP25; replace HO_3 := A_ (hp_); replace HB := A_ ((by rw [hw]; exact below_set (HB.out) GB6.out : Below w.heap.size w w26)); clear hg hw hp_)); try go_wp2_with (first | ((with_reducible refine gate_store (t := 3) (p := 45) rfl ?_); (try (rw [drewN_self wr]; generalize hq_ : World.drewN wr _ = wr; (try (have hx6_0 := cell_at_ hq_ hx6_0)); (try (have hf6_0 := frz_at_ hq_ hf6_0)); (try (have hx24_0 := cell_at_ hq_ hx24_0)); (try (have hf24_0 := frz_at_ hq_ hf24_0)); (try (have hx30_0 := cell_at_ hq_ hx30_0)); (try (have hf30_0 := frz_at_ hq_ hf30_0)); replace HO_3 := A_ (Kd.R_at hq_ HO_3.out); replace HB := A_ (below_at hq_ HB.out); clear hq_; (try (have HP25 := Kd.R_putg HO_3.out (x4_1 : Int) (wrap64 (x5_2 + 1)))))); refine store_event (t := 3) (p := 45) (v := ?vo_w26) (w1 := (wr.setCell ⟨go6, (x4_1 : Int).toNat, none⟩ (.int .i64 (wrap64 (x5_2 + 1))))) ?hg ?ho ?hn ?hr ?_; (case ho => rfl); (case hg => rfl); (case hn => rfl); (case hr => go_simp; done); intro w26 hw; have hg : wr.grownBy w26 (some go6) := (by rw [hw]; exact HP25.2); have hp_ : Kd.R (Kd.int .i64) 3 w26 w.heap.size (fun _ => True) (.slice (some ⟨go6, 0, none⟩) x3_1.length co6) y592 := (by rw [hw, Ny592.out]; exact HP25.1); clear HP25; replace HO_3 := A_ (hp_); replace HB := A_ ((by rw [hw]; exact below_set (HB.out) GB6.out : Below w.heap.size w w26)); clear hg hw hp_)))
                   (try simp only [← hl3_1])
                   (try subst hji2)
                   (try subst hji12)
                   go_roundg k2
                   case measure => have := HK1.out; have := HK2.out; omega
                   case rel => exact ⟨(y592), (wrap64 (x4_1 + 1)), (by rfl), H', ⟨by have := HK1.out; have := HK2.out; omega⟩, ⟨by (try simp only [hl3_1]); first | exact HO_3.out | (rw [Ny592.out]; exact (Kd.R_putg (Kd.R_drewN HO_3.out _) (x4_1 : Int) (wrap64 (x5_2 + 1))).1)⟩, ⟨HB.out⟩⟩
                  rw [if_neg c23] at H
                  cases H
                 rw [if_neg c22] at H
                 cases H
                rw [if_neg c21] at H
                have c21b0 : ((rd l0 x5_2) == (rd l0 (ji12))) = false := beq_eq_false_iff_ne.mpr c21
                have c21b1 : ((rd l0 x5_2) != (rd l0 (ji12))) = true := bne_iff_ne.mpr c21
                by_cases c27 : x5_2 < (x3_1.length : Int)
                ·rw [if_pos c27] at H; have c27b0 := decide_eq_true c27; clear c27
                 have H' := A_ H
                 clear H
                 have p590 : 0 ≤ (x5_2 : Int) := od_ (by assumption)
                 have q590 : x5_2 < (l0.length : Int) := od_ (by assumption)
                 obtain ⟨ad590, e590, hx590_0⟩ := Kd.at_int HR0.out x5_2 p590 q590
                 cases e590
                 replace hx590_0 := (HB.out.cell (World.block_lt_of_cell? w _ hx590_0)).trans hx590_0; replace p590 := eq_true p590; replace q590 := eq_true q590
                 have p591 : 0 ≤ ((ji12) : Int) := od_ (by assumption)
                 have q591 : (ji12) < (l0.length : Int) := od_ (by assumption)
                 obtain ⟨ad591, e591, hx591_0⟩ := Kd.at_int HR0.out (ji12) p591 q591; obtain rfl : ad590 = ad591 := (by injection e591); replace hx591_0 := (HB.out.cell (World.block_lt_of_cell? w _ hx591_0)).trans hx591_0; replace p591 := eq_true p591; replace q591 := eq_true q591
                 have p593 : 0 ≤ (x5_2 : Int) := od_ (by assumption)
                 have q593 : x5_2 < (x3_1.length : Int) := od_ (by assumption)
                 obtain ⟨ad593, e593, hx593_0⟩ := Kd.at_int (Kd.R_reads' HO_3.out).2.2 x5_2 p593 q593; obtain rfl : (⟨go6, 0, none⟩ : Addr) = ad593 := (by injection e593)
                 (first | simp only [add_plain] at hx593_0 | simp only [add_at] at hx593_0 | simp only [Addr.add, Nat.zero_add] at hx593_0 | skip)
                 replace p593 := eq_true p593; replace q593 := eq_true q593
                 go_wp2
                 repeat (go_quiet (fail); try go_wp2)
                 (try subst hji2)
                 (try subst hji12)
                 go_roundg k2
                 case measure => have := HK1.out; have := HK2.out; omega
                 case rel => exact ⟨(rd x3_1 x5_2), (by rfl), H', ⟨by have := HK1.out; have := HK2.out; omega⟩, ⟨by (try simp only [hl3_1]); (with_reducible repeat (first | apply Kd.R_alloc | apply Kd.R_drewN | apply Kd.R_drew)); exact HO_3.out⟩, ⟨by repeat (first | (with_reducible first | exact HB.out | apply below_alloc | apply pw_below_drewN | apply below_drew1) | exact HB.out)⟩⟩
                rw [if_neg c27] at H
                cases H
               rw [if_neg c20] at H
               cases H
              rw [if_neg c19] at H
              cases H
             rw [if_neg c17] at H
             cases H
            rw [if_neg c16] at H
            cases H
           rw [if_neg c15] at H
           have c15b0 : decide (0 ≤ x5_2) = false := decide_eq_false c15
           clear c15
           by_cases c28 : 0 ≤ x4_1
           ·rw [if_pos c28] at H; have c28b0 := decide_eq_true c28; clear c28
            by_cases c29 : x4_1 < (x3_1.length : Int)
            ·rw [if_pos c29] at H; have c29b0 := decide_eq_true c29; clear c29; obtain ⟨y594, hy594⟩ := ex_ ((x3_1.set (x4_1 : Int).toNat (wrap64 (x5_2 + 1))) : List Int); replace H : (impl_borders.l0 k2 l0 y594 (wrap64 (x4_1 + 1))) = some r := by (rw [hy594]; with_reducible exact H)
             have Ny594 := A_ hy594; clear hy594
             have H' := A_ H
             clear H
             have p30 : 0 ≤ (x4_1 : Int) := od_ (by assumption)
             have q30 : (x4_1 : Int) < ((x3_1.length : Int) : Int) := od_ (by assumption)
             obtain ⟨hx30_0, hf30_0⟩ := Kd.R_celln 0 HO_3.out (x4_1 : Int) p30 q30; replace p30 := eq_true p30; replace q30 := eq_true q30; have HP31 := Kd.R_putg HO_3.out (x4_1 : Int) (wrap64 (x5_2 + 1))
             go_wp2_with (first | ((with_reducible refine gate_store (t := 3) (p := 45) rfl ?_); (try (rw [drewN_self wr]; generalize hq_ : World.drewN wr _ = wr; (try (have hx6_0 := cell_at_ hq_ hx6_0)); (try (have hf6_0 := frz_at_ hq_ hf6_0)); (try (have hx24_0 := cell_at_ hq_ hx24_0)); (try (have hf24_0 := frz_at_ hq_ hf24_0)); (try (have hx30_0 := cell_at_ hq_ hx30_0)); (try (have hf30_0 := frz_at_ hq_ hf30_0)); replace HO_3 := A_ (Kd.R_at hq_ HO_3.out); replace HB := A_ (below_at hq_ HB.out); clear hq_; (try (have HP31 := Kd.R_putg HO_3.out (x4_1 : Int) (wrap64 (x5_2 + 1)))))); refine store_event (t := 3) (p := 45) (v := ?vo_w32) (w1 := (wr.setCell ⟨go6, (x4_1 : Int).toNat, none⟩ (.int .i64 (wrap64 (x5_2 + 1))))) ?hg ?ho ?hn ?hr ?_; (case ho => rfl); (case hg => rfl); (case hn => rfl); (case hr => first | (go_simp; done) | (go_simp; rfl)); intro w32 hw; have hg : wr.grownBy w32 (some go6) := (by rw [hw]; exact HP31.2); have hp_ : Kd.R (Kd.int .i64) 3 w32 w.heap.size (fun _ => True) (.slice (some ⟨go6, 0, none⟩) x3_1.length co6) y594 := (by rw [hw, Ny594.out]; exact HP31.1); clear HP31; replace HO_3 := A_ (hp_); replace HB := A_ ((by rw [hw]; exact below_set (HB.out) GB6.out : Below w.heap.size w w32)); clear hg hw hp_))
             repeat (go_quiet (first | ((with_reducible refine gate_store (t := 3) (p := 45) rfl ?_); (try (rw [drewN_self wr]; generalize hq_ : World.drewN wr _ = wr; (try (have hx6_0 := cell_at_ hq_ hx6_0)); (try (have hf6_0 := frz_at_ hq_ hf6_0)); (try (have hx24_0 := cell_at_ hq_ hx24_0)); (try (have hf24_0 := frz_at_ hq_ hf24_0)); (try (have hx30_0 := cell_at_ hq_ hx30_0)); (try (have hf30_0 := frz_at_ hq_ hf30_0)); replace HO_3 := A_ (Kd.R_at hq_ HO_3.out); replace HB := A_ (below_at hq_ HB.out); clear hq_; (try (have HP31 := Kd.R_putg HO_3.out (x4_1 : Int) (wrap64 (x5_2 + 1)))))); refine store_event (t := 3) (p := 45) (v := ?vo_w32) (w1 := (wr.setCell ⟨go6, (x4_1 : Int).toNat, none⟩ (.int .i64 (wrap64 (x5_2 + 1))))) ?hg ?ho ?hn ?hr ?_; (case ho => rfl); (case hg => rfl); (case hn => rfl); (case hr => first | (go_simp; done) | (go_simp; rfl)); intro w32 hw; have hg : wr.grownBy w32 (some go6) := (by rw [hw]; exact HP31.2); have hp_ : Kd.R (Kd.int .i64) 3 w32 w.heap.size (fun _ => True) (.slice (some ⟨go6, 0, none⟩) x3_1.length co6) y594 := (by rw [hw, Ny594.out]; exact HP31.1); clear HP31; replace HO_3 := A_ (hp_); replace HB := A_ ((by rw [hw]; exact below_set (HB.out) GB6.out : Below w.heap.size w w32)); clear hg hw hp_)); try go_wp2_with (first | ((with_reducible refine gate_store (t := 3) (p := 45) rfl ?_); (try (rw [drewN_self wr]; generalize hq_ : World.drewN wr _ = wr; (try (have hx6_0 := cell_at_ hq_ hx6_0)); (try (have hf6_0 := frz_at_ hq_ hf6_0)); (try (have hx24_0 := cell_at_ hq_ hx24_0)); (try (have hf24_0 := frz_at_ hq_ hf24_0)); (try (have hx30_0 := cell_at_ hq_ hx30_0)); (try (have hf30_0 := frz_at_ hq_ hf30_0)); replace HO_3 := A_ (Kd.R_at hq_ HO_3.out); replace HB := A_ (below_at hq_ HB.out); clear hq_; (try (have HP31 := Kd.R_putg HO_3.out (x4_1 : Int) (wrap64 (x5_2 + 1)))))); refine store_event (t := 3) (p := 45) (v := ?vo_w32) (w1 := (wr.setCell ⟨go6, (x4_1 : Int).toNat, none⟩ (.int .i64 (wrap64 (x5_2 + 1))))) ?hg ?ho ?hn ?hr ?_; (case ho => rfl); (case hg => rfl); (case hn => rfl); (case hr => go_simp; done); intro w32 hw; have hg : wr.grownBy w32 (some go6) := (by rw [hw]; exact HP31.2); have hp_ : Kd.R (Kd.int .i64) 3 w32 w.heap.size (fun _ => True) (.slice (some ⟨go6, 0, none⟩) x3_1.length co6) y594 := (by rw [hw, Ny594.out]; exact HP31.1); clear HP31; replace HO_3 := A_ (hp_); replace HB := A_ ((by rw [hw]; exact below_set (HB.out) GB6.out : Below w.heap.size w w32)); clear hg hw hp_)))
             (try simp only [← hl3_1])
             (try subst hji2)
             (try subst hji12)
             go_roundg k2
             case measure => have := HK1.out; have := HK2.out; omega
             case rel => exact ⟨(y594), (wrap64 (x4_1 + 1)), (by rfl), H', ⟨by have := HK1.out; have := HK2.out; omega⟩, ⟨by (try simp only [hl3_1]); first | exact HO_3.out | (rw [Ny594.out]; exact (Kd.R_putg (Kd.R_drewN HO_3.out _) (x4_1 : Int) (wrap64 (x5_2 + 1))).1)⟩, ⟨HB.out⟩⟩
            rw [if_neg c29] at H
            cases H
           rw [if_neg c28] at H
           cases H
        rw [if_neg c14] at H
        cases H
       rw [if_neg c13] at H
       cases H
      rw [if_neg c11] at H; have c11b0 := decide_eq_false c11; clear c11; obtain rfl := Option.some.inj H
      go_wp2
      repeat (go_quiet (fail); try go_wp2)
      go_ret
      exact ⟨_, by first | rfl | (simp [errW_none, errW_some] <;> rfl) | (simp only [← hji2]; first | rfl | (simp [errW_none, errW_some] <;> rfl)) | (simp [*, errW_none, errW_some] <;> rfl), HO_3.out, HB.out⟩
   rw [if_neg c5] at H
   cases H
  rw [if_neg c4] at H
  cases H
 rw [if_neg c3] at H
 cases H

def slices_Reverse_int_int.l0 : Nat → List Int → Int → Int → Option (List Int)
 | 0, _, _, _ => none
 | k + 1, x0, x2, x3 => if x2 < x3 then (if 0 ≤ x3 then (if x3 < (x0.length : Int) then (if 0 ≤ x2 then (if x2 < (x0.length : Int) then (slices_Reverse_int_int.l0 k ((x0.set (x2 : Int).toNat (rd x0 x3)).set (x3 : Int).toNat (rd x0 x2)) (wrap64 (x2 + 1)) (wrap64 (x3 - 1))) else (none)) else (none)) else (none)) else (none)) else (some x0)
def slices_Reverse_int_int.f (k : Nat) (l0 : List Int) : Option (List Int) := slices_Reverse_int_int.l0 k l0 0 (wrap64 ((l0.length : Int) - 1))
def slices_Reverse_int_int.T3 : Bool × List (List Nat × List Nat) := (true, [([], []), ([], []), ([], []), ([], []), ([], []), ([], []), ([4, 5], [4, 5]), ([6], [6]), ([], []), ([], []), ([8, 9], [8, 9]), ([10], [10]), ([0, 1, 0, 1, 4, 5, 6, 7, 11], [0, 1]), ([12, 7, 0, 1, 4, 5, 6, 7, 11], [7, 12]), ([2, 3, 0, 1, 2, 3, 4, 5, 6, 7, 8, 9, 10, 11, 12, 13], [2, 3]), ([14, 11, 13, 0, 1, 2, 3, 4, 5, 6, 7, 8, 9, 10, 11, 12, 13], [11, 14])])
def slices_Reverse_int_int.B3 : List Nat := [0, 0, 0, 0, 0, 0, 48, 112, 0, 0, 768, 1792, 4083, 8179, 16383, 32767]
theorem slices_Reverse_int_int.tab3 : rtab .any (opsOf Try.f35 3) = slices_Reverse_int_int.T3 := by kernel_rfl
theorem slices_Reverse_int_int.bits3 : waitsOk slices_Reverse_int_int.T3.2 slices_Reverse_int_int.B3 = true := by kernel_rfl
theorem slices_Reverse_int_int.calls (k : Nat) (P0_ : Nat → Prop) (u9000_ : Value) (l0 : List Int) (r : List Int) (w0 w : World) (hB : Below w0.heap.size w0 w) (ho0 : Kd.R (Kd.int .i64) 3 w w0.heap.size P0_ u9000_ l0) (h : slices_Reverse_int_int.f k l0 = some r) :
  Calls Try.prog 35 #[u9000_] w fun e w' => e = .returned (.tuple #[]) ∧ Kd.R (Kd.int .i64) 3 w' w0.heap.size (fun k_ => (P0_ k_ ∨ w.heap.size ≤ k_)) u9000_ r ∧ Below w0.heap.size w0 w' ∧ Kept w w' (fun k_ => P0_ k_) := by
 have HO0 := A_ (show Kd.R (Kd.int .i64) 3 w w0.heap.size (fun k_ => (P0_ k_ ∨ w.heap.size ≤ k_)) u9000_ l0 from Kd.R_mono ho0 (fun k_ hk => (.inl hk))); have HK := A_ (Kept.refl w (fun k_ => P0_ k_)); have HW0 := A_ hB.size; have HB := A_ hB; clear hB; unfold slices_Reverse_int_int.f at h; have H := h; clear h
 have H' := A_ H
 clear H; obtain ⟨Ao2, co2, eo2⟩ := Kd.R_slice HO0.out; subst eo2; go_enter Try.func35, Try.ntmps35
 go_wp2
 go_loopg [2, 3] k (fun kq v2 v3 w' => ∃ (x0_1 : List Int) (x2_1 : Int) (x3_1 : Int), v2 = .int .i64 x2_1 ∧ v3 = .int .i64 x3_1 ∧ Aside0 (slices_Reverse_int_int.l0 kq x0_1 x2_1 x3_1 = some r) ∧ Aside0 (kq ≤ k) ∧ Aside0 (Kd.R (Kd.int .i64) 3 w' w0.heap.size (fun k_ => (P0_ k_ ∨ w.heap.size ≤ k_)) (.slice Ao2 l0.length co2) x0_1) ∧ Aside0 (Kept w w' (fun k_ => P0_ k_)) ∧ Aside0 (Below w0.heap.size w0 w'))
 case atStart => exact ⟨(l0), (0), (wrap64 ((l0.length : Int) - 1)), (by rfl), (by rfl), H', ⟨Nat.le_refl _⟩, ⟨HO0.out⟩, ⟨HK.out⟩, ⟨HB.out⟩⟩
 case round =>
  clear H'; obtain ⟨x0_1, x2_1, x3_1, rfl, rfl, HA, HK1, HO_0, HK, HB⟩ := hrel; have hl0_1 := (Kd.R_reads' HO_0.out).1; rw [hl0_1] at HO_0
  (try simp only [hl0_1])
  cases gk with
  | zero => exact absurd HA.out (by simp [slices_Reverse_int_int.l0])
  | succ k1 =>
   have H := HA.out; clear HA; simp only [slices_Reverse_int_int.l0] at H
   by_cases c3 : x2_1 < x3_1
   ·rw [if_pos c3] at H; have c3b0 := decide_eq_true c3; clear c3
    by_cases c4 : 0 ≤ x3_1
    ·rw [if_pos c4] at H; have c4b0 := decide_eq_true c4; clear c4
     by_cases c5 : x3_1 < (x0_1.length : Int)
     ·rw [if_pos c5] at H; have c5b0 := decide_eq_true c5; clear c5
      by_cases c6 : 0 ≤ x2_1
      ·rw [if_pos c6] at H; have c6b0 := decide_eq_true c6; clear c6
       by_cases c7 : x2_1 < (x0_1.length : Int)
       ·rw [if_pos c7] at H; have c7b0 := decide_eq_true c7; clear c7; obtain ⟨y597, hy597⟩ := ex_ ((x0_1.set (x2_1 : Int).toNat (rd x0_1 x3_1)) : List Int); replace H : (slices_Reverse_int_int.l0 k1 (y597.set (x3_1 : Int).toNat (rd x0_1 x2_1)) (wrap64 (x2_1 + 1)) (wrap64 (x3_1 - 1))) = some r := by (rw [hy597]; with_reducible exact H)
        have Ny597 := A_ hy597; clear hy597; obtain ⟨y598, hy598⟩ := ex_ ((y597.set (x3_1 : Int).toNat (rd x0_1 x2_1)) : List Int); replace H : (slices_Reverse_int_int.l0 k1 y598 (wrap64 (x2_1 + 1)) (wrap64 (x3_1 - 1))) = some r := by (rw [hy598]; with_reducible exact H)
        have Ny598 := A_ hy598; clear hy598
        have H' := A_ H
        clear H
        try go_wp2
        have n0_ := A_ (Kd.R_drew HO_0.out); have n1_ := A_ (Kept.drew HK.out); have n2_ := A_ (below_drew1 HB.out); clear HO_0 HK HB; have HO_0 := n0_; have HK := n1_; have HB := n2_; clear n0_ n1_ n2_
        have p595 : 0 ≤ (x3_1 : Int) := od_ (by assumption)
        have q595 : x3_1 < (x0_1.length : Int) := od_ (by assumption)
        obtain ⟨ad595, e595, hx595_0⟩ := Kd.at_int (Kd.R_reads' HO_0.out).2.2 x3_1 p595 q595
        cases e595
        replace p595 := eq_true p595; replace q595 := eq_true q595
        have p596 : 0 ≤ (x2_1 : Int) := od_ (by assumption)
        have q596 : x2_1 < (x0_1.length : Int) := od_ (by assumption)
        obtain ⟨ad596, e596, hx596_0⟩ := Kd.at_int (Kd.R_reads' HO_0.out).2.2 x2_1 p596 q596; obtain rfl : ad595 = ad596 := (by injection e596); replace p596 := eq_true p596; replace q596 := eq_true q596
        have p8 : 0 ≤ (x2_1 : Int) := od_ (by assumption)
        have q8 : (x2_1 : Int) < ((x0_1.length : Int) : Int) := od_ (by assumption)
        obtain ⟨go8, co8, eo8, gb8, gl8, cl8, HG8⟩ := Kd.R_form HO_0.out (by omega)
        (first | cases eo8 | (injection eo8 with ea_ en_ ec_; (first | subst ea_ | (injection ea_ with ea_; subst ea_)); subst ec_; clear en_))
        have GB8 := A_ gb8; have GG8 := A_ HG8; clear gb8 gl8 HG8; have HMgo8 := A_ (show (P0_ go8 ∨ w.heap.size ≤ go8) from (HO_0.out.1 _ rfl))
        (first | simp only [add_plain] at hx595_0 | skip)
        (first | simp only [add_plain] at hx596_0 | skip)
        obtain ⟨hx8_0, hf8_0⟩ := Kd.R_celln 0 HO_0.out (x2_1 : Int) p8 q8; replace p8 := eq_true p8; replace q8 := eq_true q8; have HP11 := Kd.R_putn HO_0.out (x2_1 : Int) (rd x0_1 x3_1); rw [← Ny597.out] at HP11; have HQ11 := A_ HP11; clear HP11
        have p9 : 0 ≤ (x3_1 : Int) := od_ (by assumption)
        have q9 : (x3_1 : Int) < ((x0_1.length : Int) : Int) := od_ (by assumption)
        obtain ⟨hx9_0, hf9_0⟩ := Kd.R_celln 0 HQ11.out (x3_1 : Int) p9 q9; replace p9 := eq_true p9; replace q9 := eq_true q9; have HP12 := Kd.R_putn HQ11.out (x3_1 : Int) (rd x0_1 x2_1); rw [← Ny598.out] at HP12; have HQ12 := A_ HP12; clear HP12; refine start_ (n := 16) (S := fun w' => w'.cell? ⟨go8, (x3_1).toNat, none⟩ = some (.int .i64 (rd x0_1 x3_1)) ∧ w'.cell? ⟨go8, (x2_1).toNat, none⟩ = some (.int .i64 (rd x0_1 x2_1))) (ds := [13, 15]) (mk_ 16 0) (by kernel_rfl) rfl rfl ⟨hx595_0, hx596_0⟩ (fun hHeld => ?_); refine with_tabW slices_Reverse_int_int.tab3 slices_Reverse_int_int.bits3 (fun HT_ HW_ => ?_)
        generalize wr.drew = w10 at HO_0 HK HB GG8 HQ11 HQ12 hf8_0 hf9_0 hx595_0 hx596_0 hx8_0 hx9_0 hHeld ⊢
        refine pv_ 0 14 (mk_ 16 1) rfl rfl HT_.out (by kernel_rfl) (fun _ _ _ h => h) (by rfl) (by intro w'; go_simp; with_reducible rfl) (by simp only [Act.put, mD, mE, mF, i64_w, i32_w]; rfl) ?_; refine pv_ 1 15 (mk_ 16 3) rfl rfl HT_.out (by kernel_rfl) (fun _ _ _ h => h) (by rfl) (by intro w'; go_simp; with_reducible rfl) (by simp only [Act.put, mD, mE, mF, i64_w, i32_w]; rfl) ?_; refine pv_ 2 16 (mk_ 16 7) rfl rfl HT_.out (by kernel_rfl) (fun _ _ _ h => h) (by rfl) (by intro w'; go_simp; with_reducible rfl) (by simp only [Act.put, mD, mE, mF, i64_w, i32_w]; rfl) ?_; refine pv_ 3 17 (mk_ 16 15) rfl rfl HT_.out (by kernel_rfl) (fun _ _ _ h => h) (by rfl) (by intro w'; go_simp; with_reducible rfl) (by simp only [Act.put, mD, mE, mF, i64_w, i32_w]; rfl) ?_; refine pv_ 4 18 (mk_ 16 31) rfl rfl HT_.out (by kernel_rfl) (fun _ _ _ h => h) (by rfl) (by intro w'; go_simp; with_reducible rfl) (by simp only [Act.put, mD, mE, mF, i64_w, i32_w]; rfl) ?_; refine pv_ 5 19 (mk_ 16 63) rfl rfl HT_.out (by kernel_rfl) (fun _ _ _ h => h) (by rfl) (by intro w'; go_simp; with_reducible rfl) (by simp only [Act.put, mD, mE, mF, i64_w, i32_w]; rfl) ?_; refine pv_ 6 20 (mk_ 16 127) rfl rfl HT_.out (by kernel_rfl) (fun _ _ _ h => h) (by rfl) (by intro w'; go_simp; with_reducible rfl) (by simp only [Act.put, mD, mE, mF, i64_w, i32_w]; rfl) ?_; refine pv_ 8 22 (mk_ 16 383) rfl rfl HT_.out (by kernel_rfl) (fun _ _ _ h => h) (by rfl) (by intro w'; go_simp; with_reducible rfl) (by simp only [Act.put, mD, mE, mF, i64_w, i32_w]; rfl) ?_; refine pv_ 9 23 (mk_ 16 895) rfl rfl HT_.out (by kernel_rfl) (fun _ _ _ h => h) (by rfl) (by intro w'; go_simp; with_reducible rfl) (by simp only [Act.put, mD, mE, mF, i64_w, i32_w]; rfl) ?_; refine pv_ 10 24 (mk_ 16 1919) rfl rfl HT_.out (by kernel_rfl) (fun _ _ _ h => h) (by rfl) (by intro w'; go_simp; with_reducible rfl) (by simp only [Act.put, mD, mE, mF, i64_w, i32_w]; rfl) ?_; refine take_ (i := 7) (N := some 21) (mk_ 16 2047) rfl rfl (take_ofW HT_.out HW_.out (by kernel_rfl)) (fun _ _ _ h => h) (Or.inl ⟨by rfl, by rintro w' ⟨s0, s1⟩; go_simp; with_reducible rfl⟩) hHeld (by simp only [Act.put, mD, mE, mF, i64_w, i32_w]; rfl) ?_; refine take_ (i := 11) (N := some 25) (mk_ 16 4095) rfl rfl (take_ofW HT_.out HW_.out (by kernel_rfl)) (fun _ _ _ h => h) (Or.inl ⟨by rfl, by rintro w' ⟨s0, s1⟩; go_simp; with_reducible rfl⟩) hHeld (by simp only [Act.put, mD, mE, mF, i64_w, i32_w]; rfl) ?_; refine pv_ 12 26 (mk_ 16 8191) rfl rfl HT_.out (by kernel_rfl) (fun _ _ _ h => h) (by rfl) (by intro w'; go_simp; with_reducible rfl) (by simp only [Act.put, mD, mE, mF, i64_w, i32_w]; rfl) ?_; refine last_ (i := 13) (N := none) (mk_ 16 16383) rfl rfl (one_of HT_.out (by kernel_rfl)) (by decide) (fun K hK => ?_); refine skip_ (w1 := ?_) (by rfl) rfl ?_ ?_; rotate_left
        ·go_simp
         rfl
        refine hK.out _ _ ?_; clear hK K; refine pv_ 14 27 (mk_ 16 32767) rfl rfl HT_.out (by kernel_rfl) (fun _ _ _ h => h) (by rfl) (by intro w'; go_simp; with_reducible rfl) (by simp only [Act.put, mD, mE, mF, i64_w, i32_w]; rfl) ?_; refine last_ (i := 15) (N := none) (mk_ 16 65535) rfl rfl (one_of HT_.out (by kernel_rfl)) (by decide) (fun K hK => ?_); refine skip_ (w1 := ?_) (by rfl) rfl ?_ ?_; rotate_left
        ·go_simp
         rfl
        refine hK.out _ _ ?_; clear hK K; refine done_ (done_of HT_.out (by kernel_rfl)) ?_
        try go_wp2
        (try simp only [← hl0_1])
        go_roundg k1
        case measure => have := HK1.out; omega
        case rel => exact ⟨(y598), (wrap64 (x2_1 + 1)), (wrap64 (x3_1 - 1)), (by rfl), (by rfl), H', ⟨by have := HK1.out; omega⟩, ⟨by (try simp only [hl0_1]); exact HQ12.out⟩, ⟨by repeat (first | (with_reducible first | exact HK.out | apply Kept.alloc | apply Kept.drewN | apply Kept.drew | refine Kept.setCell ?_ HMgo8.out _ | refine Kept.setCell ?_ HMgo8.out _) | exact HK.out)⟩, ⟨by repeat (first | (with_reducible first | exact HB.out | apply below_alloc | apply pw_below_drewN | apply below_drew1 | refine below_set ?_ GB8.out | refine below_set ?_ GB8.out) | exact HB.out)⟩⟩
       rw [if_neg c7] at H
       cases H
      rw [if_neg c6] at H
      cases H
     rw [if_neg c5] at H
     cases H
    rw [if_neg c4] at H
    cases H
   rw [if_neg c3] at H; have c3b0 := decide_eq_false c3; clear c3; obtain rfl := Option.some.inj H
   go_wp2
   first | go_end0 | ((try simp only [Exit.inBlock, Exit.then]); refine bodyPost_ret (results_none rfl _ _ _) rfl ?_)
   exact ⟨by rfl, (by first | exact HO_0.out | (simp only [hl0_1]; exact HO_0.out)), HB.out, HK.out⟩

def impl_BordersOf.l0 : Nat → List Int → List Int → Int → Option (List Int)
 | 0, _, _, _ => none
 | k + 1, x3, x4, x5 => if x5 ≥ 0 then (if x3.length < 17592186044416 then (if 0 ≤ x5 then (if x5 < (x4.length : Int) then (impl_BordersOf.l0 k (x3 ++ [x5]) x4 (rd x4 x5)) else (none)) else (none)) else (none)) else ((slices_Reverse_int_int.f k x3).bind fun t610 => (some t610))
def impl_BordersOf.f (k : Nat) (l0 : List Int) : Option (List Int) := (impl_borders.f k l0).bind fun t602 => (if 0 ≤ (l0.length : Int) then (if (l0.length : Int) < (t602.length : Int) then (impl_BordersOf.l0 k (([] : List Int)) t602 (rd t602 (l0.length : Int))) else (none)) else (none))
theorem impl_BordersOf.calls (k : Nat) (A0 : Option Addr) (c0 : Nat) (l0 : List Int) (r : List Int) (w : World) (hr0 : Kd.C (Kd.int .i64) w A0 l0.length l0) (hc0 : l0.length ≤ c0) (h : impl_BordersOf.f k l0 = some r) :
  Calls Try.prog 6 #[.slice A0 l0.length c0] w fun e w' => ∃ v0_ : Value, e = .returned (v0_) ∧ Kd.R (Kd.int .i64) 3 w' w.heap.size (fun _ => True) v0_ r ∧ Below w.heap.size w w' := by
 have HR0 := A_ hr0; have HC0 := A_ hc0; clear hr0 hc0; have HB := A_ (Below.refl w.heap.size w); unfold impl_BordersOf.f at h; have H := h; clear h; obtain ⟨y599, hy599⟩ := ex_ ((([] : List Int)) : List Int); replace H : ((impl_borders.f k l0).bind fun t602 => (if 0 ≤ (l0.length : Int) then (if (l0.length : Int) < (t602.length : Int) then (impl_BordersOf.l0 k y599 t602 (rd t602 (l0.length : Int))) else (none)) else (none))) = some r := by (rw [hy599]; with_reducible exact H)
 have Ny599 := A_ hy599; clear hy599; replace H := bA_ H; obtain ⟨t602, A2, H⟩ := H
 by_cases c3 : 0 ≤ (l0.length : Int)
 ·rw [if_pos c3] at H; have c3b0 := decide_eq_true c3
  have c3b1 : decide (0 ≤ l0.length) = true := decide_eq_true (by omega)
  clear c3
  by_cases c4 : (l0.length : Int) < (t602.length : Int)
  ·rw [if_pos c4] at H; have c4b0 := decide_eq_true c4
   have c4b1 : decide (l0.length < t602.length) = true := decide_eq_true (Int.ofNat_lt.mp c4)
   clear c4
   have H' := A_ H
   clear H; go_enter Try.func6, Try.ntmps6
   go_wp2_with (first | ((with_reducible refine gd_ 6 rfl ?_); refine RL_ 6 3 [] [] rfl rfl (by go_simp; done) rfl rfl ?_; rintro v600 w5 ho6 hb - -; (rw [← Ny599.out] at ho6); have HO601 := A_ (Kd.R_lower ho6 (below_size HB.out)); replace HB := bs_ HB hb; clear hb ho6) | ((with_reducible refine gc_ 34 rfl ?_); refine cL_ E34 8 rfl rfl rfl (impl_borders.calls k _ _ l0 t602 _ (Kd.C_below HR0.out HB.out) HC0.out A2.out) (by simp only [mA, mB, mC]; rfl) ?_; rintro e w7 ⟨v603, rfl, ho0, hb⟩; refine ⟨_, rfl, ?_⟩; have HO604 := A_ (Kd.R_lower (Kd.R_new' ho0 (Kd.R_lt HO601.out)) (below_size HB.out)); replace HO601 := A_ (Kd.R_elder' HO601.out (Kd.R_base ho0) hb); replace HB := bs_ HB hb; clear hb ho0; obtain ⟨Ao8, co8, eo8⟩ := Kd.R_slice HO604.out; subst eo8; have p605 : 0 ≤ ((l0.length : Int) : Int) := od_ (by assumption); have q605 : (l0.length : Int) < (t602.length : Int) := od_ (by assumption); obtain ⟨ad605, e605, hx605_0⟩ := Kd.at_int (Kd.R_reads' HO604.out).2.2 (l0.length : Int) p605 q605; cases e605; (try simp only [Go.IntWalk.toNatUp] at hx605_0); replace p605 := eq_true p605; replace q605 := eq_true q605))
   go_loopg [3, 5] k (fun kq v3 v5 w' => ∃ (x3_1 : List Int) (x5_1 : Int), v5 = .int .i64 x5_1 ∧ Aside0 (impl_BordersOf.l0 kq x3_1 t602 x5_1 = some r) ∧ Aside0 (kq ≤ k) ∧ Aside0 (Kd.R (Kd.int .i64) 3 w' w.heap.size (fun k_ => some k_ ≠ ((.slice (some ad605) t602.length co8) : Value).ownBlock) v3 x3_1) ∧ Aside0 (Kd.R (Kd.int .i64) 3 w' w.heap.size (fun k_ => some k_ ≠ (v3 : Value).ownBlock) (.slice (some ad605) t602.length co8) t602) ∧ Aside0 (Below w.heap.size w w'))
   case atStart => exact ⟨(y599), (rd t602 (l0.length : Int)), (by rfl), H', ⟨Nat.le_refl _⟩, ⟨by exact Kd.R_mono HO601.out (fun _ hk => hk.2)⟩, ⟨by exact Kd.R_mono HO604.out (fun _ hk => hk.2)⟩, ⟨HB.out⟩⟩
   case round =>
    clear H'
    try clear c3b0
    try clear c3b1
    try clear c4b0
    try clear c4b1
    try clear hx605_0
    try clear p605
    try clear q605
    obtain ⟨x3_1, x5_1, rfl, HA, HK1, HO_3, HO_4, HB⟩ := hrel
    cases gk with
    | zero => exact absurd HA.out (by simp [impl_BordersOf.l0])
    | succ k1 =>
     have H := HA.out; clear HA; simp only [impl_BordersOf.l0] at H
     by_cases c9 : x5_1 ≥ 0
     ·rw [if_pos c9] at H
      have c9b0 : decide (0 ≤ x5_1) = true := decide_eq_true c9
      clear c9
      by_cases c10 : x3_1.length < 17592186044416
      ·rw [if_pos c10] at H; have LMc10 := A_ c10; clear c10; obtain ⟨y606, hy606⟩ := ex_ ((x3_1 ++ [x5_1]) : List Int); replace H : (if 0 ≤ x5_1 then (if x5_1 < (t602.length : Int) then (impl_BordersOf.l0 k1 y606 t602 (rd t602 x5_1)) else (none)) else (none)) = some r := by (rw [hy606]; with_reducible exact H)
       have Ny606 := A_ hy606; clear hy606
       by_cases c11 : 0 ≤ x5_1
       ·rw [if_pos c11] at H; have c11b0 := decide_eq_true c11; clear c11
        by_cases c12 : x5_1 < (t602.length : Int)
        ·rw [if_pos c12] at H; have c12b0 := decide_eq_true c12; clear c12
         have H' := A_ H
         clear H
         go_wp2_with (first | ((with_reducible refine gate_builtin (b := .append) (xs := #[.tmp 20, .tmp 22]) rfl ?_); at_builtin; refine Kd.R_append (Kd.int .i64) (w0 := w) w.heap.size rfl (.tmp 20) (.tmp 22) 24 3 (.int .i64 0) 8 rfl Try.underlying24 info3 rfl (by decide) (by omega) u3 x3_1 x5_1 [.int .i64 x5_1] (fun k_ => some k_ ≠ (.slice (some ad605) t602.length co8 : Value).ownBlock) (fun _ => False) rfl rfl ?aP (fun _ hk => hk.elim) ?aF ?aO ?aB ?aS ?aL ?_; (case aP => exact rfl); (case aB => exact HB.out); (case aF => exact (fun k_ hk => Kd.fresh' (Kd.R_lt HO_4.out) k_ hk)); (case aO => exact HO_3.out); (case aS => exact (below_size HB.out)); (case aL => have := LMc10.out; omega); intro v607 w13 ho hb hg hat; rw [← Ny606.out] at ho; replace HO_4 := A_ (Kd.R_after (ok := (fun _ => True)) (by exact Kd.R_mono HO_4.out (fun _ hk => ⟨trivial, hk⟩)) hg hat); replace HB := A_ (hb); have HO608 := A_ (ho); clear HO_3; clear ho hb hg hat; have p609 : 0 ≤ (x5_1 : Int) := od_ (by assumption); have q609 : x5_1 < (t602.length : Int) := od_ (by assumption); obtain ⟨ad609, e609, hx609_0⟩ := Kd.at_int (Kd.R_reads' HO_4.out).2.2 x5_1 p609 q609; obtain rfl : ad605 = ad609 := (by injection e609); replace p609 := eq_true p609; replace q609 := eq_true q609))
         go_roundg k1
         case measure => have := HK1.out; omega
         case rel => exact ⟨(y606), (rd t602 x5_1), (by rfl), H', ⟨by have := HK1.out; omega⟩, ⟨HO608.out⟩, ⟨by exact Kd.R_mono HO_4.out (fun _ hk => hk.2)⟩, ⟨HB.out⟩⟩
        rw [if_neg c12] at H
        cases H
       rw [if_neg c11] at H
       cases H
      rw [if_neg c10] at H
      cases H
     rw [if_neg c9] at H
     have c9b0 : decide (0 ≤ x5_1) = false := decide_eq_false c9
     clear c9; replace H := bA_ H; obtain ⟨t610, A14, H⟩ := H; obtain rfl := Option.some.inj H; obtain ⟨Ao15, co15, eo15⟩ := Kd.R_slice HO_3.out; subst eo15
     go_wp2_with (first | ((with_reducible refine gc_ 35 rfl ?_); refine cL_ E35 25 rfl rfl rfl (slices_Reverse_int_int.calls k1 (fun k_ => some k_ = (.slice Ao15 x3_1.length co15 : Value).ownBlock) (.slice Ao15 x3_1.length co15) x3_1 t610 w _ HB.out (Kd.R_tight rfl HO_3.out) A14.out) (by simp only [mA, mB, mC]; rfl) ?_; rintro e w16 ⟨rfl, hy0, hb, hkp⟩; refine ⟨_, rfl, ?_⟩; replace HO_3 := A_ (Kd.R_reok rfl hy0 (fun k_ e_ => HO_3.out.1 k_ e_)); replace HO_4 := A_ (Kd.R_mono (ok' := fun k_ => some k_ ≠ (.slice Ao15 x3_1.length co15 : Value).ownBlock) (Kd.R_keptB (HO_4.out) hkp (fun k_ hk_ hs_ => (hk_) hs_)) (fun k_ hk_ => hk_.1)); replace HB := A_ (hb); clear hb hkp; (try clear hy0)))
     go_ret
     exact ⟨_, by rfl, by exact Kd.R_mono HO_3.out (fun _ hk => trivial), HB.out⟩
  rw [if_neg c4] at H
  cases H
 rw [if_neg c3] at H
 cases H

end Go.Proofs.Ytnhpbmagbajliaa.PFnBorders

