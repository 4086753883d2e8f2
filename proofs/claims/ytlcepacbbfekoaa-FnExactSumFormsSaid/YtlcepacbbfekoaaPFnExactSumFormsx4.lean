/- Walks of the functions that the law reaches. -/
import Derived.Test.YtlcepacbbfekoaaPFnExactSumFormsx0
namespace Go.Proofs.Ytlcepacbbfekoaa.PFnExactSumForms
open Go.RowKit Go.Proofs.YtlcepacbbfekoaaW.PrintWords Go.Proofs.YtlcepacbbfekoaaW.PrintLast Go.Proofs.YtlcepacbbfekoaaW.PrintMore
attribute [local go_sem] max2_int min2_int max_two min_two max_three min_three max_four min_four
set_option linter.unusedVariables false
set_option maxHeartbeats 8000000
set_option maxRecDepth 100000
set_option linter.unusedSimpArgs false

def laws_toIntS.l0 : Nat → List Int → List Int → Int → Option (List Int)
 | 0, _, _, _ => none
 | k + 1, x0, x3, x4 => if x4 < (x0.length : Int) then (if 0 ≤ x4 then (if x4 < (x3.length : Int) then (laws_toIntS.l0 k x0 (x3.set (x4 : Int).toNat (rd x0 x4)) (wrap64 (x4 + 1))) else (none)) else (none)) else (some x3)
def laws_toIntS.f (k : Nat) (l0 : List Int) : Option (List Int) := if 0 ≤ (l0.length : Int) then (if ((l0.length : Int) : Int).toNat ≤ 35184372088832 then (laws_toIntS.l0 k l0 (List.replicate ((l0.length : Int) : Int).toNat 0) 0) else (none)) else (none)
theorem laws_toIntS.mono_l : ∀ k, (∀ y0 y1 y2, LeO (laws_toIntS.l0 k y0 y1 y2) (laws_toIntS.l0 (k + 1) y0 y1 y2))
 | 0 => fun _ _ _ r h => by simp [laws_toIntS.l0] at h
 | k + 1 => by
  have ih0 := laws_toIntS.mono_l k
  ·intro y0 y1 y2; unfold laws_toIntS.l0
   with_reducible repeat' first | exact ih0 _ _ _ | exact LeO.refl _ | exact LeO.none _ | refine LeO.ite ?_ ?_ | refine LeO.bind ?_ (fun _ => ?_)
theorem laws_toIntS.mono : ∀ a0 k, LeO (laws_toIntS.f k a0) (laws_toIntS.f (k + 1) a0) := by
 intro a0 k; have ih0 := laws_toIntS.mono_l k; unfold laws_toIntS.f
 with_reducible repeat' first | exact ih0 _ _ _ | exact LeO.refl _ | exact LeO.none _ | refine LeO.ite ?_ ?_ | refine LeO.bind ?_ (fun _ => ?_)
theorem laws_toIntS.calls (k : Nat) (A0 : Option Addr) (c0 : Nat) (l0 : List Int) (r : List Int) (w : World) (hr0 : Kd.C (Kd.int .i64) w A0 l0.length l0) (hc0 : l0.length ≤ c0) (h : laws_toIntS.f k l0 = some r) :
  Calls Try.prog 14 #[.slice A0 l0.length c0] w fun e w' => ∃ v0_ : Value, e = .returned (v0_) ∧ Kd.R (Kd.int .i64) 3 w' w.heap.size (fun _ => True) v0_ r ∧ Below w.heap.size w w' := by
 have HR0 := A_ hr0; have HC0 := A_ hc0; clear hr0 hc0; have HB := A_ (Below.refl w.heap.size w); unfold laws_toIntS.f at h; have H := h; clear h
 by_cases c2 : 0 ≤ (l0.length : Int)
 ·rw [if_pos c2] at H; have aJ := eq_true c2; have bs := decide_eq_true c2; clear c2
  by_cases c3 : ((l0.length : Int) : Int).toNat ≤ 35184372088832
  ·rw [if_pos c3] at H; have aE := eq_true c3; have aG := decide_eq_true c3; clear c3; obtain ⟨cK, bC⟩ := ex_ ((List.replicate ((l0.length : Int) : Int).toNat 0) : List Int); replace H : (laws_toIntS.l0 k l0 cK 0) = some r := by (rw [bC]; with_reducible exact H)
   have cD := A_ bC; clear bC
   have H' := A_ H
   clear H; go_enter Try.func14, Try.ntmps14
   go_wp2_with (first | ((with_reducible refine gate_dst (N := 7) rfl ?_); refine Kd.R_make (Kd.int .i64) _ 3 rfl (N := 7) rfl 22 _ _ rfl (l0.length : Int) rfl rfl Try.underlying22 (.int .i64 0) 8 info3 rfl (by decide) (by omega) 0 (ok := fun _ => True) (okp := fun _ => True) rfl (fun _ hk => hk) trivial oa_ (Nat.le_trans (Nat.mul_le_mul_right _ (oa_ : (l0.length : Int).toNat ≤ 35184372088832)) (by omega)) (Below.refl _ _) (Nat.le_refl _) ?_; rintro dk w4 ho5 hb - -; (rw [← cD.o] at ho5); have co := A_ (Kd.R_lower ho5 (below_size HB.o)); replace HB := bs_ HB hb; clear hb ho5))
   go_loopg [4] k (fun kq v4 w' => ∃ (ac : List Int) (aa : Int), v4 = .int .i64 aa ∧ Aside0 (laws_toIntS.l0 kq l0 ac aa = some r) ∧ Aside0 (kq ≤ k) ∧ Aside0 (Kd.R (Kd.int .i64) 3 w' w.heap.size (fun _ => True) dk ac) ∧ Aside0 (Below w.heap.size w w'))
   case atStart => exact ⟨(cK), (0), (by rfl), H', ⟨Nat.le_refl _⟩, ⟨co.o⟩, ⟨HB.o⟩⟩
   case round =>
    clear H'
    clear aJ bs aE aG
    obtain ⟨ac, aa, rfl, HA, br, ab, HB⟩ := hrel
    cases gk with
    | zero => exact nz_ HA.o
    | succ k1 =>
     have H := HA.o; clear HA; simp only [laws_toIntS.l0] at H
     by_cases c6 : aa < (l0.length : Int)
     ·rw [if_pos c6] at H; have bn := decide_eq_true c6; clear c6
      by_cases c7 : 0 ≤ aa
      ·rw [if_pos c7] at H; have bP := decide_eq_true c7; clear c7
       by_cases c8 : aa < (ac.length : Int)
       ·rw [if_pos c8] at H; have cJ := decide_eq_true c8; clear c8; obtain ⟨cc, bD⟩ := ex_ ((ac.set (aa : Int).toNat (rd l0 aa)) : List Int); replace H : (laws_toIntS.l0 k1 l0 cc (wrap64 (aa + 1))) = some r := by (rw [bD]; with_reducible exact H)
        have cE := A_ bD; clear bD
        have H' := A_ H
        clear H
        have b3 : 0 ≤ (aa : Int) := oa_
        have b7 : aa < (l0.length : Int) := oa_
        obtain ⟨dt, dd, az⟩ := Kd.at_int HR0.o aa b3 b7
        cases dd
        replace az := (HB.o.cell (World.block_lt_of_cell? w _ az)).trans az; replace b3 := eq_true b3; replace b7 := eq_true b7
        have p9 : 0 ≤ (aa : Int) := oa_
        have q9 : (aa : Int) < ((ac.length : Int) : Int) := oa_
        obtain ⟨dj, dE, dw, dx, gl9, cl9, HG9⟩ := Kd.R_form ab.o (by omega)
        (first | cases dw | (injection dw with ea_ en_ ec_; (first | subst ea_ | (injection ea_ with ea_; subst ea_)); subst ec_; clear en_))
        have GB9 := A_ dx; have GG9 := A_ HG9; clear dx gl9 HG9; obtain ⟨dB, dy⟩ := Kd.R_celln 0 ab.o (aa : Int) p9 q9; replace p9 := eq_true p9; replace q9 := eq_true q9; have b1 := Kd.R_putg ab.o (aa : Int) (rd l0 aa)
        go_wp2_with (first | ((with_reducible refine gate_store (t := 3) (p := 20) rfl ?_); refine store_event (t := 3) (p := 20) (w1 := (wr.setCell ⟨dj, (aa : Int).toNat, none⟩ (.int .i64 (rd l0 aa)))) rfl rfl rfl (by go_simp; done) ?_; intro w11 hw; have hg : wr.grownBy w11 (some dj) := (by rw [hw]; exact b1.2); have hp_ : Kd.R (Kd.int .i64) 3 w11 w.heap.size (fun _ => True) (.slice (some ⟨dj, 0, none⟩) ac.length dE) cc := (by rw [hw, cE.o]; exact b1.1); clear b1; replace ab := A_ (hp_); replace HB := A_ ((by rw [hw]; exact below_set (HB.o) GB9.o : Below w.heap.size w w11)); clear hg hw hp_))
        go_roundg k1
        case measure => have := br.o; omega
        case rel => exact ⟨(cc), (wrap64 (aa + 1)), (by rfl), H', ⟨by have := br.o; omega⟩, ⟨ab.o⟩, ⟨HB.o⟩⟩
       rw [if_neg c8] at H
       cases H
      rw [if_neg c7] at H
      cases H
     rw [if_neg c6] at H; have bn := decide_eq_false c6; clear c6; obtain rfl := Option.some.inj H
     go_wp2
     go_ret
     exact ⟨_, by rfl, ab.o, HB.o⟩
  rw [if_neg c3] at H
  cases H
 rw [if_neg c2] at H
 cases H

def laws_toIntSS.l0 : Nat → List (List Int) → List (List Int) → Int → Option ((List (List Int)))
 | 0, _, _, _ => none
 | k + 1, x0, x3, x4 => if x4 < (x0.length : Int) then (if 0 ≤ x4 then ((laws_toIntS.f k (rd_L1 x0 x4)).bind fun bI => (if x4 < (x3.length : Int) then (laws_toIntSS.l0 k x0 (x3.set (x4 : Int).toNat bI) (wrap64 (x4 + 1))) else (none))) else (none)) else (some x3)
def laws_toIntSS.f (k : Nat) (l0 : List (List Int)) : Option ((List (List Int))) := if 0 ≤ (l0.length : Int) then (if ((l0.length : Int) : Int).toNat ≤ 11728124029610 then (laws_toIntSS.l0 k l0 (List.replicate ((l0.length : Int) : Int).toNat []) 0) else (none)) else (none)
theorem laws_toIntSS.mono_l : ∀ k, (∀ y0 y1 y2, LeO (laws_toIntSS.l0 k y0 y1 y2) (laws_toIntSS.l0 (k + 1) y0 y1 y2))
 | 0 => fun _ _ _ r h => by simp [laws_toIntSS.l0] at h
 | k + 1 => by
  have ih0 := laws_toIntSS.mono_l k
  ·intro y0 y1 y2; unfold laws_toIntSS.l0
   with_reducible repeat' first | exact ih0 _ _ _ | exact laws_toIntS.mono _ _ | exact LeO.refl _ | exact LeO.none _ | refine LeO.ite ?_ ?_ | refine LeO.bind ?_ (fun _ => ?_)
theorem laws_toIntSS.mono : ∀ a0 k, LeO (laws_toIntSS.f k a0) (laws_toIntSS.f (k + 1) a0) := by
 intro a0 k; have ih0 := laws_toIntSS.mono_l k; unfold laws_toIntSS.f
 with_reducible repeat' first | exact ih0 _ _ _ | exact laws_toIntS.mono _ _ | exact LeO.refl _ | exact LeO.none _ | refine LeO.ite ?_ ?_ | refine LeO.bind ?_ (fun _ => ?_)
theorem laws_toIntSS.calls (k : Nat) (A0 : Option Addr) (c0 : Nat) (l0 : List (List Int)) (r : List (List Int)) (w : World) (hr0 : Kd.C (Kd.slice 3 (Kd.int .i64)) w A0 l0.length l0) (hc0 : l0.length ≤ c0) (h : laws_toIntSS.f k l0 = some r) :
  Calls Try.prog 27 #[.slice A0 l0.length c0] w fun e w' => ∃ v0_ : Value, e = .returned (v0_) ∧ Kd.S (Kd.slice 3 (Kd.int .i64)) 22 w' w.heap.size (fun _ => True) v0_ r ∧ Below w.heap.size w w' := by
 have HR0 := A_ hr0; have HC0 := A_ hc0; clear hr0 hc0; have HB := A_ (Below.refl w.heap.size w); unfold laws_toIntSS.f at h; have H := h; clear h
 by_cases c2 : 0 ≤ (l0.length : Int)
 ·rw [if_pos c2] at H; have aJ := eq_true c2; have bs := decide_eq_true c2; clear c2
  by_cases c3 : ((l0.length : Int) : Int).toNat ≤ 11728124029610
  ·rw [if_pos c3] at H; have aE := eq_true c3; have aG := decide_eq_true c3; clear c3; obtain ⟨cL, bE⟩ := ex_ ((List.replicate ((l0.length : Int) : Int).toNat []) : List (List Int)); replace H : (laws_toIntSS.l0 k l0 cL 0) = some r := by (rw [bE]; with_reducible exact H)
   have cF := A_ bE; clear bE
   have H' := A_ H
   clear H; go_enter Try.func27, Try.ntmps27
   go_wp2_with (first | ((with_reducible refine gate_dst (N := 7) rfl ?_); refine Kd.S_make (Kd.slice 3 (Kd.int .i64)) _ 22 rfl (N := 7) rfl 37 _ _ rfl (l0.length : Int) rfl rfl Try.underlying37 (.slice none 0 0) 24 info22 rfl (by decide) (by omega) [] (ok := fun _ => True) (okp := fun _ => True) ⟨_, rfl, Kd.R_nil _ _ _ _ _⟩ (fun _ hk => hk) trivial oa_ (Nat.le_trans (Nat.mul_le_mul_right _ (oa_ : (l0.length : Int).toNat ≤ 11728124029610)) (by omega)) (Below.refl _ _) (Nat.le_refl _) ?_; rintro dm w4 ho5 hb - -; (rw [← cF.o] at ho5); have ct := A_ (Kd.S_lower ho5 (below_size HB.o)); replace HB := bs_ HB hb; clear hb ho5))
   go_loopg [4] k (fun kq v4 w' => ∃ (ac : List (List Int)) (aa : Int), v4 = .int .i64 aa ∧ Aside0 (laws_toIntSS.l0 kq l0 ac aa = some r) ∧ Aside0 (kq ≤ k) ∧ Aside0 (Kd.S (Kd.slice 3 (Kd.int .i64)) 22 w' w.heap.size (fun _ => True) dm ac) ∧ Aside0 (Below w.heap.size w w'))
   case atStart => exact ⟨(cL), (0), (by rfl), H', ⟨Nat.le_refl _⟩, ⟨ct.o⟩, ⟨HB.o⟩⟩
   case round =>
    clear H'
    clear aJ bs aE aG
    obtain ⟨ac, aa, rfl, HA, br, ab, HB⟩ := hrel
    cases gk with
    | zero => exact nz_ HA.o
    | succ k1 =>
     have H := HA.o; clear HA; simp only [laws_toIntSS.l0] at H
     by_cases c6 : aa < (l0.length : Int)
     ·rw [if_pos c6] at H; have bn := decide_eq_true c6; clear c6
      by_cases c7 : 0 ≤ aa
      ·rw [if_pos c7] at H; have bP := decide_eq_true c7; clear c7; replace H := bA_ H; obtain ⟨bI, A8, H⟩ := H
       by_cases c9 : aa < (ac.length : Int)
       ·rw [if_pos c9] at H; have db := decide_eq_true c9; clear c9; obtain ⟨cd, bF⟩ := ex_ ((ac.set (aa : Int).toNat bI) : List (List Int)); replace H : (laws_toIntSS.l0 k1 l0 cd (wrap64 (aa + 1))) = some r := by (rw [bF]; with_reducible exact H)
        have cG := A_ bF; clear bF
        have H' := A_ H
        clear H
        have b4 : 0 ≤ (aa : Int) := oa_
        have b8 : aa < (l0.length : Int) := oa_
        obtain ⟨du, cW, cY, de, aA, a9, aY⟩ := at_L1 HR0.o aa b4 b8
        cases de
        replace aA := (HB.o.cell (World.block_lt_of_cell? w _ aA)).trans aA; have bN := A_ aY; have bL := A_ a9; clear aY a9; replace b4 := eq_true b4; replace b8 := eq_true b8
        go_wp2_with (first | ((with_reducible refine gc_ 14 rfl ?_); refine cM_ E14 20 (laws_toIntS.calls k1 _ _ (rd_L1 l0 aa) bI _ (Kd.C_below bN.o HB.o) bL.o A8.o) ?_; rintro e w11 ⟨bR, rfl, ho0, hb⟩; refine ⟨_, rfl, ?_⟩; replace ab := A_ (Kd.S_elder' ab.o (Kd.R_base ho0) hb); have aD := A_ (Kd.R_lower ho0 (below_size HB.o)); replace HB := bs_ HB hb; clear hb ho0; have b2 : 0 ≤ (aa : Int) := oa_; have b6 : (aa : Int) < ((ac.length : Int) : Int) := oa_; obtain ⟨av, bu, bz, bA, gl10, cl10, HG10⟩ := Kd.S_form ab.o (by omega); (first | cases bz | (injection bz with ea_ en_ ec_; (first | subst ea_ | (injection ea_ with ea_; subst ea_)); subst ec_; clear en_)); have GB10 := A_ bA; have GG10 := A_ HG10; clear bA gl10 HG10; obtain ⟨_, ce10, hcl10, hM10, hcc10, hfr10, _, _⟩ := Kd.S_elem ab.o [] (aa : Int) b2 b6; obtain ⟨ve10_0, rfl, ge10_0⟩ := hM10; have aQ := hcc10 0 _ rfl; have aM := hfr10 0; (try simp only [show ((Kd.slice 3 (Kd.int .i64))).sz = 1 from rfl, Nat.mul_one, Nat.add_zero] at aQ); (try simp only [show ((Kd.slice 3 (Kd.int .i64))).sz = 1 from rfl, Nat.mul_one, Nat.add_zero] at aM); clear hcl10 hcc10 hfr10; replace b2 := eq_true b2; replace b6 := eq_true b6; have n_ := A_ (Kd.S_mono (ok' := (o1 bR)) ab.o (fun k_ hk => hk.2)); clear ab; have ab := n_; clear n_; have HX12 := A_ (show Kd.S (Kd.slice 3 (Kd.int .i64)) 22 w11 w.heap.size (fun k_ => ((fun _ => True)) k_ ∧ ¬ ((fun k_ => some k_ = (bR : Value).ownBlock)) k_) (.slice (some ⟨av, 0, none⟩) ac.length bu) ac from (by exact Kd.S_mono ab.o (fun k_ hk => ⟨trivial, fun e_ => hk e_⟩))); obtain ⟨oki12, ce12, hcl12, hM12, hcc12, hfr12, hoki12, hH12⟩ := Kd.S_elem HX12.o [] (aa : Int) oa_ (by have h_ : (aa : Int) < ((ac.length : Int) : Int) := oa_; first | exact h_ | (have e_ := (Kd.S_reads' ab.o).1; omega) | simpa using h_); obtain ⟨ve12_0, rfl, ge12_0⟩ := hM12; have ay := Kd.S_seg hH12 oa_ (by have h_ : (aa : Int) < ((ac.length : Int) : Int) := oa_; first | exact h_ | (have e_ := (Kd.S_reads' ab.o).1; omega) | simpa using h_) (seg := [bR]) (j := 0) (show 1 ≤ 1 from by decide) (x' := bI) (Kd.M_row (Kd.R_mono (Kd.R_tight rfl (Kd.R_mono (ok' := fun k_ => ((fun _ => True)) k_ ∧ k_ ≠ av) (Kd.R_apart' (aD.o) (Kd.S_typed ab.o) (by decide)) (fun k_ hk => ⟨trivial, fun e_ => (hk.2) (by rw [e_]; rfl)⟩))) (fun _ h_ => Or.inr (h_)))) (fun _ hk => hk) (fun k_ hk_ => ((Kd.R_mono (ok' := fun k_ => ((fun _ => True)) k_ ∧ k_ ≠ av) (Kd.R_apart' (aD.o) (Kd.S_typed ab.o) (by decide)) (fun k_ hk => ⟨trivial, fun e_ => (hk.2) (by rw [e_]; rfl)⟩))).1 k_ hk_.symm); have aT := hcc12 0 _ rfl; (try simp only [show ((Kd.slice 3 (Kd.int .i64))).sz = 1 from rfl, Nat.mul_one, Nat.add_zero] at aT); have aN := hfr12 0; (try simp only [show ((Kd.slice 3 (Kd.int .i64))).sz = 1 from rfl, Nat.mul_one, Nat.add_zero] at aN); clear hcl12 hcc12 hfr12 hoki12 hH12; (try simp only [show ((Kd.slice 3 (Kd.int .i64))).sz = 1 from rfl, Nat.mul_one, Nat.add_zero] at ay)) | ((with_reducible refine gate_store (t := 22) (p := 21) rfl ?_); refine store_event (t := 22) (p := 21) (v := ?vo_w13) (w1 := (w11.setCell ⟨av, (aa : Int).toNat, none⟩ (bR))) ?hg ?ho ?hn ?hr ?_; (case ho => rfl); (case hg => rfl); (case hn => rfl); (case hr => first | (go_simp; done) | (go_simp; rfl) | (obtain ⟨_, _, rfl⟩ := Kd.R_slice aD.o; go_simp; first | done | rfl) | (obtain ⟨_, _, rfl⟩ := Kd.R_slice (Kd.S_R aD.o); go_simp; first | done | rfl)); intro w13 hw; have hg : w11.grownBy w13 (some av) := (by rw [hw]; exact ay.2); have hp_ : Kd.S (Kd.slice 3 (Kd.int .i64)) 22 w13 w.heap.size (fun _ => True) (.slice (some ⟨av, 0, none⟩) ac.length bu) cd := (by rw [hw, cG.o]; exact ay.1); clear ay; replace ab := A_ (hp_); replace HB := A_ ((by rw [hw]; exact below_set (HB.o) GB10.o : Below w.heap.size w w13)); clear aD; clear hg hw hp_))
        go_roundg k1
        case measure => have := br.o; omega
        case rel => exact ⟨(cd), (wrap64 (aa + 1)), (by rfl), H', ⟨by have := br.o; omega⟩, ⟨ab.o⟩, ⟨HB.o⟩⟩
       rw [if_neg c9] at H
       cases H
      rw [if_neg c7] at H
      cases H
     rw [if_neg c6] at H; have bn := decide_eq_false c6; clear c6; obtain rfl := Option.some.inj H
     go_wp2
     go_ret
     exact ⟨_, by rfl, ab.o, HB.o⟩
  rw [if_neg c3] at H
  cases H
 rw [if_neg c2] at H
 cases H

def laws_toIntSSS.l0 : Nat → List (List (List Int)) → List (List (List Int)) → Int → Option ((List (List (List Int))))
 | 0, _, _, _ => none
 | k + 1, x0, x3, x4 => if x4 < (x0.length : Int) then (if 0 ≤ x4 then ((laws_toIntSS.f k (rd_L2 x0 x4)).bind fun bJ => (if x4 < (x3.length : Int) then (laws_toIntSSS.l0 k x0 (x3.set (x4 : Int).toNat bJ) (wrap64 (x4 + 1))) else (none))) else (none)) else (some x3)
def laws_toIntSSS.f (k : Nat) (l0 : List (List (List Int))) : Option ((List (List (List Int)))) := if 0 ≤ (l0.length : Int) then (if ((l0.length : Int) : Int).toNat ≤ 11728124029610 then (laws_toIntSSS.l0 k l0 (List.replicate ((l0.length : Int) : Int).toNat []) 0) else (none)) else (none)
theorem laws_toIntSSS.mono_l : ∀ k, (∀ y0 y1 y2, LeO (laws_toIntSSS.l0 k y0 y1 y2) (laws_toIntSSS.l0 (k + 1) y0 y1 y2))
 | 0 => fun _ _ _ r h => by simp [laws_toIntSSS.l0] at h
 | k + 1 => by
  have ih0 := laws_toIntSSS.mono_l k
  ·intro y0 y1 y2; unfold laws_toIntSSS.l0
   with_reducible repeat' first | exact ih0 _ _ _ | exact laws_toIntSS.mono _ _ | exact LeO.refl _ | exact LeO.none _ | refine LeO.ite ?_ ?_ | refine LeO.bind ?_ (fun _ => ?_)
theorem laws_toIntSSS.mono : ∀ a0 k, LeO (laws_toIntSSS.f k a0) (laws_toIntSSS.f (k + 1) a0) := by
 intro a0 k; have ih0 := laws_toIntSSS.mono_l k; unfold laws_toIntSSS.f
 with_reducible repeat' first | exact ih0 _ _ _ | exact laws_toIntSS.mono _ _ | exact LeO.refl _ | exact LeO.none _ | refine LeO.ite ?_ ?_ | refine LeO.bind ?_ (fun _ => ?_)
theorem laws_toIntSSS.calls (k : Nat) (A0 : Option Addr) (c0 : Nat) (l0 : List (List (List Int))) (r : List (List (List Int))) (w : World) (hr0 : Kd.C (Kd.slice 22 (Kd.slice 3 (Kd.int .i64))) w A0 l0.length l0) (hc0 : l0.length ≤ c0) (h : laws_toIntSSS.f k l0 = some r) :
  Calls Try.prog 15 #[.slice A0 l0.length c0] w fun e w' => ∃ v0_ : Value, e = .returned (v0_) ∧ Kd.R (Kd.slice 22 (Kd.slice 3 (Kd.int .i64))) 37 w' w.heap.size (fun _ => True) v0_ r ∧ Below w.heap.size w w' := by
 have HR0 := A_ hr0; have HC0 := A_ hc0; clear hr0 hc0; have HB := A_ (Below.refl w.heap.size w); unfold laws_toIntSSS.f at h; have H := h; clear h
 by_cases c2 : 0 ≤ (l0.length : Int)
 ·rw [if_pos c2] at H; have aJ := eq_true c2; have bs := decide_eq_true c2; clear c2
  by_cases c3 : ((l0.length : Int) : Int).toNat ≤ 11728124029610
  ·rw [if_pos c3] at H; have aE := eq_true c3; have aG := decide_eq_true c3; clear c3; obtain ⟨cM, bG⟩ := ex_ ((List.replicate ((l0.length : Int) : Int).toNat []) : List (List (List Int))); replace H : (laws_toIntSSS.l0 k l0 cM 0) = some r := by (rw [bG]; with_reducible exact H)
   have cH := A_ bG; clear bG
   have H' := A_ H
   clear H; go_enter Try.func15, Try.ntmps15
   go_wp2_with (first | ((with_reducible refine gate_dst (N := 7) rfl ?_); refine Kd.R_make (Kd.slice 22 (Kd.slice 3 (Kd.int .i64))) _ 37 rfl (N := 7) rfl 23 _ _ rfl (l0.length : Int) rfl rfl Try.underlying23 (.slice none 0 0) 24 info37 rfl (by decide) (by omega) [] (ok := fun _ => True) (okp := fun _ => True) ⟨_, rfl, Kd.R_nil _ _ _ _ _⟩ (fun _ hk => hk) trivial oa_ (Nat.le_trans (Nat.mul_le_mul_right _ (oa_ : (l0.length : Int).toNat ≤ 11728124029610)) (by omega)) (Below.refl _ _) (Nat.le_refl _) ?_; rintro dn w4 ho5 hb - -; (rw [← cH.o] at ho5); have cw := A_ (Kd.R_lower ho5 (below_size HB.o)); replace HB := bs_ HB hb; clear hb ho5))
   go_loopg [4] k (fun kq v4 w' => ∃ (ac : List (List (List Int))) (aa : Int), v4 = .int .i64 aa ∧ Aside0 (laws_toIntSSS.l0 kq l0 ac aa = some r) ∧ Aside0 (kq ≤ k) ∧ Aside0 (Kd.R (Kd.slice 22 (Kd.slice 3 (Kd.int .i64))) 37 w' w.heap.size (fun _ => True) dn ac) ∧ Aside0 (Below w.heap.size w w'))
   case atStart => exact ⟨(cM), (0), (by rfl), H', ⟨Nat.le_refl _⟩, ⟨cw.o⟩, ⟨HB.o⟩⟩
   case round =>
    clear H'
    clear aJ bs aE aG
    obtain ⟨ac, aa, rfl, HA, br, ab, HB⟩ := hrel
    cases gk with
    | zero => exact nz_ HA.o
    | succ k1 =>
     have H := HA.o; clear HA; simp only [laws_toIntSSS.l0] at H
     by_cases c6 : aa < (l0.length : Int)
     ·rw [if_pos c6] at H; have bn := decide_eq_true c6; clear c6
      by_cases c7 : 0 ≤ aa
      ·rw [if_pos c7] at H; have bP := decide_eq_true c7; clear c7; replace H := bA_ H; obtain ⟨bJ, A8, H⟩ := H
       by_cases c9 : aa < (ac.length : Int)
       ·rw [if_pos c9] at H; have db := decide_eq_true c9; clear c9; obtain ⟨cf, bH⟩ := ex_ ((ac.set (aa : Int).toNat bJ) : List (List (List Int))); replace H : (laws_toIntSSS.l0 k1 l0 cf (wrap64 (aa + 1))) = some r := by (rw [bH]; with_reducible exact H)
        have cI := A_ bH; clear bH
        have H' := A_ H
        clear H
        have b5 : 0 ≤ (aa : Int) := oa_
        have b9 : aa < (l0.length : Int) := oa_
        obtain ⟨dv, cX, cZ, df, aC, ba, a8⟩ := at_L2 HR0.o aa b5 b9
        cases df
        replace aC := (HB.o.cell (World.block_lt_of_cell? w _ aC)).trans aC; have bO := A_ a8; have bM := A_ ba; clear a8 ba; replace b5 := eq_true b5; replace b9 := eq_true b9
        go_wp2_with (first | ((with_reducible refine gc_ 27 rfl ?_); refine cM_ E27 20 (laws_toIntSS.calls k1 _ _ (rd_L2 l0 aa) bJ _ (Kd.C_below bO.o HB.o) bM.o A8.o) ?_; rintro e w11 ⟨ca, rfl, ho0, hb⟩; refine ⟨_, rfl, ?_⟩; replace ab := A_ (Kd.R_elder' ab.o (Kd.S_base ho0) hb); have aV := A_ (Kd.S_lower ho0 (below_size HB.o)); replace HB := bs_ HB hb; clear hb ho0; have b2 : 0 ≤ (aa : Int) := oa_; have b6 : (aa : Int) < ((ac.length : Int) : Int) := oa_; obtain ⟨av, bu, bz, bA, gl10, cl10, HG10⟩ := Kd.R_form ab.o (by omega); (first | cases bz | (injection bz with ea_ en_ ec_; (first | subst ea_ | (injection ea_ with ea_; subst ea_)); subst ec_; clear en_)); have GB10 := A_ bA; have GG10 := A_ HG10; clear bA gl10 HG10; obtain ⟨ce10, hcl10, hM10, hcc10, hfr10⟩ := Kd.R_elem ab.o [] (aa : Int) b2 b6; obtain ⟨ve10_0, rfl, ge10_0⟩ := hM10; have aQ := hcc10 0 _ rfl; have aM := hfr10 0; (try simp only [show ((Kd.slice 22 (Kd.slice 3 (Kd.int .i64)))).sz = 1 from rfl, Nat.mul_one, Nat.add_zero] at aQ); (try simp only [show ((Kd.slice 22 (Kd.slice 3 (Kd.int .i64)))).sz = 1 from rfl, Nat.mul_one, Nat.add_zero] at aM); clear hcl10 hcc10 hfr10; replace b2 := eq_true b2; replace b6 := eq_true b6; have n_ := A_ (Kd.R_mono (ok' := (o1 ca)) ab.o (fun k_ hk => hk.2)); clear ab; have ab := n_; clear n_; have HX12 := A_ (show Kd.R (Kd.slice 22 (Kd.slice 3 (Kd.int .i64))) 37 w11 w.heap.size (fun _ => True) (.slice (some ⟨av, 0, none⟩) ac.length bu) ac from (by exact Kd.R_mono ab.o (fun _ hk => trivial))); obtain ⟨ce12, hcl12, hM12, hcc12, hfr12⟩ := Kd.R_elem HX12.o [] (aa : Int) oa_ (by have h_ : (aa : Int) < ((ac.length : Int) : Int) := oa_; first | exact h_ | (have e_ := (Kd.R_reads' ab.o).1; omega) | simpa using h_); obtain ⟨ve12_0, rfl, ge12_0⟩ := hM12; have ay := Kd.R_seg HX12.o (aa : Int) oa_ (by have h_ : (aa : Int) < ((ac.length : Int) : Int) := oa_; first | exact h_ | (have e_ := (Kd.R_reads' ab.o).1; omega) | simpa using h_) (seg := [ca]) (j := 0) hcl12 hcc12 (show 1 ≤ 1 from by decide) (x' := bJ) (Kd.M_row (Kd.R_mono (Kd.R_apart' ((Kd.S_R aV.o)) (Kd.R_typed ab.o) (by decide)) (fun k_ hk => ⟨trivial, fun e_ => (hk.2) (by rw [e_]; rfl)⟩))) (fun _ hk => hk); have aT := hcc12 0 _ rfl; (try simp only [show ((Kd.slice 22 (Kd.slice 3 (Kd.int .i64)))).sz = 1 from rfl, Nat.mul_one, Nat.add_zero] at aT); have aN := hfr12 0; (try simp only [show ((Kd.slice 22 (Kd.slice 3 (Kd.int .i64)))).sz = 1 from rfl, Nat.mul_one, Nat.add_zero] at aN); clear hcl12 hcc12 hfr12; (try simp only [show ((Kd.slice 22 (Kd.slice 3 (Kd.int .i64)))).sz = 1 from rfl, Nat.mul_one, Nat.add_zero] at ay)) | ((with_reducible refine gate_store (t := 37) (p := 21) rfl ?_); refine store_event (t := 37) (p := 21) (v := ?vo_w13) (w1 := (w11.setCell ⟨av, (aa : Int).toNat, none⟩ (ca))) ?hg ?ho ?hn ?hr ?_; (case ho => rfl); (case hg => rfl); (case hn => rfl); (case hr => first | (go_simp; done) | (go_simp; rfl) | (obtain ⟨_, _, rfl⟩ := Kd.R_slice aV.o; go_simp; first | done | rfl) | (obtain ⟨_, _, rfl⟩ := Kd.R_slice (Kd.S_R aV.o); go_simp; first | done | rfl)); intro w13 hw; have hg : w11.grownBy w13 (some av) := (by rw [hw]; exact ay.2); have hp_ : Kd.R (Kd.slice 22 (Kd.slice 3 (Kd.int .i64))) 37 w13 w.heap.size (fun _ => True) (.slice (some ⟨av, 0, none⟩) ac.length bu) cf := (by rw [hw, cI.o]; exact ay.1); clear ay; replace ab := A_ (hp_); replace HB := A_ ((by rw [hw]; exact below_set (HB.o) GB10.o : Below w.heap.size w w13)); clear aV; clear hg hw hp_))
        go_roundg k1
        case measure => have := br.o; omega
        case rel => exact ⟨(cf), (wrap64 (aa + 1)), (by rfl), H', ⟨by have := br.o; omega⟩, ⟨ab.o⟩, ⟨HB.o⟩⟩
       rw [if_neg c9] at H
       cases H
      rw [if_neg c7] at H
      cases H
     rw [if_neg c6] at H; have bn := decide_eq_false c6; clear c6; obtain rfl := Option.some.inj H
     go_wp2
     go_ret
     exact ⟨_, by rfl, ab.o, HB.o⟩
  rw [if_neg c3] at H
  cases H
 rw [if_neg c2] at H
 cases H

def laws_toLinear.f (k : Nat) (ap : Int) (aq : List Int) (ar : List (List (List Int))) (au : List Int) : Option (Int × List Int × (List (List (List Int))) × List Int) := (laws_toIntS.f k aq).bind fun aH => ((laws_toIntSSS.f k ar).bind fun aI => ((laws_toIntS.f k au).bind fun aU => (some (ap, aH, aI, aU))))
theorem laws_toLinear.mono : ∀ a0 a1 a2 a3 k, LeO (laws_toLinear.f k a0 a1 a2 a3) (laws_toLinear.f (k + 1) a0 a1 a2 a3) := by
 intro a0 a1 a2 a3 k; unfold laws_toLinear.f
 with_reducible repeat' first | exact laws_toIntS.mono _ _ | exact laws_toIntSSS.mono _ _ | exact LeO.refl _ | exact LeO.none _ | refine LeO.ite ?_ ?_ | refine LeO.bind ?_ (fun _ => ?_)
theorem laws_toLinear.calls (k : Nat) (ap : Int) (bc : Option Addr) (bk : Nat) (aq : List Int) (be : Option Addr) (bl : Nat) (ar : List (List (List Int))) (bf : Option Addr) (bm : Nat) (au : List Int) (r1 : Int) (r2 : List Int) (r3 : List (List (List Int))) (r4 : List Int) (w : World) (bX : Kd.C (Kd.int .i64) w bc aq.length aq) (bU : aq.length ≤ bk) (bY : Kd.C (Kd.slice 22 (Kd.slice 3 (Kd.int .i64))) w be ar.length ar) (bV : ar.length ≤ bl) (bZ : Kd.C (Kd.int .i64) w bf au.length au) (bW : au.length ≤ bm) (h : laws_toLinear.f k ap aq ar au = some (r1, r2, r3, r4)) :
  Calls Try.prog 6 #[.agg #[.int .i64 ap, .slice bc aq.length bk, .slice be ar.length bl, .slice bf au.length bm]] w fun e w' => ∃ v1_ v2_ v3_ : Value, e = .returned (.agg #[.int .i64 r1, v1_, v2_, v3_]) ∧ Kd.R (Kd.int .i64) 3 w' w.heap.size (o1 v3_) v1_ r2 ∧ Kd.R (Kd.slice 22 (Kd.slice 3 (Kd.int .i64))) 37 w' w.heap.size (o2 v1_ v3_) v2_ r3 ∧ Kd.R (Kd.int .i64) 3 w' w.heap.size (o1 v1_) v3_ r4 ∧ Below w.heap.size w w' := by
 have hu25 := Try.underlying25; have hu27 := Try.underlying27; have cA := A_ bX; have ch := A_ bU; clear bX bU; have cB := A_ bY; have ci := A_ bV; clear bY bV; have cC := A_ bZ; have ck := A_ bW; clear bZ bW; have HB := A_ (Below.refl w.heap.size w); unfold laws_toLinear.f at h; have H := h; clear h; replace H := bA_ H; obtain ⟨aH, A2, H⟩ := H; replace H := bA_ H; obtain ⟨aI, A3, H⟩ := H; replace H := bA_ H; obtain ⟨aU, A4, H⟩ := H; simp only [Option.some.injEq, Prod.mk.injEq] at H; obtain ⟨rfl, rfl, rfl, rfl⟩ := H; go_enter Try.func6, Try.ntmps6
 go_wp2_with (first | ((with_reducible refine gate_dst (N := 1) rfl ?_); refine box_event rfl (N := 1) rfl (cs := #[.int .i64 ap, .slice bc aq.length bk, .slice be ar.length bl, .slice bf au.length bm]) (t := 25) (by go_simp; done) ?_; intro bB hg w5 hbox hb; have ag := A_ (hbox); have dp := A_ (lg_ (below_size HB.o) hg); have al := A_ (lg_ (below_size HB.o) hg); replace HB := bs_ HB hb; clear hb hbox hg) | ((with_reducible refine gate_dst (N := 2) rfl ?_); refine box_event rfl (N := 2) rfl (cs := #[.int .i64 0, .slice none 0 0, .slice none 0 0, .slice none 0 0]) (t := 27) (by go_simp; done) ?_; intro aX hg w6 hbox hb; have ah := A_ (hbox); have dq := A_ (lg_ (below_size HB.o) hg); have am := A_ (lg_ (below_size HB.o) hg); replace HB := bs_ HB hb; have bg := nl_ ag hg; have bh := ng_ ag hg; replace ag := bb_ ag hb; clear hb hbox hg) | ((with_reducible refine gate_dst (N := 3) rfl ?_); refine box_event rfl (N := 3) rfl (cs := #[.int .i64 0, .slice none 0 0, .slice none 0 0, .slice none 0 0]) (t := 27) (by go_simp; done) ?_; intro aj hg w7 hbox hb; have af := A_ (hbox); have dr := A_ (lg_ (below_size HB.o) hg); have an := A_ (lg_ (below_size HB.o) hg); replace HB := bs_ HB hb; have ak := nl_ ag hg; have bi := ng_ ag hg; replace ag := bb_ ag hb; have ai := nl_ ah hg; have bj := ng_ ah hg; replace ah := bb_ ah hb; clear hb hbox hg; have dF := bg.o; have dH := bh.o; have dG := ak.o; have dI := bi.o; have cN := bq4 ag.o; have dz := bj.o; have dA := ai.o; have cO := bq4 af.o) | ((with_reducible refine gc_ 14 rfl ?_); refine cL_ E14 9 rfl rfl rfl (laws_toIntS.calls k _ _ aq aH _ (Kd.C_below cA.o (by repeat (first | (with_reducible first | exact HB.o | apply below_alloc | apply pw_below_drewN | apply below_drew1 | refine below_set ?_ al.o | refine below_set ?_ am.o | refine below_set ?_ an.o) | exact HB.o))) ch.o A2.o) (by (try simp only [mA, mB, mC]); first | done | rfl | (simp only [List.length_drop, List.length_take]; rfl)) ?_; rintro e w13 ⟨dK, rfl, ho0, hb⟩; refine ⟨_, rfl, ?_⟩; have ao := A_ (Kd.R_lower ho0 (below_size (by repeat (first | (with_reducible first | exact HB.o | apply below_alloc | apply pw_below_drewN | apply below_drew1 | refine below_set ?_ al.o | refine below_set ?_ am.o | refine below_set ?_ an.o) | exact HB.o)))); replace ag := A_ (blk_below (g := bB) (o := .cells #[.int .i64 ap, .slice bc aq.length bk, .slice be ar.length bl, .slice bf au.length bm] 25 (0, 0)) (by exact fa_ ak ag.o) hb); replace ah := A_ (blk_below (g := aX) (o := .cells #[.int .i64 0, .slice none 0 0, .slice none 0 0, .slice none 0 0] 27 (0, 0)) (by exact fa_ ai ah.o) hb); replace af := A_ (blk_below (g := aj) (o := .cells #[.int .i64 ap, .slice none 0 0, .slice none 0 0, .slice none 0 0] 27 (0, 0)) (by exact pu_ 0 af.o rfl) hb); replace HB := A_ (below_step (by repeat (first | (with_reducible first | exact HB.o | apply below_alloc | apply pw_below_drewN | apply below_drew1 | refine below_set ?_ al.o | refine below_set ?_ am.o | refine below_set ?_ an.o) | exact HB.o)) hb); clear hb ho0; obtain ⟨bp, bv, dg⟩ := Kd.R_slice ao.o; subst dg; have cP := bq4 af.o; have cQ := bq4 ag.o) | ((with_reducible refine gc_ 15 rfl ?_); refine cM_ E15 13 (laws_toIntSSS.calls k _ _ ar aI _ (Kd.C_below cB.o (by repeat (first | (with_reducible first | exact HB.o | apply below_alloc | apply pw_below_drewN | apply below_drew1 | refine below_set ?_ al.o | refine below_set ?_ am.o | refine below_set ?_ an.o) | exact HB.o))) ci.o A3.o) ?_; rintro e w17 ⟨dL, rfl, ho0, hb⟩; refine ⟨_, rfl, ?_⟩; have aW := A_ (Kd.R_lower (Kd.R_new' ho0 (Kd.R_lt (by exact (Kd.R_mono (Kd.R_far (p := ⟨aj, 1, none⟩) (Kd.R_types ao.o af.o (by decide)) (fun _ hk => hk.2) (.slice bp aH.length bv)) (fun _ h_ => h_.1))))) (below_size (by repeat (first | (with_reducible first | exact HB.o | apply below_alloc | apply pw_below_drewN | apply below_drew1 | refine below_set ?_ al.o | refine below_set ?_ am.o | refine below_set ?_ an.o) | exact HB.o)))); replace ao := A_ (Kd.R_below (by exact (Kd.R_mono (Kd.R_far (p := ⟨aj, 1, none⟩) (Kd.R_types ao.o af.o (by decide)) (fun _ hk => hk.2) (.slice bp aH.length bv)) (fun _ h_ => h_.1))) hb); replace ag := A_ (blk_below (g := bB) (o := .cells #[.int .i64 ap, .slice bc aq.length bk, .slice be ar.length bl, .slice bf au.length bm] 25 (0, 0)) (by exact fa_ ak ag.o) hb); replace ah := A_ (blk_below (g := aX) (o := .cells #[.int .i64 0, .slice none 0 0, .slice none 0 0, .slice none 0 0] 27 (0, 0)) (by exact fa_ ai ah.o) hb); replace af := A_ (blk_below (g := aj) (o := .cells #[.int .i64 ap, .slice bp aH.length bv, .slice none 0 0, .slice none 0 0] 27 (0, 0)) (by exact pu_ 1 af.o rfl) hb); replace HB := A_ (below_step (by repeat (first | (with_reducible first | exact HB.o | apply below_alloc | apply pw_below_drewN | apply below_drew1 | refine below_set ?_ al.o | refine below_set ?_ am.o | refine below_set ?_ an.o) | exact HB.o)) hb); clear hb ho0; obtain ⟨bq, bw, dh⟩ := Kd.R_slice aW.o; subst dh; have cR := bq4 af.o; have cS := bq4 ag.o) | ((with_reducible refine gc_ 14 rfl ?_); refine cM_ E14 17 (laws_toIntS.calls k _ _ au aU _ (Kd.C_below cC.o (by repeat (first | (with_reducible first | exact HB.o | apply below_alloc | apply pw_below_drewN | apply below_drew1 | refine below_set ?_ al.o | refine below_set ?_ am.o | refine below_set ?_ an.o) | exact HB.o))) ck.o A4.o) ?_; rintro e w21 ⟨dM, rfl, ho0, hb⟩; refine ⟨_, rfl, ?_⟩; replace aW := A_ (Kd.R_elder' (by exact (Kd.R_mono (Kd.R_far (p := ⟨aj, 2, none⟩) (Kd.R_types aW.o af.o (by decide)) (fun _ hk => hk.2) (.slice bq aI.length bw)) (fun _ h_ => h_.1))) (Kd.R_base ho0) hb); have bS := A_ (Kd.R_lower (Kd.R_new' ho0 (Kd.R_lt (by exact (Kd.R_mono (Kd.R_far (p := ⟨aj, 2, none⟩) (Kd.R_types ao.o af.o (by decide)) (fun _ hk => hk.2) (.slice bq aI.length bw)) (fun _ h_ => h_.1))))) (below_size (by repeat (first | (with_reducible first | exact HB.o | apply below_alloc | apply pw_below_drewN | apply below_drew1 | refine below_set ?_ al.o | refine below_set ?_ am.o | refine below_set ?_ an.o) | exact HB.o)))); replace ao := A_ (Kd.R_elder' (by exact (Kd.R_mono (Kd.R_far (p := ⟨aj, 2, none⟩) (Kd.R_types ao.o af.o (by decide)) (fun _ hk => hk.2) (.slice bq aI.length bw)) (fun _ h_ => h_.1))) (Kd.R_base ho0) hb); replace ag := A_ (blk_below (g := bB) (o := .cells #[.int .i64 ap, .slice bc aq.length bk, .slice be ar.length bl, .slice bf au.length bm] 25 (0, 0)) (by exact fa_ ak ag.o) hb); replace ah := A_ (blk_below (g := aX) (o := .cells #[.int .i64 0, .slice none 0 0, .slice none 0 0, .slice none 0 0] 27 (0, 0)) (by exact fa_ ai ah.o) hb); replace af := A_ (blk_below (g := aj) (o := .cells #[.int .i64 ap, .slice bp aH.length bv, .slice bq aI.length bw, .slice none 0 0] 27 (0, 0)) (by exact pu_ 2 af.o rfl) hb); replace HB := A_ (below_step (by repeat (first | (with_reducible first | exact HB.o | apply below_alloc | apply pw_below_drewN | apply below_drew1 | refine below_set ?_ al.o | refine below_set ?_ am.o | refine below_set ?_ an.o) | exact HB.o)) hb); clear hb ho0; obtain ⟨bK, bQ, di⟩ := Kd.R_slice bS.o; subst di; have cT := bq4 af.o; have cU := bq4 ah.o))
 refine bodyPost_ret (results_cell_row rfl _ _ aX 27 #[.int .i64 ap, .slice bp aH.length bv, .slice bq aI.length bw, .slice bK aU.length bQ] (0, 0) _ rfl (by exact pu_ 3 (pu_ 2 (pu_ 1 (pu_ 0 (fa_ ai ah.o) rfl) rfl) rfl) rfl) Try.underlying27 rfl (by kernel_rfl)) rfl ?_; exact ⟨_, _, _, by rfl, by exact Kd.R_mono (gR4_ (Kd.R_far (p := ⟨aj, 3, none⟩) (Kd.R_types (Kd.R_types ao.o af.o (by decide)) ah.o (by decide)) (fun _ hk => hk.1.2) (.slice bK aU.length bQ))) (fun _ hk => hk.1.1.2), by exact Kd.R_mono (gR4_ (Kd.R_far (p := ⟨aj, 3, none⟩) (Kd.R_types (Kd.R_types aW.o af.o (by decide)) ah.o (by decide)) (fun _ hk => hk.1.2) (.slice bK aU.length bQ))) (fun _ hk => ⟨hk.1.1.1.2, hk.1.1.2⟩), by exact Kd.R_mono (gR4_ (Kd.R_far (p := ⟨aj, 3, none⟩) (Kd.R_types (Kd.R_types bS.o af.o (by decide)) ah.o (by decide)) (fun _ hk => hk.1.2) (.slice bK aU.length bQ))) (fun _ hk => hk.1.1.2), by repeat (first | (with_reducible first | exact HB.o | apply below_alloc | apply pw_below_drewN | apply below_drew1 | refine below_set ?_ al.o | refine below_set ?_ am.o | refine below_set ?_ an.o) | exact HB.o)⟩

def impl_isBase.f (a0 : Int) : Option (Bool) := if a0 ≥ 2 then (some (decide (a0 ≤ 4))) else (some false)
theorem impl_isBase.calls (a0 : Int) (r : Bool) (w : World) (h : impl_isBase.f a0 = some r) :
  Calls Try.prog 28 #[.int .i64 a0] w fun e w' => e = .returned (.bool r) ∧ Drawn0 w w' := by
 unfold impl_isBase.f at h; have H := h; clear h
 by_cases c2 : a0 ≥ 2
 ·rw [if_pos c2] at H
  have aJ : decide (2 ≤ a0) = true := decide_eq_true c2
  clear c2; obtain rfl := Option.some.inj H; go_enter Try.func28, Try.ntmps28
  go_wp2
  go_ret
  exact ⟨by rfl, by repeat (first | exact Drawn0.refl _ | apply Drawn0.step)⟩
 rw [if_neg c2] at H
 have aJ : decide (2 ≤ a0) = false := decide_eq_false c2
 clear c2; obtain rfl := Option.some.inj H; go_enter Try.func28, Try.ntmps28
 go_wp2
 go_ret
 exact ⟨by rfl, by repeat (first | exact Drawn0.refl _ | apply Drawn0.step)⟩

def impl_areSmall.l0 : Nat → List Int → Int → Int → Option (Bool)
 | 0, _, _, _ => none
 | k + 1, cV, dC, cg => if cg < dC then (if 0 ≤ cg then (if cg < (cV.length : Int) then (if (rd cV cg) < (-9) then (some false) else (if (rd cV cg) > 9 then (some false) else (impl_areSmall.l0 k cV dC (wrap64 (cg + 1))))) else (none)) else (none)) else (some true)
def impl_areSmall.f (k : Nat) (l0 : List Int) (a1 : Int) : Option (Bool) := if (l0.length : Int) = a1 then (impl_areSmall.l0 k l0 (l0.length : Int) 0) else (some false)
theorem impl_areSmall.mono_l : ∀ k, (∀ y0 y1 y2, LeO (impl_areSmall.l0 k y0 y1 y2) (impl_areSmall.l0 (k + 1) y0 y1 y2))
 | 0 => fun _ _ _ r h => by simp [impl_areSmall.l0] at h
 | k + 1 => by
  have ih0 := impl_areSmall.mono_l k
  ·intro y0 y1 y2; unfold impl_areSmall.l0
   with_reducible repeat' first | exact ih0 _ _ _ | exact LeO.refl _ | exact LeO.none _ | refine LeO.ite ?_ ?_ | refine LeO.bind ?_ (fun _ => ?_)
theorem impl_areSmall.mono : ∀ a0 a1 k, LeO (impl_areSmall.f k a0 a1) (impl_areSmall.f (k + 1) a0 a1) := by
 intro a0 a1 k; have ih0 := impl_areSmall.mono_l k; unfold impl_areSmall.f
 with_reducible repeat' first | exact ih0 _ _ _ | exact LeO.refl _ | exact LeO.none _ | refine LeO.ite ?_ ?_ | refine LeO.bind ?_ (fun _ => ?_)
theorem impl_areSmall.calls (k : Nat) (A0 : Option Addr) (c0 : Nat) (l0 : List Int) (a1 : Int) (r : Bool) (w : World) (hr0 : Kd.C (Kd.int .i64) w A0 l0.length l0) (hc0 : l0.length ≤ c0) (h : impl_areSmall.f k l0 a1 = some r) :
  Calls Try.prog 29 #[.slice A0 l0.length c0, .int .i64 a1] w fun e w' => e = .returned (.bool r) ∧ Drawn0 w w' := by
 have HR0 := A_ hr0; have HC0 := A_ hc0; clear hr0 hc0; unfold impl_areSmall.f at h; have H := h; clear h
 by_cases c3 : (l0.length : Int) = a1
 ·rw [if_pos c3] at H
  have aE : ((l0.length : Int) == a1) = true := beq_iff_eq.mpr c3
  have aG : ((l0.length : Int) != a1) = false := bne_eq_false_iff_eq.mpr c3
  clear c3
  have H' := A_ H
  clear H; go_enter Try.func29, Try.ntmps29
  go_wp2
  go_loopg [13] k (fun kq dJ w' => ∃ (ae : Int), dJ = .int .i64 ae ∧ Aside0 (impl_areSmall.l0 kq l0 (l0.length : Int) ae = some r) ∧ Aside0 (kq ≤ k) ∧ Drawn0 w w')
  case atStart => exact ⟨(0), (by rfl), H', ⟨Nat.le_refl _⟩, by repeat (first | exact Drawn0.refl _ | apply Drawn0.step)⟩
  case round =>
   clear H'
   clear aE aG
   obtain ⟨ae, rfl, HA, br, ⟨m1, rfl⟩⟩ := hrel
   cases gk with
   | zero => exact nz_ HA.o
   | succ k1 =>
    have H := HA.o; clear HA; simp only [impl_areSmall.l0] at H
    by_cases c4 : ae < (l0.length : Int)
    ·rw [if_pos c4] at H; have da := decide_eq_true c4; clear c4
     by_cases c5 : 0 ≤ ae
     ·rw [if_pos c5] at H; have dD := decide_eq_true c5; clear c5
      by_cases c6 : ae < (l0.length : Int)
      ·rw [if_pos c6] at H; have bn := decide_eq_true c6; clear c6
       by_cases c7 : (rd l0 ae) < (-9)
       ·rw [if_pos c7] at H; have bP := decide_eq_true c7; clear c7; obtain rfl := Option.some.inj H
        have aw : 0 ≤ (ae : Int) := oa_
        have ax : ae < (l0.length : Int) := oa_
        obtain ⟨bT, bx, bb⟩ := Kd.at_int HR0.o ae aw ax
        cases bx
        replace aw := eq_true aw; replace ax := eq_true ax
        go_wp2
        go_ret
        exact ⟨by rfl, by repeat (first | exact Drawn0.refl _ | apply Drawn0.step)⟩
       rw [if_neg c7] at H; have bP := decide_eq_false c7; clear c7
       by_cases c8 : (rd l0 ae) > 9
       ·rw [if_pos c8] at H
        have cJ : decide (9 < (rd l0 ae)) = true := decide_eq_true c8
        clear c8; obtain rfl := Option.some.inj H
        have aw : 0 ≤ (ae : Int) := oa_
        have ax : ae < (l0.length : Int) := oa_
        obtain ⟨bT, bx, bb⟩ := Kd.at_int HR0.o ae aw ax
        cases bx
        replace aw := eq_true aw; replace ax := eq_true ax
        go_wp2
        go_ret
        exact ⟨by rfl, by repeat (first | exact Drawn0.refl _ | apply Drawn0.step)⟩
       rw [if_neg c8] at H
       have cJ : decide (9 < (rd l0 ae)) = false := decide_eq_false c8
       clear c8
       have H' := A_ H
       clear H
       have aw : 0 ≤ (ae : Int) := oa_
       have ax : ae < (l0.length : Int) := oa_
       obtain ⟨bT, bx, bb⟩ := Kd.at_int HR0.o ae aw ax
       cases bx
       replace aw := eq_true aw; replace ax := eq_true ax
       go_wp2
       go_roundg k1
       case measure => have := br.o; omega
       case rel => exact ⟨(wrap64 (ae + 1)), (by rfl), H', ⟨by have := br.o; omega⟩, by repeat (first | exact Drawn0.refl _ | apply Drawn0.step)⟩
      rw [if_neg c6] at H
      cases H
     rw [if_neg c5] at H
     cases H
    rw [if_neg c4] at H; have da := decide_eq_false c4; clear c4; obtain rfl := Option.some.inj H
    go_wp2
    go_ret
    exact ⟨by rfl, by repeat (first | exact Drawn0.refl _ | apply Drawn0.step)⟩
 rw [if_neg c3] at H
 have aE : ((l0.length : Int) == a1) = false := beq_eq_false_iff_ne.mpr c3
 have aG : ((l0.length : Int) != a1) = true := bne_iff_ne.mpr c3
 obtain rfl := Option.some.inj H; go_enter Try.func29, Try.ntmps29
 go_wp2
 go_ret
 exact ⟨by rfl, by repeat (first | exact Drawn0.refl _ | apply Drawn0.step)⟩

end Go.Proofs.Ytlcepacbbfekoaa.PFnExactSumForms
