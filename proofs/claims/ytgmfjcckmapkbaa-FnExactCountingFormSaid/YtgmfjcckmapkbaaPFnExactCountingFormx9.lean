/- Walks of the functions that the law reaches. -/
import Derived.Test.YtgmfjcckmapkbaaPFnExactCountingFormx0
namespace Go.Proofs.Ytgmfjcckmapkbaa.PFnExactCountingForm
open Go.RowKit Go.Proofs.YtgmfjcckmapkbaaW.PrintWords Go.Proofs.YtgmfjcckmapkbaaW.PrintLast Go.Proofs.YtgmfjcckmapkbaaW.PrintMore
attribute [local go_sem] max2_int min2_int max_two min_two max_three min_three max_four min_four
set_option linter.unusedVariables false
set_option maxHeartbeats 8000000
set_option maxRecDepth 100000
set_option linter.unusedSimpArgs false

def laws_toIntS.l0 : Nat → List Int → List Int → Int → Option (List Int)
 | 0, _, _, _ => none
 | k + 1, x0, x3, x4 => if x4 < (x0.length : Int) then (if 0 ≤ x4 then (if x4 < (x3.length : Int) then (laws_toIntS.l0 k x0 (x3.set (x4 : Int).toNat (rd x0 x4)) (wrap64 (x4 + 1))) else (none)) else (none)) else (some x3)
def laws_toIntS.f (k : Nat) (l0 : List Int) : Option (List Int) := if 0 ≤ (l0.length : Int) then (if ((l0.length : Int) : Int).toNat ≤ 35184372088832 then (laws_toIntS.l0 k l0 (List.replicate ((l0.length : Int) : Int).toNat 0) 0) else (none)) else (none)
theorem laws_toIntS.calls (k : Nat) (A0 : Option Addr) (c0 : Nat) (l0 : List Int) (r : List Int) (w : World) (hr0 : Kd.C (Kd.int .i64) w A0 l0.length l0) (hc0 : l0.length ≤ c0) (h : laws_toIntS.f k l0 = some r) :
  Calls Try.prog 24 #[.slice A0 l0.length c0] w fun e w' => ∃ v0_ : Value, e = .returned (v0_) ∧ Kd.R (Kd.int .i64) 3 w' w.heap.size (fun _ => True) v0_ r ∧ Below w.heap.size w w' := by
 have HR0 := A_ hr0; have HC0 := A_ hc0; clear hr0 hc0; have HB := A_ (Below.refl w.heap.size w); unfold laws_toIntS.f at h; have H := h; clear h
 by_cases c2 : 0 ≤ (l0.length : Int)
 ·rw [if_pos c2] at H; have aM := eq_true c2; have bi := decide_eq_true c2; clear c2
  by_cases c3 : ((l0.length : Int) : Int).toNat ≤ 35184372088832
  ·rw [if_pos c3] at H; have bj := eq_true c3; have bk := decide_eq_true c3; clear c3; obtain ⟨bN, aQ⟩ := ex_ ((List.replicate ((l0.length : Int) : Int).toNat 0) : List Int); replace H : (laws_toIntS.l0 k l0 bN 0) = some r := by (rw [aQ]; with_reducible exact H)
   have bG := A_ aQ; clear aQ
   have H' := A_ H
   clear H; go_enter Try.func24, Try.ntmps24
   go_wp2_with (first | ((with_reducible refine gate_dst (N := 7) rfl ?_); refine Kd.R_make (Kd.int .i64) _ 3 rfl (N := 7) rfl 23 _ _ rfl (l0.length : Int) rfl rfl Try.underlying23 (.int .i64 0) 8 info3 rfl (by decide) (by omega) 0 (ok := fun _ => True) (okp := fun _ => True) rfl (fun _ hk => hk) trivial oa_ (Nat.le_trans (Nat.mul_le_mul_right _ (oa_ : (l0.length : Int).toNat ≤ 35184372088832)) (by omega)) (Below.refl _ _) (Nat.le_refl _) ?_; rintro b5 w4 ho5 hb - -; (rw [← bG.o] at ho5); have bC := A_ (Kd.R_lower ho5 (below_size HB.o)); replace HB := bs_ HB hb; clear hb ho5))
   go_loopg [4] k (fun kq v4 w' => ∃ (ae : List Int) (aa : Int), v4 = .int .i64 aa ∧ Aside0 (laws_toIntS.l0 kq l0 ae aa = some r) ∧ Aside0 (kq ≤ k) ∧ Aside0 (Kd.R (Kd.int .i64) 3 w' w.heap.size (fun _ => True) b5 ae) ∧ Aside0 (Below w.heap.size w w'))
   case atStart => exact ⟨(bN), (0), (by rfl), H', ⟨Nat.le_refl _⟩, ⟨bC.o⟩, ⟨HB.o⟩⟩
   case round =>
    clear H'
    clear aM bi bj bk
    obtain ⟨ae, aa, rfl, HA, bB, ab, HB⟩ := hrel
    cases gk with
    | zero => exact nz_ HA.o
    | succ k1 =>
     have H := HA.o; clear HA; simp only [laws_toIntS.l0] at H
     by_cases c6 : aa < (l0.length : Int)
     ·rw [if_pos c6] at H; have bl := decide_eq_true c6; clear c6
      by_cases c7 : 0 ≤ aa
      ·rw [if_pos c7] at H; have bW := decide_eq_true c7; clear c7
       by_cases c8 : aa < (ae.length : Int)
       ·rw [if_pos c8] at H; have ck := decide_eq_true c8; clear c8; obtain ⟨bw, aT⟩ := ex_ ((ae.set (aa : Int).toNat (rd l0 aa)) : List Int); replace H : (laws_toIntS.l0 k1 l0 bw (wrap64 (aa + 1))) = some r := by (rw [aT]; with_reducible exact H)
        have bH := A_ aT; clear aT
        have H' := A_ H
        clear H
        have bs : 0 ≤ (aa : Int) := oa_
        have bu : aa < (l0.length : Int) := oa_
        obtain ⟨cc, bX, ap⟩ := Kd.at_int HR0.o aa bs bu
        cases bX
        replace ap := (HB.o.cell (World.block_lt_of_cell? w _ ap)).trans ap; replace bs := eq_true bs; replace bu := eq_true bu
        have p9 : 0 ≤ (aa : Int) := oa_
        have q9 : (aa : Int) < ((ae.length : Int) : Int) := oa_
        obtain ⟨b1, co, ce, cf, gl9, cl9, HG9⟩ := Kd.R_form ab.o (by omega)
        (first | cases ce | (injection ce with ea_ en_ ec_; (first | subst ea_ | (injection ea_ with ea_; subst ea_)); subst ec_; clear en_))
        have GB9 := A_ cf; have GG9 := A_ HG9; clear cf gl9 HG9; obtain ⟨cj, cg⟩ := Kd.R_celln 0 ab.o (aa : Int) p9 q9; replace p9 := eq_true p9; replace q9 := eq_true q9; have bh := Kd.R_putg ab.o (aa : Int) (rd l0 aa)
        go_wp2_with (first | ((with_reducible refine gate_store (t := 3) (p := 20) rfl ?_); refine store_event (t := 3) (p := 20) (w1 := (wr.setCell ⟨b1, (aa : Int).toNat, none⟩ (.int .i64 (rd l0 aa)))) rfl rfl rfl (by go_simp; done) ?_; intro w11 hw; have hg : wr.grownBy w11 (some b1) := (by rw [hw]; exact bh.2); have hp_ : Kd.R (Kd.int .i64) 3 w11 w.heap.size (fun _ => True) (.slice (some ⟨b1, 0, none⟩) ae.length co) bw := (by rw [hw, bH.o]; exact bh.1); clear bh; replace ab := A_ (hp_); replace HB := A_ ((by rw [hw]; exact below_set (HB.o) GB9.o : Below w.heap.size w w11)); clear hg hw hp_))
        go_roundg k1
        case measure => have := bB.o; omega
        case rel => exact ⟨(bw), (wrap64 (aa + 1)), (by rfl), H', ⟨by have := bB.o; omega⟩, ⟨ab.o⟩, ⟨HB.o⟩⟩
       rw [if_neg c8] at H
       cases H
      rw [if_neg c7] at H
      cases H
     rw [if_neg c6] at H; have bl := decide_eq_false c6; clear c6; obtain rfl := Option.some.inj H
     go_wp2
     go_ret
     exact ⟨_, by rfl, ab.o, HB.o⟩
  rw [if_neg c3] at H
  cases H
 rw [if_neg c2] at H
 cases H

def laws_toIntSS.l0 : Nat → List (List Int) → List (List Int) → Int → Option ((List (List Int)))
 | 0, _, _, _ => none
 | k + 1, x0, x3, x4 => if x4 < (x0.length : Int) then (if 0 ≤ x4 then ((laws_toIntS.f k (rd_L1 x0 x4)).bind fun aW => (if x4 < (x3.length : Int) then (laws_toIntSS.l0 k x0 (x3.set (x4 : Int).toNat aW) (wrap64 (x4 + 1))) else (none))) else (none)) else (some x3)
def laws_toIntSS.f (k : Nat) (l0 : List (List Int)) : Option ((List (List Int))) := if 0 ≤ (l0.length : Int) then (if ((l0.length : Int) : Int).toNat ≤ 11728124029610 then (laws_toIntSS.l0 k l0 (List.replicate ((l0.length : Int) : Int).toNat []) 0) else (none)) else (none)
theorem laws_toIntSS.calls (k : Nat) (A0 : Option Addr) (c0 : Nat) (l0 : List (List Int)) (r : List (List Int)) (w : World) (hr0 : Kd.C (Kd.slice 3 (Kd.int .i64)) w A0 l0.length l0) (hc0 : l0.length ≤ c0) (h : laws_toIntSS.f k l0 = some r) :
  Calls Try.prog 23 #[.slice A0 l0.length c0] w fun e w' => ∃ v0_ : Value, e = .returned (v0_) ∧ Kd.S (Kd.slice 3 (Kd.int .i64)) 23 w' w.heap.size (fun _ => True) v0_ r ∧ Below w.heap.size w w' := by
 have HR0 := A_ hr0; have HC0 := A_ hc0; clear hr0 hc0; have HB := A_ (Below.refl w.heap.size w); unfold laws_toIntSS.f at h; have H := h; clear h
 by_cases c2 : 0 ≤ (l0.length : Int)
 ·rw [if_pos c2] at H; have aM := eq_true c2; have bi := decide_eq_true c2; clear c2
  by_cases c3 : ((l0.length : Int) : Int).toNat ≤ 11728124029610
  ·rw [if_pos c3] at H; have bj := eq_true c3; have bk := decide_eq_true c3; clear c3; obtain ⟨bO, aU⟩ := ex_ ((List.replicate ((l0.length : Int) : Int).toNat []) : List (List Int)); replace H : (laws_toIntSS.l0 k l0 bO 0) = some r := by (rw [aU]; with_reducible exact H)
   have bI := A_ aU; clear aU
   have H' := A_ H
   clear H; go_enter Try.func23, Try.ntmps23
   go_wp2_with (first | ((with_reducible refine gate_dst (N := 7) rfl ?_); refine Kd.S_make (Kd.slice 3 (Kd.int .i64)) _ 23 rfl (N := 7) rfl 22 _ _ rfl (l0.length : Int) rfl rfl Try.underlying22 (.slice none 0 0) 24 info23 rfl (by decide) (by omega) [] (ok := fun _ => True) (okp := fun _ => True) ⟨_, rfl, Kd.R_nil _ _ _ _ _⟩ (fun _ hk => hk) trivial oa_ (Nat.le_trans (Nat.mul_le_mul_right _ (oa_ : (l0.length : Int).toNat ≤ 11728124029610)) (by omega)) (Below.refl _ _) (Nat.le_refl _) ?_; rintro b6 w4 ho5 hb - -; (rw [← bI.o] at ho5); have bD := A_ (Kd.S_lower ho5 (below_size HB.o)); replace HB := bs_ HB hb; clear hb ho5))
   go_loopg [4] k (fun kq v4 w' => ∃ (ae : List (List Int)) (aa : Int), v4 = .int .i64 aa ∧ Aside0 (laws_toIntSS.l0 kq l0 ae aa = some r) ∧ Aside0 (kq ≤ k) ∧ Aside0 (Kd.S (Kd.slice 3 (Kd.int .i64)) 23 w' w.heap.size (fun _ => True) b6 ae) ∧ Aside0 (Below w.heap.size w w'))
   case atStart => exact ⟨(bO), (0), (by rfl), H', ⟨Nat.le_refl _⟩, ⟨bD.o⟩, ⟨HB.o⟩⟩
   case round =>
    clear H'
    clear aM bi bj bk
    obtain ⟨ae, aa, rfl, HA, bB, ab, HB⟩ := hrel
    cases gk with
    | zero => exact nz_ HA.o
    | succ k1 =>
     have H := HA.o; clear HA; simp only [laws_toIntSS.l0] at H
     by_cases c6 : aa < (l0.length : Int)
     ·rw [if_pos c6] at H; have bl := decide_eq_true c6; clear c6
      by_cases c7 : 0 ≤ aa
      ·rw [if_pos c7] at H; have bW := decide_eq_true c7; clear c7; replace H := bA_ H; obtain ⟨aW, A8, H⟩ := H
       by_cases c9 : aa < (ae.length : Int)
       ·rw [if_pos c9] at H; have cm := decide_eq_true c9; clear c9; obtain ⟨bx, aV⟩ := ex_ ((ae.set (aa : Int).toNat aW) : List (List Int)); replace H : (laws_toIntSS.l0 k1 l0 bx (wrap64 (aa + 1))) = some r := by (rw [aV]; with_reducible exact H)
        have bJ := A_ aV; clear aV
        have H' := A_ H
        clear H
        have bt : 0 ≤ (aa : Int) := oa_
        have bv : aa < (l0.length : Int) := oa_
        obtain ⟨cd, bU, bV, bY, aq, ax, aw⟩ := at_L1 HR0.o aa bt bv
        cases bY
        replace aq := (HB.o.cell (World.block_lt_of_cell? w _ aq)).trans aq; have aZ := A_ aw; have aX := A_ ax; clear aw ax; replace bt := eq_true bt; replace bv := eq_true bv
        go_wp2_with (first | ((with_reducible refine gc_ 24 rfl ?_); refine cM_ E24 20 (laws_toIntS.calls k1 _ _ (rd_L1 l0 aa) aW _ (Kd.C_below aZ.o HB.o) aX.o A8.o) ?_; rintro e w11 ⟨a8, rfl, ho0, hb⟩; refine ⟨_, rfl, ?_⟩; replace ab := A_ (Kd.S_elder' ab.o (Kd.R_base ho0) hb); have ar := A_ (Kd.R_lower ho0 (below_size HB.o)); replace HB := bs_ HB hb; clear hb ho0; have b3 : 0 ≤ (aa : Int) := oa_; have b4 : (aa : Int) < ((ae.length : Int) : Int) := oa_; obtain ⟨aD, bK, bL, bM, gl10, cl10, HG10⟩ := Kd.S_form ab.o (by omega); (first | cases bL | (injection bL with ea_ en_ ec_; (first | subst ea_ | (injection ea_ with ea_; subst ea_)); subst ec_; clear en_)); have GB10 := A_ bM; have GG10 := A_ HG10; clear bM gl10 HG10; obtain ⟨_, ce10, hcl10, hM10, hcc10, hfr10, _, _⟩ := Kd.S_elem ab.o [] (aa : Int) b3 b4; obtain ⟨ve10_0, rfl, ge10_0⟩ := hM10; have bq := hcc10 0 _ rfl; have bo := hfr10 0; (try simp only [show ((Kd.slice 3 (Kd.int .i64))).sz = 1 from rfl, Nat.mul_one, Nat.add_zero] at bq); (try simp only [show ((Kd.slice 3 (Kd.int .i64))).sz = 1 from rfl, Nat.mul_one, Nat.add_zero] at bo); clear hcl10 hcc10 hfr10; replace b3 := eq_true b3; replace b4 := eq_true b4; have n_ := A_ (Kd.S_mono (ok' := (o1 a8)) ab.o (fun k_ hk => hk.2)); clear ab; have ab := n_; clear n_; have HX12 := A_ (show Kd.S (Kd.slice 3 (Kd.int .i64)) 23 w11 w.heap.size (fun k_ => ((fun _ => True)) k_ ∧ ¬ ((fun k_ => some k_ = (a8 : Value).ownBlock)) k_) (.slice (some ⟨aD, 0, none⟩) ae.length bK) ae from (by exact Kd.S_mono ab.o (fun k_ hk => ⟨trivial, fun e_ => hk e_⟩))); obtain ⟨oki12, ce12, hcl12, hM12, hcc12, hfr12, hoki12, hH12⟩ := Kd.S_elem HX12.o [] (aa : Int) oa_ (by have h_ : (aa : Int) < ((ae.length : Int) : Int) := oa_; first | exact h_ | (have e_ := (Kd.S_reads' ab.o).1; omega) | simpa using h_); obtain ⟨ve12_0, rfl, ge12_0⟩ := hM12; have aY := Kd.S_seg hH12 oa_ (by have h_ : (aa : Int) < ((ae.length : Int) : Int) := oa_; first | exact h_ | (have e_ := (Kd.S_reads' ab.o).1; omega) | simpa using h_) (seg := [a8]) (j := 0) (show 1 ≤ 1 from by decide) (x' := aW) (Kd.M_row (Kd.R_mono (Kd.R_tight rfl (Kd.R_mono (ok' := fun k_ => ((fun _ => True)) k_ ∧ k_ ≠ aD) (Kd.R_apart' (ar.o) (Kd.S_typed ab.o) (by decide)) (fun k_ hk => ⟨trivial, fun e_ => (hk.2) (by rw [e_]; rfl)⟩))) (fun _ h_ => Or.inr (h_)))) (fun _ hk => hk) (fun k_ hk_ => ((Kd.R_mono (ok' := fun k_ => ((fun _ => True)) k_ ∧ k_ ≠ aD) (Kd.R_apart' (ar.o) (Kd.S_typed ab.o) (by decide)) (fun k_ hk => ⟨trivial, fun e_ => (hk.2) (by rw [e_]; rfl)⟩))).1 k_ hk_.symm); have br := hcc12 0 _ rfl; (try simp only [show ((Kd.slice 3 (Kd.int .i64))).sz = 1 from rfl, Nat.mul_one, Nat.add_zero] at br); have bp := hfr12 0; (try simp only [show ((Kd.slice 3 (Kd.int .i64))).sz = 1 from rfl, Nat.mul_one, Nat.add_zero] at bp); clear hcl12 hcc12 hfr12 hoki12 hH12; (try simp only [show ((Kd.slice 3 (Kd.int .i64))).sz = 1 from rfl, Nat.mul_one, Nat.add_zero] at aY)) | ((with_reducible refine gate_store (t := 23) (p := 21) rfl ?_); refine store_event (t := 23) (p := 21) (v := ?vo_w13) (w1 := (w11.setCell ⟨aD, (aa : Int).toNat, none⟩ (a8))) ?hg ?ho ?hn ?hr ?_; (case ho => rfl); (case hg => rfl); (case hn => rfl); (case hr => first | (go_simp; done) | (go_simp; rfl) | (obtain ⟨_, _, rfl⟩ := Kd.R_slice ar.o; go_simp; first | done | rfl) | (obtain ⟨_, _, rfl⟩ := Kd.R_slice (Kd.S_R ar.o); go_simp; first | done | rfl)); intro w13 hw; have hg : w11.grownBy w13 (some aD) := (by rw [hw]; exact aY.2); have hp_ : Kd.S (Kd.slice 3 (Kd.int .i64)) 23 w13 w.heap.size (fun _ => True) (.slice (some ⟨aD, 0, none⟩) ae.length bK) bx := (by rw [hw, bJ.o]; exact aY.1); clear aY; replace ab := A_ (hp_); replace HB := A_ ((by rw [hw]; exact below_set (HB.o) GB10.o : Below w.heap.size w w13)); clear ar; clear hg hw hp_))
        go_roundg k1
        case measure => have := bB.o; omega
        case rel => exact ⟨(bx), (wrap64 (aa + 1)), (by rfl), H', ⟨by have := bB.o; omega⟩, ⟨ab.o⟩, ⟨HB.o⟩⟩
       rw [if_neg c9] at H
       cases H
      rw [if_neg c7] at H
      cases H
     rw [if_neg c6] at H; have bl := decide_eq_false c6; clear c6; obtain rfl := Option.some.inj H
     go_wp2
     go_ret
     exact ⟨_, by rfl, ab.o, HB.o⟩
  rw [if_neg c3] at H
  cases H
 rw [if_neg c2] at H
 cases H

def laws_toSequence.f (k : Nat) (ao : Int) (am : List (List Int)) (an : List Int) : Option (Int × (List (List Int)) × List Int) := (laws_toIntSS.f k am).bind fun aE => ((laws_toIntS.f k an).bind fun aG => (some (ao, aE, aG)))
theorem laws_toSequence.calls (k : Nat) (ao : Int) (aH : Option Addr) (aJ : Nat) (am : List (List Int)) (aI : Option Addr) (aK : Nat) (an : List Int) (r1 : Int) (r2 : List (List Int)) (r3 : List Int) (w : World) (bd : Kd.C (Kd.slice 3 (Kd.int .i64)) w aH am.length am) (bb : am.length ≤ aJ) (be : Kd.C (Kd.int .i64) w aI an.length an) (bc : an.length ≤ aK) (h : laws_toSequence.f k ao am an = some (r1, r2, r3)) :
  Calls Try.prog 8 #[.agg #[.int .i64 ao, .slice aH am.length aJ, .slice aI an.length aK]] w fun e w' => ∃ v1_ v2_ : Value, e = .returned (.agg #[.int .i64 r1, v1_, v2_]) ∧ Kd.S (Kd.slice 3 (Kd.int .i64)) 23 w' w.heap.size (o1 v2_) v1_ r2 ∧ Kd.R (Kd.int .i64) 3 w' w.heap.size (fun _ => True) v2_ r3 ∧ Below w.heap.size w w' := by
 have hu25 := Try.underlying25; have hu32 := Try.underlying32; have bE := A_ bd; have bz := A_ bb; clear bd bb; have bF := A_ be; have bA := A_ bc; clear be bc; have HB := A_ (Below.refl w.heap.size w); unfold laws_toSequence.f at h; have H := h; clear h; replace H := bA_ H; obtain ⟨aE, A2, H⟩ := H; replace H := bA_ H; obtain ⟨aG, A3, H⟩ := H; simp only [Option.some.injEq, Prod.mk.injEq] at H; obtain ⟨rfl, rfl, rfl⟩ := H; go_enter Try.func8, Try.ntmps8
 go_wp2_with (first | ((with_reducible refine gate_dst (N := 1) rfl ?_); refine box_event rfl (N := 1) rfl (cs := #[.int .i64 ao, .slice aH am.length aJ, .slice aI an.length aK]) (t := 25) (by go_simp; done) ?_; intro ba hg w4 hbox hb; have ac := A_ (hbox); have b7 := A_ (lg_ (below_size HB.o) hg); have aj := A_ (lg_ (below_size HB.o) hg); replace HB := bs_ HB hb; clear hb hbox hg) | ((with_reducible refine gate_dst (N := 2) rfl ?_); refine box_event rfl (N := 2) rfl (cs := #[.int .i64 0, .slice none 0 0, .slice none 0 0]) (t := 32) (by go_simp; done) ?_; intro aN hg w5 hbox hb; have af := A_ (hbox); have b8 := A_ (lg_ (below_size HB.o) hg); have ak := A_ (lg_ (below_size HB.o) hg); replace HB := bs_ HB hb; have ay := nl_ ac hg; have az := ng_ ac hg; replace ac := bb_ ac hb; clear hb hbox hg) | ((with_reducible refine gate_dst (N := 3) rfl ?_); refine box_event rfl (N := 3) rfl (cs := #[.int .i64 0, .slice none 0 0, .slice none 0 0]) (t := 32) (by go_simp; done) ?_; intro au hg w6 hbox hb; have ah := A_ (hbox); have b9 := A_ (lg_ (below_size HB.o) hg); have al := A_ (lg_ (below_size HB.o) hg); replace HB := bs_ HB hb; have ai := nl_ ac hg; have aA := ng_ ac hg; replace ac := bb_ ac hb; have ag := nl_ af hg; have aC := ng_ af hg; replace af := bb_ af hb; clear hb hbox hg; have cq := ay.o; have cv := az.o; have cr := ai.o; have cw := aA.o; have b2 := bq3 ac.o; have ch := aC.o; have ci := ag.o; have bP := bq3 ah.o) | ((with_reducible refine gc_ 23 rfl ?_); refine cM_ E23 9 (laws_toIntSS.calls k _ _ am aE _ (Kd.C_below bE.o (by repeat (first | (with_reducible first | exact HB.o | apply below_alloc | apply pw_below_drewN | apply below_drew1 | refine below_set ?_ aj.o | refine below_set ?_ ak.o | refine below_set ?_ al.o) | exact HB.o))) bz.o A2.o) ?_; rintro e w12 ⟨cx, rfl, ho0, hb⟩; refine ⟨_, rfl, ?_⟩; have av := A_ (Kd.S_lower ho0 (below_size (by repeat (first | (with_reducible first | exact HB.o | apply below_alloc | apply pw_below_drewN | apply below_drew1 | refine below_set ?_ aj.o | refine below_set ?_ ak.o | refine below_set ?_ al.o) | exact HB.o)))); replace ac := A_ (blk_below (g := ba) (o := .cells #[.int .i64 ao, .slice aH am.length aJ, .slice aI an.length aK] 25 (0, 0)) (by exact fa_ ai ac.o) hb); replace af := A_ (blk_below (g := aN) (o := .cells #[.int .i64 0, .slice none 0 0, .slice none 0 0] 32 (0, 0)) (by exact fa_ ag af.o) hb); replace ah := A_ (blk_below (g := au) (o := .cells #[.int .i64 ao, .slice none 0 0, .slice none 0 0] 32 (0, 0)) (by exact pu_ 0 ah.o rfl) hb); replace HB := A_ (below_step (by repeat (first | (with_reducible first | exact HB.o | apply below_alloc | apply pw_below_drewN | apply below_drew1 | refine below_set ?_ aj.o | refine below_set ?_ ak.o | refine below_set ?_ al.o) | exact HB.o)) hb); clear hb ho0; obtain ⟨bf, bm, bZ⟩ := Kd.S_slice av.o; subst bZ; have bQ := bq3 ah.o; have bR := bq3 ac.o) | ((with_reducible refine gc_ 24 rfl ?_); refine cM_ E24 13 (laws_toIntS.calls k _ _ an aG _ (Kd.C_below bF.o (by repeat (first | (with_reducible first | exact HB.o | apply below_alloc | apply pw_below_drewN | apply below_drew1 | refine below_set ?_ aj.o | refine below_set ?_ ak.o | refine below_set ?_ al.o) | exact HB.o))) bA.o A3.o) ?_; rintro e w16 ⟨cy, rfl, ho0, hb⟩; refine ⟨_, rfl, ?_⟩; replace av := A_ (Kd.S_elder' (by exact (Kd.S_mono (Kd.S_far (p := ⟨au, 1, none⟩) (Kd.S_types av.o ah.o (by decide)) (fun _ hk => hk.2) (.slice bf aE.length bm)) (fun _ h_ => h_.1))) (Kd.R_base ho0) hb); have a9 := A_ (Kd.R_lower ho0 (below_size (by repeat (first | (with_reducible first | exact HB.o | apply below_alloc | apply pw_below_drewN | apply below_drew1 | refine below_set ?_ aj.o | refine below_set ?_ ak.o | refine below_set ?_ al.o) | exact HB.o)))); replace ac := A_ (blk_below (g := ba) (o := .cells #[.int .i64 ao, .slice aH am.length aJ, .slice aI an.length aK] 25 (0, 0)) (by exact fa_ ai ac.o) hb); replace af := A_ (blk_below (g := aN) (o := .cells #[.int .i64 0, .slice none 0 0, .slice none 0 0] 32 (0, 0)) (by exact fa_ ag af.o) hb); replace ah := A_ (blk_below (g := au) (o := .cells #[.int .i64 ao, .slice bf aE.length bm, .slice none 0 0] 32 (0, 0)) (by exact pu_ 1 ah.o rfl) hb); replace HB := A_ (below_step (by repeat (first | (with_reducible first | exact HB.o | apply below_alloc | apply pw_below_drewN | apply below_drew1 | refine below_set ?_ aj.o | refine below_set ?_ ak.o | refine below_set ?_ al.o) | exact HB.o)) hb); clear hb ho0; obtain ⟨bg, bn, b0⟩ := Kd.R_slice a9.o; subst b0; have bS := bq3 ah.o; have bT := bq3 af.o))
 refine bodyPost_ret (results_cell_row rfl _ _ aN 32 #[.int .i64 ao, .slice bf aE.length bm, .slice bg aG.length bn] (0, 0) _ rfl (by exact pu_ 2 (pu_ 1 (pu_ 0 (fa_ ag af.o) rfl) rfl) rfl) Try.underlying32 rfl (by kernel_rfl)) rfl ?_; exact ⟨_, _, by rfl, by exact Kd.S_mono (gS3_ (Kd.S_far (p := ⟨au, 2, none⟩) (Kd.S_types (Kd.S_types av.o ah.o (by decide)) af.o (by decide)) (fun _ hk => hk.1.2) (.slice bg aG.length bn))) (fun _ hk => hk.1.1.2), by exact Kd.R_mono (gR3_ (Kd.R_far (p := ⟨au, 2, none⟩) (Kd.R_types (Kd.R_types a9.o ah.o (by decide)) af.o (by decide)) (fun _ hk => hk.1.2) (.slice bg aG.length bn))) (fun _ hk => trivial), by repeat (first | (with_reducible first | exact HB.o | apply below_alloc | apply pw_below_drewN | apply below_drew1 | refine below_set ?_ aj.o | refine below_set ?_ ak.o | refine below_set ?_ al.o) | exact HB.o)⟩

def impl_isBase.f (a0 : Int) : Option (Bool) := if a0 ≥ 2 then (some (decide (a0 ≤ 4))) else (some false)
theorem impl_isBase.calls (a0 : Int) (r : Bool) (w : World) (h : impl_isBase.f a0 = some r) :
  Calls Try.prog 62 #[.int .i64 a0] w fun e w' => e = .returned (.bool r) ∧ Drawn0 w w' := by
 unfold impl_isBase.f at h; have H := h; clear h
 by_cases c2 : a0 ≥ 2
 ·rw [if_pos c2] at H
  have aM : decide (2 ≤ a0) = true := decide_eq_true c2
  clear c2; obtain rfl := Option.some.inj H; go_enter Try.func62, Try.ntmps62
  go_wp2
  go_ret
  exact ⟨by rfl, by repeat (first | exact Drawn0.refl _ | apply Drawn0.step)⟩
 rw [if_neg c2] at H
 have aM : decide (2 ≤ a0) = false := decide_eq_false c2
 clear c2; obtain rfl := Option.some.inj H; go_enter Try.func62, Try.ntmps62
 go_wp2
 go_ret
 exact ⟨by rfl, by repeat (first | exact Drawn0.refl _ | apply Drawn0.step)⟩

end Go.Proofs.Ytgmfjcckmapkbaa.PFnExactCountingForm

