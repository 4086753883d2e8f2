/- Walks of the functions that the law reaches. -/
import Derived.Test.YtnhpbmagbajliaaPFnBordersx3
namespace Go.Proofs.Ytnhpbmagbajliaa.PFnBorders
open Go.RowKit Go.Proofs.YtnhpbmagbajliaaW.PrintWords Go.Proofs.YtnhpbmagbajliaaW.PrintLast Go.Proofs.YtnhpbmagbajliaaW.PrintMore
attribute [local go_sem] max2_int min2_int max_two min_two max_three min_three max_four min_four
set_option linter.unusedVariables false
set_option maxHeartbeats 8000000
set_option maxRecDepth 100000
set_option linter.unusedSimpArgs false

def spec_AreDigits.l0 : Nat → List Int → Int → Int → Option (Bool)
 | 0, _, _, _ => none
 | k + 1, x0, x1, x5 => if x5 < (x0.length : Int) then (if 0 ≤ x5 then (if (rd x0 x5) < 0 then (some false) else (if (rd x0 x5) ≥ x1 then (some false) else (spec_AreDigits.l0 k x0 x1 (wrap64 (x5 + 1))))) else (none)) else ((spec_l1In.f x1 2 4).bind fun t308 => (if t308 = true then (some (decide ((x0.length : Int) ≤ 16))) else (some false)))
def spec_AreDigits.f (k : Nat) (l0 : List Int) (a1 : Int) : Option (Bool) := spec_AreDigits.l0 k l0 a1 0
theorem spec_AreDigits.calls (k : Nat) (A0 : Option Addr) (c0 : Nat) (l0 : List Int) (a1 : Int) (r : Bool) (w : World) (hr0 : Kd.C (Kd.int .i64) w A0 l0.length l0) (hc0 : l0.length ≤ c0) (h : spec_AreDigits.f k l0 a1 = some r) :
  Calls Try.prog 95 #[.slice A0 l0.length c0, .int .i64 a1] w fun e w' => e = .returned (.bool r) ∧ Drawn0 w w' := by
 have HR0 := A_ hr0; have HC0 := A_ hc0; clear hr0 hc0; unfold spec_AreDigits.f at h; have H := h; clear h
 have H' := A_ H
 clear H; go_enter Try.func95, Try.ntmps95
 go_wp2
 go_loopg [5] k (fun kq v5 w' => ∃ (x5_1 : Int), v5 = .int .i64 x5_1 ∧ Aside0 (spec_AreDigits.l0 kq l0 a1 x5_1 = some r) ∧ Aside0 (kq ≤ k) ∧ Drawn0 w w')
 case atStart => exact ⟨(0), (by rfl), H', ⟨Nat.le_refl _⟩, by repeat (first | exact Drawn0.refl _ | apply Drawn0.step)⟩
 case round =>
  clear H'; obtain ⟨x5_1, rfl, HA, HK1, ⟨m1, rfl⟩⟩ := hrel
  cases gk with
  | zero => exact absurd HA.out (by simp [spec_AreDigits.l0])
  | succ k1 =>
   have H := HA.out; clear HA; simp only [spec_AreDigits.l0] at H
   by_cases c3 : x5_1 < (l0.length : Int)
   ·rw [if_pos c3] at H; have c3b0 := decide_eq_true c3; clear c3
    by_cases c4 : 0 ≤ x5_1
    ·rw [if_pos c4] at H; have c4b0 := decide_eq_true c4; clear c4
     by_cases c5 : (rd l0 x5_1) < 0
     ·rw [if_pos c5] at H; have c5b0 := decide_eq_true c5; clear c5; obtain rfl := Option.some.inj H
      have p306 : 0 ≤ (x5_1 : Int) := od_ (by assumption)
      have q306 : x5_1 < (l0.length : Int) := od_ (by assumption)
      obtain ⟨ad306, e306, hx306_0⟩ := Kd.at_int HR0.out x5_1 p306 q306
      cases e306
      replace p306 := eq_true p306; replace q306 := eq_true q306
      go_wp2
      go_ret
      exact ⟨by rfl, by repeat (first | exact Drawn0.refl _ | apply Drawn0.step)⟩
     rw [if_neg c5] at H; have c5b0 := decide_eq_false c5; clear c5
     by_cases c6 : (rd l0 x5_1) ≥ a1
     ·rw [if_pos c6] at H
      have c6b0 : decide (a1 ≤ (rd l0 x5_1)) = true := decide_eq_true c6
      clear c6; obtain rfl := Option.some.inj H
      have p306 : 0 ≤ (x5_1 : Int) := od_ (by assumption)
      have q306 : x5_1 < (l0.length : Int) := od_ (by assumption)
      obtain ⟨ad306, e306, hx306_0⟩ := Kd.at_int HR0.out x5_1 p306 q306
      cases e306
      replace p306 := eq_true p306; replace q306 := eq_true q306
      have p307 : 0 ≤ (x5_1 : Int) := od_ (by assumption)
      have q307 : x5_1 < (l0.length : Int) := od_ (by assumption)
      obtain ⟨ad307, e307, hx307_0⟩ := Kd.at_int HR0.out x5_1 p307 q307; obtain rfl : ad306 = ad307 := (by injection e307); replace p307 := eq_true p307; replace q307 := eq_true q307
      go_wp2
      go_ret
      exact ⟨by rfl, by repeat (first | exact Drawn0.refl _ | apply Drawn0.step)⟩
     rw [if_neg c6] at H
     have c6b0 : decide (a1 ≤ (rd l0 x5_1)) = false := decide_eq_false c6
     clear c6
     have H' := A_ H
     clear H
     have p306 : 0 ≤ (x5_1 : Int) := od_ (by assumption)
     have q306 : x5_1 < (l0.length : Int) := od_ (by assumption)
     obtain ⟨ad306, e306, hx306_0⟩ := Kd.at_int HR0.out x5_1 p306 q306
     cases e306
     replace p306 := eq_true p306; replace q306 := eq_true q306
     have p307 : 0 ≤ (x5_1 : Int) := od_ (by assumption)
     have q307 : x5_1 < (l0.length : Int) := od_ (by assumption)
     obtain ⟨ad307, e307, hx307_0⟩ := Kd.at_int HR0.out x5_1 p307 q307; obtain rfl : ad306 = ad307 := (by injection e307); replace p307 := eq_true p307; replace q307 := eq_true q307
     go_wp2
     go_roundg k1
     case measure => have := HK1.out; omega
     case rel => exact ⟨(wrap64 (x5_1 + 1)), (by rfl), H', ⟨by have := HK1.out; omega⟩, by repeat (first | exact Drawn0.refl _ | apply Drawn0.step)⟩
    rw [if_neg c4] at H
    cases H
   rw [if_neg c3] at H; have c3b0 := decide_eq_false c3; clear c3; replace H := bA_ H; obtain ⟨t308, A7, H⟩ := H
   by_cases c8 : t308 = true
   ·subst c8; rw [if_pos rfl] at H; obtain rfl := Option.some.inj H
    go_wp2_with (first | ((with_reducible refine gc_ 60 rfl ?_); refine cD_ E60 26 rfl rfl rfl (spec_l1In.calls a1 2 4 true _ A7.out) (by simp only [mA, mB, mC]; rfl) fun nd => ?_))
    go_ret
    exact ⟨by rfl, by repeat (first | exact Drawn0.refl _ | apply Drawn0.step)⟩
   replace c8 := Bool.eq_false_iff.mpr c8; subst c8; rw [if_neg nf_] at H; obtain rfl := Option.some.inj H
   go_wp2_with (first | ((with_reducible refine gc_ 60 rfl ?_); refine cD_ E60 26 rfl rfl rfl (spec_l1In.calls a1 2 4 false _ A7.out) (by simp only [mA, mB, mC]; rfl) fun nd => ?_))
   go_ret
   exact ⟨by rfl, by repeat (first | exact Drawn0.refl _ | apply Drawn0.step)⟩

mutual
def spec_StateAfter.j0 : Nat → List Int → Bool → Int → List (List Int) → List Int → Option (Int)
 | 0, _, _, _, _, _ => none
 | k + 1, x1, x16, x310000, x310001, x310002 => if x16 = true then (some (-1)) else (spec_StateAfter.l0 k x1 0 0 x310000 x310001 x310002)
def spec_StateAfter.l0 : Nat → List Int → Int → Int → Int → List (List Int) → List Int → Option (Int)
 | 0, _, _, _, _, _, _ => none
 | k + 1, x1, x5, x6, x310000, x310001, x310002 => if x6 < (x1.length : Int) then (if 0 ≤ x5 then (if x5 < (x310001.length : Int) then (if 0 ≤ x6 then (if 0 ≤ (rd x1 x6) then (if (rd x1 x6) < ((rd_L2 x310001 x5).length : Int) then (spec_StateAfter.l0 k x1 (rd (rd_L2 x310001 x5) (rd x1 x6)) (wrap64 (x6 + 1)) x310000 x310001 x310002) else (none)) else (none)) else (none)) else (none)) else (none)) else (some x5)
end
def spec_StateAfter.f (k : Nat) (a0_0 : Int) (l0_1 : List (List Int)) (l0_2 : List Int) (l1 : List Int) : Option (Int) := (spec_IsSequence.f k a0_0 l0_1 l0_2).bind fun t310 => (if t310 = true then ((spec_AreDigits.f k l1 a0_0).bind fun t311 => (spec_StateAfter.j0 k l1 (!t311) a0_0 l0_1 l0_2)) else (spec_StateAfter.j0 k l1 true a0_0 l0_1 l0_2))
theorem spec_StateAfter.calls (k : Nat) (a0_0 : Int) (A0_1 : Option Addr) (c0_1 : Nat) (l0_1 : List (List Int)) (A0_2 : Option Addr) (c0_2 : Nat) (l0_2 : List Int) (A1 : Option Addr) (c1 : Nat) (l1 : List Int) (r : Int) (w : World) (hr0_1 : Kd.C (Kd.slice 3 (Kd.int .i64)) w A0_1 l0_1.length l0_1) (hc0_1 : l0_1.length ≤ c0_1) (hr0_2 : Kd.C (Kd.int .i64) w A0_2 l0_2.length l0_2) (hc0_2 : l0_2.length ≤ c0_2) (hr1 : Kd.C (Kd.int .i64) w A1 l1.length l1) (hc1 : l1.length ≤ c1) (h : spec_StateAfter.f k a0_0 l0_1 l0_2 l1 = some r) :
  Calls Try.prog 90 #[.agg #[.int .i64 a0_0, .slice A0_1 l0_1.length c0_1, .slice A0_2 l0_2.length c0_2], .slice A1 l1.length c1] w fun e w' => e = .returned (.int .i64 r) ∧ Below w.heap.size w w' := by
 have hu58 := Try.underlying58; have HR0_1 := A_ hr0_1; have HC0_1 := A_ hc0_1; clear hr0_1 hc0_1; have HR0_2 := A_ hr0_2; have HC0_2 := A_ hc0_2; clear hr0_2 hc0_2; have HR1 := A_ hr1; have HC1 := A_ hc1; clear hr1 hc1; have HB := A_ (Below.refl w.heap.size w); unfold spec_StateAfter.f at h; have H := h; clear h; have HC3 := A_ H; clear H; go_enter Try.func90, Try.ntmps90
 go_upto_region 1 with (first | ((with_reducible refine gate_dst (N := 2) rfl ?_); refine box_event ?hg (N := 2) ?hd (cs := #[.int .i64 a0_0, .slice A0_1 l0_1.length c0_1, .slice A0_2 l0_2.length c0_2]) (t := 58) ?hr ?_; (case hd | hg => rfl); (case hr => go_simp; done); intro gb309 hg w4 hbox hb; have BK309 := A_ (hbox); have GW309 := A_ (lg_ (below_size HB.out) hg); have GE309 := A_ (lg_ (below_size HB.out) hg); replace HB := bs_ HB hb; clear hb hbox hg))
 repeat (go_quiet (first | ((with_reducible refine gate_dst (N := 2) rfl ?_); refine box_event ?hg (N := 2) ?hd (cs := #[.int .i64 a0_0, .slice A0_1 l0_1.length c0_1, .slice A0_2 l0_2.length c0_2]) (t := 58) ?hr ?_; (case hd | hg => rfl); (case hr => first | (go_simp; done) | (go_simp; rfl)); intro gb309 hg w4 hbox hb; have BK309 := A_ (hbox); have GW309 := A_ (lg_ (below_size HB.out) hg); have GE309 := A_ (lg_ (below_size HB.out) hg); replace HB := bs_ HB hb; clear hb hbox hg)); go_upto_region 1 with (first | ((with_reducible refine gate_dst (N := 2) rfl ?_); refine box_event ?hg (N := 2) ?hd (cs := #[.int .i64 a0_0, .slice A0_1 l0_1.length c0_1, .slice A0_2 l0_2.length c0_2]) (t := 58) ?hr ?_; (case hd | hg => rfl); (case hr => first | (go_simp; done) | (go_simp; rfl)); intro gb309 hg w4 hbox hb; have BK309 := A_ (hbox); have GW309 := A_ (lg_ (below_size HB.out) hg); have GE309 := A_ (lg_ (below_size HB.out) hg); replace HB := bs_ HB hb; clear hb hbox hg)))
 (try simp only [Act.put, mD, mE, mF])
 go_cut [16] (fun v16 wc => ∃ (kq : Nat) (x16_2 : Bool), v16 = .bool x16_2 ∧ Aside0 (spec_StateAfter.j0 kq l1 x16_2 a0_0 l0_1 l0_2 = some r) ∧ Aside0 (kq ≤ k) ∧ Aside0 (wc.heap[gb309]? = some (.cells #[.int .i64 a0_0, (.slice A0_1 l0_1.length c0_1), (.slice A0_2 l0_2.length c0_2)] 58 (0, 0))) ∧ Aside0 (Below w.heap.size w wc))
 case first =>
  have H := HC3.out; clear HC3; replace H := bA_ H; obtain ⟨t310, A5, H⟩ := H
  by_cases c6 : t310 = true
  ·subst c6; rw [if_pos rfl] at H; replace H := bA_ H; obtain ⟨t311, A7, H⟩ := H
   have H' := A_ H
   clear H; have hcz8_0 := bz0 BK309.out; have hcz8_1 := bz1 BK309.out; have hcz8_2 := bz2 BK309.out; have hfz8_0 := blk_frozen BK309.out 0; have hfz8_1 := blk_frozen BK309.out 1; have hfz8_2 := blk_frozen BK309.out 2
   go_wp2_with (first | (go_at_call 81; (with_reducible refine (spec_IsSequence.calls k a0_0 _ _ l0_1 _ _ l0_2 true _ ?side1 ?side2 ?side3 ?side4 A5.out).mono ?_); (case side1 => exact (Kd.C_below HR0_1.out HB.out)); (case side2 => exact HC0_1.out); (case side3 => exact (Kd.C_below HR0_2.out HB.out)); (case side4 => exact HC0_2.out); rintro e w9 ⟨rfl, hb⟩; replace BK309 := bb_ BK309 hb; replace HB := bs_ HB hb; clear hb; have hcz10_0 := bz0 BK309.out; have hcz10_1 := bz1 BK309.out; have hcz10_2 := bz2 BK309.out; have hfz10_0 := blk_frozen BK309.out 0; have hfz10_1 := blk_frozen BK309.out 1; have hfz10_2 := blk_frozen BK309.out 2) | (go_at_call 95; (with_reducible refine (spec_AreDigits.calls k _ _ l1 a0_0 t311 _ ?side1 ?side2 A7.out).mono ?_); (case side1 => exact (Kd.C_below HR1.out HB.out)); (case side2 => exact HC1.out); rintro e w' ⟨rfl, ⟨nd, rfl⟩⟩; skip))
   repeat (go_quiet (first | (go_at_call 81; (with_reducible refine (spec_IsSequence.calls k a0_0 _ _ l0_1 _ _ l0_2 true _ ?side1 ?side2 ?side3 ?side4 A5.out).mono ?_); (case side1 => exact (Kd.C_below HR0_1.out HB.out)); (case side2 => exact HC0_1.out); (case side3 => exact (Kd.C_below HR0_2.out HB.out)); (case side4 => exact HC0_2.out); rintro e w9 ⟨rfl, hb⟩; replace BK309 := bb_ BK309 hb; replace HB := bs_ HB hb; have hcz10_0 := bz0 BK309.out; have hcz10_1 := bz1 BK309.out; have hcz10_2 := bz2 BK309.out; have hfz10_0 := blk_frozen BK309.out 0; have hfz10_1 := blk_frozen BK309.out 1; have hfz10_2 := blk_frozen BK309.out 2) | (go_at_call 95; (with_reducible refine (spec_AreDigits.calls k _ _ l1 a0_0 t311 _ ?side1 ?side2 A7.out).mono ?_); (case side1 => exact (Kd.C_below HR1.out HB.out)); (case side2 => exact HC1.out); rintro e w' ⟨rfl, ⟨nd, rfl⟩⟩; skip)); try go_wp2_with (first | (go_at_call 81; (with_reducible refine (spec_IsSequence.calls k a0_0 _ _ l0_1 _ _ l0_2 true _ ?side1 ?side2 ?side3 ?side4 A5.out).mono ?_); (case side1 => exact (Kd.C_below HR0_1.out HB.out)); (case side2 => exact HC0_1.out); (case side3 => exact (Kd.C_below HR0_2.out HB.out)); (case side4 => exact HC0_2.out); rintro e w9 ⟨rfl, hb⟩; replace BK309 := bb_ BK309 hb; replace HB := bs_ HB hb; have hcz10_0 := bz0 BK309.out; have hcz10_1 := bz1 BK309.out; have hcz10_2 := bz2 BK309.out; have hfz10_0 := blk_frozen BK309.out 0; have hfz10_1 := blk_frozen BK309.out 1; have hfz10_2 := blk_frozen BK309.out 2) | (go_at_call 95; (with_reducible refine (spec_AreDigits.calls k _ _ l1 a0_0 t311 _ ?side1 ?side2 A7.out).mono ?_); (case side1 => exact (Kd.C_below HR1.out HB.out)); (case side2 => exact HC1.out); rintro e w' ⟨rfl, ⟨nd, rfl⟩⟩; skip)))
   go_meet
   case rel => exact ⟨_, (!t311), (by rfl), H', ⟨by omega⟩, ⟨by (with_reducible repeat (first | refine blk_drewN ?_ _ | refine blk_drew ?_ | refine blk_alloc ?_ _)); exact BK309.out⟩, ⟨by repeat (first | (with_reducible first | exact HB.out | apply below_alloc | apply pw_below_drewN | apply below_drew1 | refine below_set ?_ GE309.out) | exact HB.out)⟩⟩
  replace c6 := Bool.eq_false_iff.mpr c6; subst c6; rw [if_neg nf_] at H
  have H' := A_ H
  clear H; have hcz11_0 := bz0 BK309.out; have hcz11_1 := bz1 BK309.out; have hcz11_2 := bz2 BK309.out; have hfz11_0 := blk_frozen BK309.out 0; have hfz11_1 := blk_frozen BK309.out 1; have hfz11_2 := blk_frozen BK309.out 2
  go_wp2_with (first | (go_at_call 81; (with_reducible refine (spec_IsSequence.calls k a0_0 _ _ l0_1 _ _ l0_2 false _ ?side1 ?side2 ?side3 ?side4 A5.out).mono ?_); (case side1 => exact (Kd.C_below HR0_1.out HB.out)); (case side2 => exact HC0_1.out); (case side3 => exact (Kd.C_below HR0_2.out HB.out)); (case side4 => exact HC0_2.out); rintro e w12 ⟨rfl, hb⟩; replace BK309 := bb_ BK309 hb; replace HB := bs_ HB hb; clear hb; (try clear hi)))
  repeat (go_quiet (first | (go_at_call 81; (with_reducible refine (spec_IsSequence.calls k a0_0 _ _ l0_1 _ _ l0_2 false _ ?side1 ?side2 ?side3 ?side4 A5.out).mono ?_); (case side1 => exact (Kd.C_below HR0_1.out HB.out)); (case side2 => exact HC0_1.out); (case side3 => exact (Kd.C_below HR0_2.out HB.out)); (case side4 => exact HC0_2.out); rintro e w12 ⟨rfl, hb⟩; replace BK309 := bb_ BK309 hb; replace HB := bs_ HB hb; (try clear hi))); try go_wp2_with (first | (go_at_call 81; (with_reducible refine (spec_IsSequence.calls k a0_0 _ _ l0_1 _ _ l0_2 false _ ?side1 ?side2 ?side3 ?side4 A5.out).mono ?_); (case side1 => exact (Kd.C_below HR0_1.out HB.out)); (case side2 => exact HC0_1.out); (case side3 => exact (Kd.C_below HR0_2.out HB.out)); (case side4 => exact HC0_2.out); rintro e w12 ⟨rfl, hb⟩; replace BK309 := bb_ BK309 hb; replace HB := bs_ HB hb; (try clear hi))))
  go_meet
  case rel => exact ⟨_, (true), (by rfl), H', ⟨by omega⟩, ⟨BK309.out⟩, ⟨HB.out⟩⟩
 case rest =>
  clear HC3; obtain ⟨kq, x16_2, rfl, HA, HJ2, BK309, HB⟩ := hcut
  cases kq with
  | zero => exact absurd HA.out (by simp [spec_StateAfter.j0])
  | succ kj2 =>
   have H := HA.out; clear HA; simp only [spec_StateAfter.j0] at H
   by_cases c13 : x16_2 = true
   ·subst c13; rw [if_pos rfl] at H; obtain rfl := Option.some.inj H
    go_wp2
    repeat (go_quiet (fail); try go_wp2)
    go_ret
    exact ⟨by rfl, HB.out⟩
   replace c13 := Bool.eq_false_iff.mpr c13; subst c13; rw [if_neg nf_] at H
   have H' := A_ H
   clear H
   go_wp2
   repeat (go_quiet (fail); try go_wp2)
   go_loopg [5, 6] kj2 (fun kq v5 v6 w' => ∃ (x5_2 : Int) (x6_2 : Int), v5 = .int .i64 x5_2 ∧ v6 = .int .i64 x6_2 ∧ Aside0 (spec_StateAfter.l0 kq l1 x5_2 x6_2 a0_0 l0_1 l0_2 = some r) ∧ Aside0 (kq ≤ kj2) ∧ Aside0 (w'.heap[gb309]? = some (.cells #[.int .i64 a0_0, (.slice A0_1 l0_1.length c0_1), (.slice A0_2 l0_2.length c0_2)] 58 (0, 0))) ∧ Aside0 (Below w.heap.size w w'))
   case atStart => exact ⟨(0), (0), (by rfl), (by rfl), H', ⟨Nat.le_refl _⟩, ⟨BK309.out⟩, ⟨HB.out⟩⟩
   case round =>
    clear H'; obtain ⟨x5_2, x6_2, rfl, rfl, HA, HK2, BK309, HB⟩ := hrel
    cases gk with
    | zero => exact absurd HA.out (by simp [spec_StateAfter.l0])
    | succ k2 =>
     have H := HA.out; clear HA; simp only [spec_StateAfter.l0] at H
     by_cases c14 : x6_2 < (l1.length : Int)
     ·rw [if_pos c14] at H; have c14b0 := decide_eq_true c14; clear c14
      by_cases c15 : 0 ≤ x5_2
      ·rw [if_pos c15] at H; have c15b0 := decide_eq_true c15; clear c15
       by_cases c16 : x5_2 < (l0_1.length : Int)
       ·rw [if_pos c16] at H; have c16b0 := decide_eq_true c16; clear c16
        by_cases c17 : 0 ≤ x6_2
        ·rw [if_pos c17] at H; have c17b0 := decide_eq_true c17; clear c17
         by_cases c18 : 0 ≤ (rd l1 x6_2)
         ·rw [if_pos c18] at H; have c18b0 := decide_eq_true c18; clear c18
          by_cases c19 : (rd l1 x6_2) < ((rd_L2 l0_1 x5_2).length : Int)
          ·rw [if_pos c19] at H; have c19b0 := decide_eq_true c19; clear c19
           have H' := A_ H
           clear H; have hcz20_0 := bz0 BK309.out; have hcz20_1 := bz1 BK309.out; have hcz20_2 := bz2 BK309.out; have hfz20_0 := blk_frozen BK309.out 0; have hfz20_1 := blk_frozen BK309.out 1; have hfz20_2 := blk_frozen BK309.out 2
           have p312 : 0 ≤ (x5_2 : Int) := od_ (by assumption)
           have q312 : x5_2 < (l0_1.length : Int) := od_ (by assumption)
           obtain ⟨ad312, A312_0, c312_0, e312, hx312_0, hl312_0, hi312_0⟩ := at_L2 HR0_1.out x5_2 p312 q312
           cases e312
           replace hx312_0 := (HB.out.cell (World.block_lt_of_cell? w _ hx312_0)).trans hx312_0; have HR312_0 := A_ hi312_0; have HC312_0 := A_ hl312_0; clear hi312_0 hl312_0; replace p312 := eq_true p312; replace q312 := eq_true q312
           have p313 : 0 ≤ (x6_2 : Int) := od_ (by assumption)
           have q313 : x6_2 < (l1.length : Int) := od_ (by assumption)
           obtain ⟨ad313, e313, hx313_0⟩ := Kd.at_int HR1.out x6_2 p313 q313
           cases e313
           replace hx313_0 := (HB.out.cell (World.block_lt_of_cell? w _ hx313_0)).trans hx313_0; replace p313 := eq_true p313; replace q313 := eq_true q313
           have p314 : 0 ≤ ((rd l1 x6_2) : Int) := od_ (by assumption)
           have q314 : (rd l1 x6_2) < ((rd_L2 l0_1 x5_2).length : Int) := od_ (by assumption)
           obtain ⟨ad314, e314, hx314_0⟩ := Kd.at_int HR312_0.out (rd l1 x6_2) p314 q314
           cases e314
           replace hx314_0 := (HB.out.cell (World.block_lt_of_cell? w _ hx314_0)).trans hx314_0; replace p314 := eq_true p314; replace q314 := eq_true q314
           go_wp2
           repeat (go_quiet (fail); try go_wp2)
           go_roundg k2
           case measure => have := HJ2.out; have := HK2.out; omega
           case rel => exact ⟨(rd (rd_L2 l0_1 x5_2) (rd l1 x6_2)), (wrap64 (x6_2 + 1)), (by rfl), (by rfl), H', ⟨by have := HJ2.out; have := HK2.out; omega⟩, ⟨by (with_reducible repeat (first | refine blk_drewN ?_ _ | refine blk_drew ?_ | refine blk_alloc ?_ _)); exact BK309.out⟩, ⟨by repeat (first | (with_reducible first | exact HB.out | apply below_alloc | apply pw_below_drewN | apply below_drew1 | refine below_set ?_ GE309.out) | exact HB.out)⟩⟩
          rw [if_neg c19] at H
          cases H
         rw [if_neg c18] at H
         cases H
        rw [if_neg c17] at H
        cases H
       rw [if_neg c16] at H
       cases H
      rw [if_neg c15] at H
      cases H
     rw [if_neg c14] at H; have c14b0 := decide_eq_false c14; clear c14; obtain rfl := Option.some.inj H
     go_wp2
     repeat (go_quiet (fail); try go_wp2)
     go_ret
     exact ⟨by rfl, HB.out⟩

mutual
def spec_DigitsOf.j0 : Nat → Int → Int → List Int → Bool → Option (List Int)
 | 0, _, _, _, _ => none
 | k + 1, x0, x1, x5, x19 => if x19 = true then (some x5) else (spec_DigitsOf.l0 k x0 x1 x5)
def spec_DigitsOf.l0 : Nat → Int → Int → List Int → Option (List Int)
 | 0, _, _, _ => none
 | k + 1, x0, x1, x5 => if x0 > 0 then (if x1 = 0 then (none) else ((some (([Int.tmod x0 x1] : List Int) : List Int)).bind fun y320 => (if y320.length + x5.length < 17592186044416 then (spec_DigitsOf.l0 k (wrap64 (Int.tdiv x0 x1)) x1 (y320 ++ x5)) else (none)))) else (some x5)
end
def spec_DigitsOf.f (k : Nat) (a0 : Int) (a1 : Int) : Option (List Int) := (some (([] : List Int) : List Int)).bind fun y315 => (if a0 < 0 then (spec_DigitsOf.j0 k a0 a1 y315 true) else ((spec_l1In.f a1 2 4).bind fun t318 => (if t318 = true then ((spec_PowerOf.f k a1 16).bind fun t319 => (spec_DigitsOf.j0 k a0 a1 y315 (decide (a0 ≥ t319)))) else (spec_DigitsOf.j0 k a0 a1 y315 true))))
theorem spec_DigitsOf.calls (k : Nat) (a0 : Int) (a1 : Int) (r : List Int) (w : World) (h : spec_DigitsOf.f k a0 a1 = some r) :
  Calls Try.prog 91 #[.int .i64 a0, .int .i64 a1] w fun e w' => ∃ v0_ : Value, e = .returned (v0_) ∧ Kd.R (Kd.int .i64) 3 w' w.heap.size (fun _ => True) v0_ r ∧ Below w.heap.size w w' := by
 have HB := A_ (Below.refl w.heap.size w); unfold spec_DigitsOf.f at h; have H := h; clear h; obtain ⟨y315, hy315⟩ := ex_ ((([] : List Int)) : List Int); replace H : (if a0 < 0 then (spec_DigitsOf.j0 k a0 a1 y315 true) else ((spec_l1In.f a1 2 4).bind fun t318 => (if t318 = true then ((spec_PowerOf.f k a1 16).bind fun t319 => (spec_DigitsOf.j0 k a0 a1 y315 (decide (a0 ≥ t319)))) else (spec_DigitsOf.j0 k a0 a1 y315 true)))) = some r := by (have H2_ := (Option.bind_some _ _).symm.trans H; rw [hy315]; with_reducible exact H2_)
 have Ny315 := A_ hy315; clear hy315; have HC3 := A_ H; clear H; go_enter Try.func91, Try.ntmps91
 go_upto_region 2 with (first | ((with_reducible refine gd_ 6 rfl ?_); refine RL_ 6 3 [] [] rfl rfl (by go_simp; done) rfl rfl ?_; rintro v316 w4 ho5 hb - -; (rw [← Ny315.out] at ho5); have HO317 := A_ (Kd.R_lower ho5 (below_size HB.out)); replace HB := bs_ HB hb; clear hb ho5))
 (try simp only [Act.put, mD, mE, mF])
 go_cut [19] (fun v19 wc => ∃ (kq : Nat) (x19_2 : Bool), v19 = .bool x19_2 ∧ Aside0 (spec_DigitsOf.j0 kq a0 a1 y315 x19_2 = some r) ∧ Aside0 (kq ≤ k) ∧ Aside0 (Kd.R (Kd.int .i64) 3 wc w.heap.size (fun _ => True) v316 y315) ∧ Aside0 (Below w.heap.size w wc))
 case first =>
  have H := HC3.out; clear HC3
  by_cases c6 : a0 < 0
  ·rw [if_pos c6] at H; have c6b0 := decide_eq_true c6; clear c6
   (skip)
   have H' := A_ H
   clear H
   go_wp2
   go_meet
   case rel => exact ⟨_, (true), (by rfl), H', ⟨by omega⟩, ⟨HO317.out⟩, ⟨HB.out⟩⟩
  rw [if_neg c6] at H; have c6b0 := decide_eq_false c6; clear c6
  (skip)
  replace H := bA_ H; obtain ⟨t318, A7, H⟩ := H
  by_cases c8 : t318 = true
  ·subst c8; rw [if_pos rfl] at H; replace H := bA_ H; obtain ⟨t319, A9, H⟩ := H
   have H' := A_ H
   clear H
   go_wp2_with (first | (go_at_call 60; (with_reducible refine (spec_l1In.calls a1 2 4 true _ A7.out).mono ?_); rintro e w' ⟨rfl, ⟨nd, rfl⟩⟩) | (go_at_call 89; (with_reducible refine (spec_PowerOf.calls k a1 16 t319 _ A9.out).mono ?_); rintro e w' ⟨rfl, ⟨nd, rfl⟩⟩))
   go_meet
   case rel => exact ⟨_, (decide (a0 ≥ t319)), (by rfl), H', ⟨by omega⟩, ⟨by (with_reducible repeat (first | apply Kd.R_alloc | apply Kd.R_drewN | apply Kd.R_drew)); exact HO317.out⟩, ⟨by repeat (first | (with_reducible first | exact HB.out | apply below_alloc | apply pw_below_drewN | apply below_drew1) | exact HB.out)⟩⟩
  replace c8 := Bool.eq_false_iff.mpr c8; subst c8; rw [if_neg nf_] at H
  have H' := A_ H
  clear H
  go_wp2_with (first | (go_at_call 60; (with_reducible refine (spec_l1In.calls a1 2 4 false _ A7.out).mono ?_); rintro e w' ⟨rfl, ⟨nd, rfl⟩⟩))
  go_meet
  case rel => exact ⟨_, (true), (by rfl), H', ⟨by omega⟩, ⟨by (with_reducible repeat (first | apply Kd.R_alloc | apply Kd.R_drewN | apply Kd.R_drew)); exact HO317.out⟩, ⟨by repeat (first | (with_reducible first | exact HB.out | apply below_alloc | apply pw_below_drewN | apply below_drew1) | exact HB.out)⟩⟩
 case rest =>
  clear HC3; obtain ⟨kq, x19_2, rfl, HA, HJ2, HO_5, HB⟩ := hcut
  cases kq with
  | zero => exact absurd HA.out (by simp [spec_DigitsOf.j0])
  | succ kj2 =>
   have H := HA.out; clear HA; simp only [spec_DigitsOf.j0] at H
   by_cases c10 : x19_2 = true
   ·subst c10; rw [if_pos rfl] at H; obtain rfl := Option.some.inj H
    go_wp2
    go_ret
    exact ⟨_, by rfl, HO_5.out, HB.out⟩
   replace c10 := Bool.eq_false_iff.mpr c10; subst c10; rw [if_neg nf_] at H
   have H' := A_ H
   clear H
   go_wp2
   go_loopg [0, 5] kj2 (fun kq v0 v5 w' => ∃ (x0_2 : Int) (x5_2 : List Int), v0 = .int .i64 x0_2 ∧ Aside0 (spec_DigitsOf.l0 kq x0_2 a1 x5_2 = some r) ∧ Aside0 (kq ≤ kj2) ∧ Aside0 (Kd.R (Kd.int .i64) 3 w' w.heap.size (fun _ => True) v5 x5_2) ∧ Aside0 (Below w.heap.size w w'))
   case atStart => exact ⟨(a0), (y315), (by rfl), H', ⟨Nat.le_refl _⟩, ⟨HO_5.out⟩, ⟨HB.out⟩⟩
   case round =>
    clear H'; obtain ⟨x0_2, x5_2, rfl, HA, HK2, HO_5, HB⟩ := hrel
    cases gk with
    | zero => exact absurd HA.out (by simp [spec_DigitsOf.l0])
    | succ k2 =>
     have H := HA.out; clear HA; simp only [spec_DigitsOf.l0] at H
     by_cases c11 : x0_2 > 0
     ·rw [if_pos c11] at H
      have c11b0 : decide (0 < x0_2) = true := decide_eq_true c11
      clear c11
      by_cases c12 : a1 = 0
      ·rw [if_pos c12] at H
       cases H
      rw [if_neg c12] at H
      have c12b0 : (a1 == 0) = false := beq_eq_false_iff_ne.mpr c12
      have c12b1 : (a1 != 0) = true := bne_iff_ne.mpr c12
      obtain ⟨y320, hy320⟩ := ex_ ((([Int.tmod x0_2 a1] : List Int)) : List Int); replace H : (if y320.length + x5_2.length < 17592186044416 then (spec_DigitsOf.l0 k2 (wrap64 (Int.tdiv x0_2 a1)) a1 (y320 ++ x5_2)) else (none)) = some r := by (have H2_ := (Option.bind_some _ _).symm.trans H; rw [hy320]; with_reducible exact H2_)
      have Ny320 := A_ hy320; clear hy320
      by_cases c13 : y320.length + x5_2.length < 17592186044416
      ·rw [if_pos c13] at H; have LMc13 := A_ c13; clear c13; obtain ⟨y323, hy323⟩ := ex_ ((y320 ++ x5_2) : List Int); replace H : (spec_DigitsOf.l0 k2 (wrap64 (Int.tdiv x0_2 a1)) a1 y323) = some r := by (rw [hy323]; with_reducible exact H)
       have Ny323 := A_ hy323; clear hy323
       have H' := A_ H
       clear H
       go_wp2_with (first | ((with_reducible refine gate_dst (N := 26) rfl ?_); refine Kd.R_lit (Kd.int .i64) _ 3 ?hg (N := 26) ?hd (xs := ([Int.tmod x0_2 a1] : List Int)) (inner := [.int .i64 (Int.tmod x0_2 a1)]) (ok := fun _ => True) (okp := fun _ => True) ?hr ?hp (fun _ hk => hk) trivial (Below.refl _ _) (Nat.le_refl _) (by simp) ?_; (case hd | hg => rfl); (case hr => go_simp; done); (case hp => exact (Reps.one (show Kd.M (Kd.int .i64) _ _ _ (Int.tmod x0_2 a1) [.int .i64 (Int.tmod x0_2 a1)] from rfl) (Reps.none _ _))); rintro v321 w14 ho15 hb - -; (rw [← Ny320.out] at ho15); have HO322 := A_ (Kd.R_lower (Kd.R_new' ho15 (Kd.R_lt HO_5.out)) (below_size HB.out)); replace HO_5 := A_ (Kd.R_elder' HO_5.out (Kd.R_base ho15) hb); replace HB := bs_ HB hb; clear hb ho15; obtain ⟨Ao17, co17, eo17⟩ := Kd.R_slice HO_5.out; subst eo17) | ((with_reducible refine gate_builtin (b := .append) (xs := #[.tmp 26, .tmp 27]) rfl ?_); at_builtin; refine Kd.R_append_rows (Kd.int .i64) (w0 := w) w.heap.size rfl (.tmp 26) (.tmp 27) 24 3 (.int .i64 0) 8 rfl Try.underlying24 info3 rfl (by decide) (by omega) v321 y320 x5_2 _ _ _ (fun k_ => some k_ ≠ (.slice Ao17 x5_2.length co17 : Value).ownBlock) (fun _ => False) rfl rfl ?aO ?aR (fun _ _ h => h) (fun _ h => h.elim) ?aF ?aB ?aS ?aL ?_; (case aR => exact (Kd.R_reads' HO_5.out).2.2); (case aB => exact HB.out); (case aF => exact (fun k_ hk => Kd.fresh' (Kd.R_lt HO_5.out) k_ hk)); (case aO => exact (by exact Kd.R_mono HO322.out (fun _ hk => hk.2))); (case aS => exact (below_size HB.out)); (case aL => have := LMc13.out; omega); intro v324 w16 ho hb hg hat; rw [← Ny323.out] at ho; replace HO_5 := A_ (Kd.R_after (ok := (fun _ => True)) HO_5.out hg hat); replace HB := A_ (hb); have HO325 := A_ (ho); clear HO322; clear ho hb hg hat))
       go_roundg k2
       case measure => have := HJ2.out; have := HK2.out; omega
       case rel => exact ⟨(wrap64 (Int.tdiv x0_2 a1)), (y323), (by rfl), H', ⟨by have := HJ2.out; have := HK2.out; omega⟩, ⟨by exact Kd.R_mono HO325.out (fun _ hk => trivial)⟩, ⟨HB.out⟩⟩
      rw [if_neg c13] at H
      cases H
     rw [if_neg c11] at H
     have c11b0 : decide (0 < x0_2) = false := decide_eq_false c11
     clear c11; obtain rfl := Option.some.inj H
     go_wp2
     go_ret
     exact ⟨_, by rfl, HO_5.out, HB.out⟩

end Go.Proofs.Ytnhpbmagbajliaa.PFnBorders

