/- Walks of the functions that the law reaches. -/
import Derived.Test.YtnhpbmagbajliaaPFnBordersx8
namespace Go.Proofs.Ytnhpbmagbajliaa.PFnBorders
open Go.RowKit Go.Proofs.YtnhpbmagbajliaaW.PrintWords Go.Proofs.YtnhpbmagbajliaaW.PrintLast Go.Proofs.YtnhpbmagbajliaaW.PrintMore
attribute [local go_sem] max2_int min2_int max_two min_two max_three min_three max_four min_four
set_option linter.unusedVariables false
set_option maxHeartbeats 8000000
set_option maxRecDepth 100000
set_option linter.unusedSimpArgs false

mutual
def spec_FixedPrefix.j0 : Nat → Int → Int → Bool → List (List Int) → Option (List Int × Bool)
 | 0, _, _, _, _ => none
 | k + 1, x1, x2, x18, x476000 => if x18 = true then (some ((([] : List Int)), false)) else ((some (([] : List Int) : List Int)).bind fun y481 => (if 0 ≤ x1 then (if x1 < (x476000.length : Int) then (if y481.length + (rd_L2 x476000 x1).length < 17592186044416 then (spec_FixedPrefix.l0 k x2 (y481 ++ (rd_L2 x476000 x1)) 1 x476000) else (none)) else (none)) else (none)))
def spec_FixedPrefix.l0 : Nat → Int → List Int → Int → List (List Int) → Option (List Int × Bool)
 | 0, _, _, _, _ => none
 | k + 1, x2, x8, x9, x476000 => if x9 < x2 then (if (x8.length : Int) < x2 then (if 0 ≤ x9 then (if x9 < (x8.length : Int) then (if 0 ≤ (rd x8 x9) then (if (rd x8 x9) < (x476000.length : Int) then (if x8.length + (rd_L2 x476000 (rd x8 x9)).length < 17592186044416 then (spec_FixedPrefix.l0 k x2 (x8 ++ (rd_L2 x476000 (rd x8 x9))) (wrap64 (x9 + 1)) x476000) else (none)) else (none)) else (none)) else (none)) else (none)) else (if 0 ≤ x2 then (if x2 ≤ (x8.length : Int) then (some ((x8.take (x2 : Int).toNat), true)) else (none)) else (none))) else (if (x8.length : Int) < x2 then (some ((([] : List Int)), false)) else (if 0 ≤ x2 then (if x2 ≤ (x8.length : Int) then (some ((x8.take (x2 : Int).toNat), true)) else (none)) else (none)))
end
def spec_FixedPrefix.f (k : Nat) (l0_0 : List (List Int)) (a1 : Int) (a2 : Int) : Option (List Int × Bool) := (spec_IsGrowing.f k l0_0 a1).bind fun t476 => (if t476 = true then ((spec_l1In.f a2 0 256).bind fun t477 => (spec_FixedPrefix.j0 k a1 a2 (!t477) l0_0)) else (spec_FixedPrefix.j0 k a1 a2 true l0_0))
def spec_FixedPrefix.T7 : Bool × List (List Nat × List Nat) := (true, [([], []), ([], []), ([1], [1]), ([], []), ([], []), ([3, 4], [3, 4]), ([5], [5]), ([2, 6], [2, 6]), ([7], [7]), ([0, 8], [0, 8]), ([9, 9, 0, 1, 2, 3, 4, 5, 6, 7, 8, 9], [0, 3, 9])])
def spec_FixedPrefix.B7 : List Nat := [0, 0, 2, 0, 0, 24, 56, 126, 254, 511, 1023]
theorem spec_FixedPrefix.tab7 : rtab .any (opsOf Try.f65 7) = spec_FixedPrefix.T7 := by kernel_rfl
theorem spec_FixedPrefix.bits7 : waitsOk spec_FixedPrefix.T7.2 spec_FixedPrefix.B7 = true := by kernel_rfl
theorem spec_FixedPrefix.calls (k : Nat) (A0_0 : Option Addr) (c0_0 : Nat) (l0_0 : List (List Int)) (a1 : Int) (a2 : Int) (r1 : List Int) (r2 : Bool) (w : World) (hr0_0 : Kd.C (Kd.slice 3 (Kd.int .i64)) w A0_0 l0_0.length l0_0) (hc0_0 : l0_0.length ≤ c0_0) (h : spec_FixedPrefix.f k l0_0 a1 a2 = some (r1, r2)) :
  Calls Try.prog 65 #[.agg #[.slice A0_0 l0_0.length c0_0], .int .i64 a1, .int .i64 a2] w fun e w' => ∃ v0_ : Value, e = .returned (.tuple #[v0_, .bool r2]) ∧ Kd.R (Kd.int .i64) 3 w' w.heap.size (fun _ => True) v0_ r1 ∧ Below w.heap.size w w' := by
 have hu62 := Try.underlying62; have HR0_0 := A_ hr0_0; have HC0_0 := A_ hc0_0; clear hr0_0 hc0_0; have HB := A_ (Below.refl w.heap.size w); unfold spec_FixedPrefix.f at h; have H := h; clear h; have HC4 := A_ H; clear H; go_enter Try.func65, Try.ntmps65
 go_upto_region 1 with (first | ((with_reducible refine gate_dst (N := 3) rfl ?_); (try (refine gate_guard (by rfl) ?_; dsimp only)); refine box_event ?hg (N := 3) ?hd (cs := #[.slice A0_0 l0_0.length c0_0]) (t := 62) ?hr ?_; (case hd | hg => rfl); (case hr => go_simp; done); intro gb475 hg w5 hbox hb; have BK475 := A_ (hbox); have GW475 := A_ (lg_ (below_size HB.out) hg); have GE475 := A_ (lg_ (below_size HB.out) hg); replace HB := bs_ HB hb; clear hb hbox hg))
 (try simp only [Act.put, mD, mE, mF])
 go_cut [18] (fun v18 wc => ∃ (kq : Nat) (x18_3 : Bool), v18 = .bool x18_3 ∧ Aside0 (spec_FixedPrefix.j0 kq a1 a2 x18_3 l0_0 = some (r1, r2)) ∧ Aside0 (kq ≤ k) ∧ Aside0 (wc.heap[gb475]? = some (.cells #[(.slice A0_0 l0_0.length c0_0)] 62 (0, 0))) ∧ Aside0 (Below w.heap.size w wc))
 case first =>
  have H := HC4.out; clear HC4; replace H := bA_ H; obtain ⟨t476, A6, H⟩ := H
  by_cases c7 : t476 = true
  ·subst c7; rw [if_pos rfl] at H; replace H := bA_ H; obtain ⟨t477, A8, H⟩ := H
   have H' := A_ H
   clear H; have hcz9_0 := bz0 BK475.out; have hfz9_0 := blk_frozen BK475.out 0
   go_wp2_with (first | ((with_reducible refine gc_ 83 rfl ?_); refine cL_ E83 12 rfl rfl rfl (spec_IsGrowing.calls k (fun k_ => k_ < w.heap.size) _ _ l0_0 a1 true _ (Kd.V_mk HC0_0.out (Kd.F_below (Kd.C_F (Kd.heap_slice 3 (Kd.heap_int .i64)) HR0_0.out) HB.out)) A6.out) (by simp only [mA, mB, mC]; rfl) ?_; rintro e w10 ⟨rfl, hb⟩; refine ⟨_, rfl, ?_⟩; replace BK475 := bb_ BK475 hb; replace HB := bs_ HB hb; clear hb; (try clear hi)) | (go_at_call 60; (with_reducible refine (spec_l1In.calls a2 0 256 t477 _ A8.out).mono ?_); rintro e w' ⟨rfl, ⟨nd, rfl⟩⟩))
   go_meet
   case rel => exact ⟨_, (!t477), (by rfl), H', ⟨by omega⟩, ⟨by (with_reducible repeat (first | refine blk_drewN ?_ _ | refine blk_drew ?_ | refine blk_alloc ?_ _)); exact BK475.out⟩, ⟨by repeat (first | (with_reducible first | exact HB.out | apply below_alloc | apply pw_below_drewN | apply below_drew1 | refine below_set ?_ GE475.out) | exact HB.out)⟩⟩
  replace c7 := Bool.eq_false_iff.mpr c7; subst c7; rw [if_neg nf_] at H
  have H' := A_ H
  clear H; have hcz11_0 := bz0 BK475.out; have hfz11_0 := blk_frozen BK475.out 0
  go_wp2_with (first | ((with_reducible refine gc_ 83 rfl ?_); refine cL_ E83 12 rfl rfl rfl (spec_IsGrowing.calls k (fun k_ => k_ < w.heap.size) _ _ l0_0 a1 false _ (Kd.V_mk HC0_0.out (Kd.F_below (Kd.C_F (Kd.heap_slice 3 (Kd.heap_int .i64)) HR0_0.out) HB.out)) A6.out) (by simp only [mA, mB, mC]; rfl) ?_; rintro e w12 ⟨rfl, hb⟩; refine ⟨_, rfl, ?_⟩; replace BK475 := bb_ BK475 hb; replace HB := bs_ HB hb; clear hb; (try clear hi)))
  go_meet
  case rel => exact ⟨_, (true), (by rfl), H', ⟨by omega⟩, ⟨BK475.out⟩, ⟨HB.out⟩⟩
 case rest =>
  clear HC4; obtain ⟨kq, x18_3, rfl, HA, HJ3, BK475, HB⟩ := hcut
  cases kq with
  | zero => exact absurd HA.out (by simp [spec_FixedPrefix.j0])
  | succ kj3 =>
   have H := HA.out; clear HA; simp only [spec_FixedPrefix.j0] at H
   by_cases c13 : x18_3 = true
   ·subst c13; rw [if_pos rfl] at H; obtain ⟨y478, hy478⟩ := ex_ ((([] : List Int)) : List Int); replace H : (some (y478, false)) = some (r1, r2) := by (rw [hy478]; with_reducible exact H)
    have Ny478 := A_ hy478; clear hy478; simp only [Option.some.injEq, Prod.mk.injEq] at H; obtain ⟨rfl, rfl⟩ := H
    go_wp2_with (first | ((with_reducible refine gate_dst (N := 19) rfl ?_); (try (refine gate_guard (by rfl) ?_; dsimp only)); refine Kd.R_lit (Kd.int .i64) _ 3 ?hg (N := 19) ?hd (xs := ([] : List Int)) (inner := []) (ok := fun _ => True) (okp := fun _ => True) ?hr ?hp (fun _ hk => hk) trivial (Below.refl _ _) (Nat.le_refl _) (by simp) ?_; (case hd | hg => rfl); (case hr => go_simp; done); (case hp => exact (Reps.none _ _)); rintro v479 w14 ho15 hb - -; (rw [← Ny478.out] at ho15); have HO480 := A_ (Kd.R_lower ho15 (below_size HB.out)); replace BK475 := bb_ BK475 hb; replace HB := bs_ HB hb; clear hb ho15))
    go_ret2
    exact ⟨_, by rfl, HO480.out, HB.out⟩
   replace c13 := Bool.eq_false_iff.mpr c13; subst c13; rw [if_neg nf_] at H; obtain ⟨y481, hy481⟩ := ex_ ((([] : List Int)) : List Int); replace H : (if 0 ≤ a1 then (if a1 < (l0_0.length : Int) then (if y481.length + (rd_L2 l0_0 a1).length < 17592186044416 then (spec_FixedPrefix.l0 kj3 a2 (y481 ++ (rd_L2 l0_0 a1)) 1 l0_0) else (none)) else (none)) else (none)) = some (r1, r2) := by (have H2_ := (Option.bind_some _ _).symm.trans H; rw [hy481]; with_reducible exact H2_)
   have Ny481 := A_ hy481; clear hy481
   by_cases c16 : 0 ≤ a1
   ·rw [if_pos c16] at H; have c16b0 := decide_eq_true c16; clear c16
    by_cases c17 : a1 < (l0_0.length : Int)
    ·rw [if_pos c17] at H; have c17b0 := decide_eq_true c17; clear c17
     by_cases c18 : y481.length + (rd_L2 l0_0 a1).length < 17592186044416
     ·rw [if_pos c18] at H; have LMc18 := A_ c18; clear c18; obtain ⟨y485, hy485⟩ := ex_ ((y481 ++ (rd_L2 l0_0 a1)) : List Int); replace H : (spec_FixedPrefix.l0 kj3 a2 y485 1 l0_0) = some (r1, r2) := by (rw [hy485]; with_reducible exact H)
      have Ny485 := A_ hy485; clear hy485
      have H' := A_ H
      clear H
      go_wp2_with (first | ((with_reducible refine gate_dst (N := 20) rfl ?_); (try (refine gate_guard (by rfl) ?_; dsimp only)); refine Kd.R_lit (Kd.int .i64) _ 3 ?hg (N := 20) ?hd (xs := ([] : List Int)) (inner := []) (ok := fun _ => True) (okp := fun _ => True) ?hr ?hp (fun _ hk => hk) trivial (Below.refl _ _) (Nat.le_refl _) (by simp) ?_; (case hd | hg => rfl); (case hr => go_simp; done); (case hp => exact (Reps.none _ _)); rintro v482 w19 ho20 hb - -; (rw [← Ny481.out] at ho20); have HO483 := A_ (Kd.R_lower ho20 (below_size HB.out)); replace BK475 := bb_ BK475 hb; replace HB := bs_ HB hb; clear hb ho20; have hcz21_0 := bz0 BK475.out; have hfz21_0 := blk_frozen BK475.out 0; have p484 : 0 ≤ (a1 : Int) := od_ (by assumption); have q484 : a1 < (l0_0.length : Int) := od_ (by assumption); obtain ⟨ad484, A484_0, c484_0, e484, hx484_0, hl484_0, hi484_0⟩ := at_L2 HR0_0.out a1 p484 q484; cases e484; replace hx484_0 := (HB.out.cell (World.block_lt_of_cell? w _ hx484_0)).trans hx484_0; have HR484_0 := A_ hi484_0; have HC484_0 := A_ hl484_0; clear hi484_0 hl484_0; replace p484 := eq_true p484; replace q484 := eq_true q484) | ((with_reducible refine gate_builtin (b := .append) (xs := #[.tmp 20, .tmp 25]) rfl ?_); (try (refine gate_guard (by rfl) ?_; dsimp only)); at_builtin; refine Kd.R_append_rows (Kd.int .i64) (w0 := w) w.heap.size rfl (.tmp 20) (.tmp 25) 24 3 (.int .i64 0) 8 rfl Try.underlying24 info3 rfl (by decide) (by omega) v482 y481 (rd_L2 l0_0 a1) _ _ _ (fun _ => True) (fun _ => False) rfl rfl ?aO ?aR (fun _ _ h => h) (fun _ h => h.elim) ?aF ?aB ?aS ?aL ?_; (case aR => exact (Kd.C_below HR484_0.out HB.out)); (case aB => exact HB.out); (case aF => exact (fun _ _ => trivial)); (case aO => exact HO483.out); (case aS => exact (below_size HB.out)); (case aL => have := LMc18.out; omega); intro v486 w22 ho hb hg hat; rw [← Ny485.out] at ho; replace BK475 := A_ (blk_grown (g := gb475) (o := .cells #[.slice (some ad484) l0_0.length c0_0] 62 (0, 0)) BK475.out hg (Kd.R_ne HO483.out BK475.out (by decide))); replace HB := A_ (hb); have HO487 := A_ (ho); clear HO483; clear ho hb hg hat))
      go_loopg [8, 9] kj3 (fun kq v8 v9 w' => ∃ (x8_2 : List Int) (x9_2 : Int), v9 = .int .i64 x9_2 ∧ Aside0 (spec_FixedPrefix.l0 kq a2 x8_2 x9_2 l0_0 = some (r1, r2)) ∧ Aside0 (kq ≤ kj3) ∧ Aside0 (Kd.R (Kd.int .i64) 3 w' w.heap.size (fun _ => True) v8 x8_2) ∧ Aside0 (w'.heap[gb475]? = some (.cells #[(.slice (some ad484) l0_0.length c0_0)] 62 (0, 0))) ∧ Aside0 (Below w.heap.size w w'))
      case atStart => exact ⟨(y485), (1), (by rfl), H', ⟨Nat.le_refl _⟩, ⟨HO487.out⟩, ⟨BK475.out⟩, ⟨HB.out⟩⟩
      case round =>
       clear H'
       try clear c16b0
       try clear c17b0
       try clear hcz21_0
       try clear hfz21_0
       try clear hx484_0
       try clear p484
       try clear q484
       obtain ⟨x8_2, x9_2, rfl, HA, HK2, HO_8, BK475, HB⟩ := hrel
       cases gk with
       | zero => exact absurd HA.out (by simp [spec_FixedPrefix.l0])
       | succ k2 =>
        have H := HA.out; clear HA; simp only [spec_FixedPrefix.l0] at H
        by_cases c23 : x9_2 < a2
        ·rw [if_pos c23] at H; have c23b0 := decide_eq_true c23; clear c23
         by_cases c24 : (x8_2.length : Int) < a2
         ·rw [if_pos c24] at H; have c24b0 := decide_eq_true c24; clear c24
          by_cases c25 : 0 ≤ x9_2
          ·rw [if_pos c25] at H; have c25b0 := decide_eq_true c25; clear c25
           by_cases c26 : x9_2 < (x8_2.length : Int)
           ·rw [if_pos c26] at H; have c26b0 := decide_eq_true c26; clear c26
            by_cases c27 : 0 ≤ (rd x8_2 x9_2)
            ·rw [if_pos c27] at H; have c27b0 := decide_eq_true c27; clear c27
             by_cases c28 : (rd x8_2 x9_2) < (l0_0.length : Int)
             ·rw [if_pos c28] at H; have c28b0 := decide_eq_true c28; clear c28
              by_cases c29 : x8_2.length + (rd_L2 l0_0 (rd x8_2 x9_2)).length < 17592186044416
              ·rw [if_pos c29] at H; have LMc29 := A_ c29; clear c29; obtain ⟨y490, hy490⟩ := ex_ ((x8_2 ++ (rd_L2 l0_0 (rd x8_2 x9_2))) : List Int); replace H : (spec_FixedPrefix.l0 k2 a2 y490 (wrap64 (x9_2 + 1)) l0_0) = some (r1, r2) := by (rw [hy490]; with_reducible exact H)
               have Ny490 := A_ hy490; clear hy490
               have H' := A_ H
               clear H; obtain ⟨Ao30, co30, eo30⟩ := Kd.R_slice HO_8.out; subst eo30
               try go_wp2
               have n0_ := A_ (Kd.R_drew HO_8.out); have n1_ := A_ (blk_drew BK475.out); have n2_ := A_ (below_drew1 HB.out); clear HO_8 BK475 HB; have HO_8 := n0_; have BK475 := n1_; have HB := n2_; clear n0_ n1_ n2_
               have p488 : 0 ≤ (x9_2 : Int) := od_ (by assumption)
               have q488 : x9_2 < (x8_2.length : Int) := od_ (by assumption)
               obtain ⟨ad488, e488, hx488_0⟩ := Kd.at_int (Kd.R_reads' HO_8.out).2.2 x9_2 p488 q488
               cases e488
               replace p488 := eq_true p488; replace q488 := eq_true q488
               have p489 : 0 ≤ ((rd x8_2 x9_2) : Int) := od_ (by assumption)
               have q489 : (rd x8_2 x9_2) < (l0_0.length : Int) := od_ (by assumption)
               obtain ⟨ad489, A489_0, c489_0, e489, hx489_0, hl489_0, hi489_0⟩ := at_L2 HR0_0.out (rd x8_2 x9_2) p489 q489; have hw489_0 := hx489_0; obtain rfl : ad484 = ad489 := (by injection e489); replace hx489_0 := (HB.out.cell (World.block_lt_of_cell? w _ hx489_0)).trans hx489_0; have HR489_0 := A_ hi489_0; have HC489_0 := A_ hl489_0; clear hi489_0 hl489_0; replace p489 := eq_true p489; replace q489 := eq_true q489; refine start_ (n := 11) (S := fun w' => w'.cell? ⟨gb475, 0, none⟩ = some (.slice (some ad484) l0_0.length c0_0) ∧ w'.cell? (ad488.add (x9_2).toNat) = some (.int .i64 (rd x8_2 x9_2)) ∧ w'.cell? (ad484.add ((rd x8_2 x9_2)).toNat) = some (.slice A489_0 (rd_L2 l0_0 (rd x8_2 x9_2)).length c489_0)) (ds := [9]) (mk_ 11 0) (by kernel_rfl) rfl rfl ⟨(blk_cell BK475.out 0).trans rfl, hx488_0, ((HB.out.cell (World.block_lt_of_cell? w _ hw489_0)).trans hw489_0)⟩ (fun hHeld => ?_); refine with_tabW spec_FixedPrefix.tab7 spec_FixedPrefix.bits7 (fun HT_ HW_ => ?_)
               generalize wr.drew = w31 at HO_8 BK475 HB HR489_0 hx488_0 hx489_0 hHeld ⊢
               refine pv_ 0 38 (mk_ 11 1) rfl rfl HT_.out (by kernel_rfl) (fun _ _ _ h => h) (by rfl) (by intro w'; go_simp; with_reducible rfl) (by simp only [Act.put, mD, mE, mF, i64_w, i32_w]; rfl) ?_; refine pv_ 1 39 (mk_ 11 3) rfl rfl HT_.out (by kernel_rfl) (fun _ _ _ h => h) (by rfl) (by intro w'; go_simp; with_reducible rfl) (by simp only [Act.put, mD, mE, mF, i64_w, i32_w]; rfl) ?_; refine pv_ 3 41 (mk_ 11 11) rfl rfl HT_.out (by kernel_rfl) (fun _ _ _ h => h) (by rfl) (by intro w'; go_simp; with_reducible rfl) (by simp only [Act.put, mD, mE, mF, i64_w, i32_w]; rfl) ?_; refine pv_ 4 42 (mk_ 11 27) rfl rfl HT_.out (by kernel_rfl) (fun _ _ _ h => h) (by rfl) (by intro w'; go_simp; with_reducible rfl) (by simp only [Act.put, mD, mE, mF, i64_w, i32_w]; rfl) ?_; refine pv_ 5 43 (mk_ 11 59) rfl rfl HT_.out (by kernel_rfl) (fun _ _ _ h => h) (by rfl) (by intro w'; go_simp; with_reducible rfl) (by simp only [Act.put, mD, mE, mF, i64_w, i32_w]; rfl) ?_; refine take_ (i := 2) (N := some 40) (mk_ 11 63) rfl rfl (take_ofW HT_.out HW_.out (by kernel_rfl)) (fun _ _ _ h => h) (Or.inl ⟨by rfl, by rintro w' ⟨s0, s1, s2⟩; go_simp; with_reducible rfl⟩) hHeld (by simp only [Act.put, mD, mE, mF, i64_w, i32_w]; rfl) ?_; refine take_ (i := 6) (N := some 44) (mk_ 11 127) rfl rfl (take_ofW HT_.out HW_.out (by kernel_rfl)) (fun _ _ _ h => h) (Or.inl ⟨by rfl, by rintro w' ⟨s0, s1, s2⟩; go_simp; with_reducible rfl⟩) hHeld (by simp only [Act.put, mD, mE, mF, i64_w, i32_w]; rfl) ?_; refine pv_ 7 45 (mk_ 11 255) rfl rfl HT_.out (by kernel_rfl) (fun _ _ _ h => h) (by rfl) (by intro w'; go_simp; with_reducible rfl) (by simp only [Act.put, mD, mE, mF, i64_w, i32_w]; rfl) ?_; refine take_ (i := 8) (N := some 46) (mk_ 11 511) rfl rfl (take_ofW HT_.out HW_.out (by kernel_rfl)) (fun _ _ _ h => h) (Or.inl ⟨by rfl, by rintro w' ⟨s0, s1, s2⟩; go_simp; with_reducible rfl⟩) hHeld (by simp only [Act.put, mD, mE, mF, i64_w, i32_w]; rfl) ?_; refine last_ (i := 9) (N := some 47) (mk_ 11 1023) rfl rfl (one_of HT_.out (by kernel_rfl)) (by decide) (fun K hK => ?_); refine Kd.R_append_rows_step (Kd.int .i64) (w0 := w) w.heap.size (by rfl) (.tmp 38) (.tmp 46) 24 3 (.int .i64 0) 8 rfl Try.underlying24 info3 rfl (by decide) (by omega) (.slice (some ad488) x8_2.length co30) x8_2 (rd_L2 l0_0 (rd x8_2 x9_2)) _ _ _ (fun _ => True) (fun _ => False) rfl rfl ?aO ?aR (fun _ _ h => h) (fun _ h => h.elim) ?aF ?aB ?aS ?aL ?_
               (case aR => exact (Kd.C_below HR489_0.out HB.out))
               (case aB => exact HB.out)
               (case aF => exact (fun _ _ => trivial))
               (case aO => exact HO_8.out)
               (case aS => exact (below_size HB.out))
               (case aL => have := LMc29.out; omega)
               intro v491 w32 ho hb hg hat; rw [← Ny490.out] at ho; have n0_ := A_ (blk_grown (g := gb475) (o := .cells #[.slice (some ad484) l0_0.length c0_0] 62 (0, 0)) BK475.out hg (Kd.R_ne HO_8.out BK475.out (by decide))); have n1_ := A_ (hb); have n2_ := A_ (ho); clear BK475 HB HO_8; have BK475 := n0_; have HB := n1_; have HO492 := n2_; clear n0_ n1_ n2_ ho hb hg hat; refine hK.out _ _ ?_; clear hK K; refine norm_ (by show Act.put _ (some 47) _ = _; simp only [Act.put, mD, mE, mF, i64_w, i32_w]; rfl) ?_; refine pv_ 10 8 (mk_ 11 2047) rfl rfl HT_.out (by kernel_rfl) (fun _ _ _ h => h) (by rfl) (by intro w'; go_simp; with_reducible rfl) (by simp only [Act.put, mD, mE, mF, i64_w, i32_w]; rfl) ?_; refine done_ (done_of HT_.out (by kernel_rfl)) ?_
               try go_wp2
               go_roundg k2
               case measure => have := HJ3.out; have := HK2.out; omega
               case rel => exact ⟨(y490), (wrap64 (x9_2 + 1)), (by rfl), H', ⟨by have := HJ3.out; have := HK2.out; omega⟩, ⟨HO492.out⟩, ⟨BK475.out⟩, ⟨HB.out⟩⟩
              rw [if_neg c29] at H
              cases H
             rw [if_neg c28] at H
             cases H
            rw [if_neg c27] at H
            cases H
           rw [if_neg c26] at H
           cases H
          rw [if_neg c25] at H
          cases H
         rw [if_neg c24] at H; have c24b0 := decide_eq_false c24; clear c24
         by_cases c33 : 0 ≤ a2
         ·rw [if_pos c33] at H; have c33b0 := eq_true c33; have c33b1 := decide_eq_true c33; clear c33
          by_cases c34 : a2 ≤ (x8_2.length : Int)
          ·rw [if_pos c34] at H; have c34b0 := eq_true c34; have c34b1 := decide_eq_true c34; clear c34; obtain ⟨y493, hy493⟩ := ex_ ((x8_2.take (a2 : Int).toNat) : List Int); replace H : (some (y493, true)) = some (r1, r2) := by (rw [hy493]; with_reducible exact H)
           have Ny493 := A_ hy493; clear hy493; simp only [Option.some.injEq, Prod.mk.injEq] at H; obtain ⟨rfl, rfl⟩ := H; obtain ⟨Ao35, co35, eo35⟩ := Kd.R_slice HO_8.out; subst eo35
           have q36 : (a2 : Int) ≤ ((x8_2.length : Int) : Int) := od_ (by assumption)
           obtain ⟨i036, hi036, _, hsz36, _⟩ := info_parts info3; have hcut36 := cut_to (P := Try.prog) 24 3 .i64 Try.underlying24 hi036 Ao35 x8_2.length co35 a2 (od_ (by assumption)) q36 (Kd.R_reads' HO_8.out).2.1; have hr36 := Kd.R_take (m := (a2 : Int).toNat) HO_8.out (by omega)
           have hy36 : y493.length = (a2 : Int).toNat := (by rw [Ny493.out, List.length_take]; omega)
           rw [← Ny493.out] at hr36; rw [← hy36] at hr36 hcut36; clear hy36 hi036 hsz36 HO_8; have HO495 := A_ hr36; clear hr36; replace q36 := eq_true q36
           go_wp2
           go_ret2
           exact ⟨_, by rfl, HO495.out, HB.out⟩
          rw [if_neg c34] at H
          cases H
         rw [if_neg c33] at H
         cases H
        rw [if_neg c23] at H; have c23b0 := decide_eq_false c23; clear c23
        by_cases c37 : (x8_2.length : Int) < a2
        ·rw [if_pos c37] at H; have c37b0 := decide_eq_true c37; clear c37; obtain ⟨y496, hy496⟩ := ex_ ((([] : List Int)) : List Int); replace H : (some (y496, false)) = some (r1, r2) := by (rw [hy496]; with_reducible exact H)
         have Ny496 := A_ hy496; clear hy496; simp only [Option.some.injEq, Prod.mk.injEq] at H; obtain ⟨rfl, rfl⟩ := H; obtain ⟨Ao38, co38, eo38⟩ := Kd.R_slice HO_8.out; subst eo38
         go_wp2_with (first | ((with_reducible refine gate_dst (N := 52) rfl ?_); (try (refine gate_guard (by rfl) ?_; dsimp only)); refine Kd.R_lit (Kd.int .i64) _ 3 ?hg (N := 52) ?hd (xs := ([] : List Int)) (inner := []) (ok := fun _ => True) (okp := fun _ => True) ?hr ?hp (fun _ hk => hk) trivial (Below.refl _ _) (Nat.le_refl _) (by simp) ?_; (case hd | hg => rfl); (case hr => go_simp; done); (case hp => exact (Reps.none _ _)); rintro v497 w39 ho40 hb - -; (rw [← Ny496.out] at ho40); have HO498 := A_ (Kd.R_lower (Kd.R_new' ho40 (Kd.R_lt HO_8.out)) (below_size HB.out)); replace HO_8 := A_ (Kd.R_elder' HO_8.out (Kd.R_base ho40) hb); replace BK475 := bb_ BK475 hb; replace HB := bs_ HB hb; clear hb ho40))
         go_ret2
         exact ⟨_, by rfl, by exact Kd.R_mono HO498.out (fun _ hk => trivial), HB.out⟩
        rw [if_neg c37] at H; have c37b0 := decide_eq_false c37; clear c37
        by_cases c41 : 0 ≤ a2
        ·rw [if_pos c41] at H; have c41b0 := eq_true c41; have c41b1 := decide_eq_true c41; clear c41
         by_cases c42 : a2 ≤ (x8_2.length : Int)
         ·rw [if_pos c42] at H; have c42b0 := eq_true c42; have c42b1 := decide_eq_true c42; clear c42; obtain ⟨y499, hy499⟩ := ex_ ((x8_2.take (a2 : Int).toNat) : List Int); replace H : (some (y499, true)) = some (r1, r2) := by (rw [hy499]; with_reducible exact H)
          have Ny499 := A_ hy499; clear hy499; simp only [Option.some.injEq, Prod.mk.injEq] at H; obtain ⟨rfl, rfl⟩ := H; obtain ⟨Ao43, co43, eo43⟩ := Kd.R_slice HO_8.out; subst eo43
          have q44 : (a2 : Int) ≤ ((x8_2.length : Int) : Int) := od_ (by assumption)
          obtain ⟨i044, hi044, _, hsz44, _⟩ := info_parts info3; have hcut44 := cut_to (P := Try.prog) 24 3 .i64 Try.underlying24 hi044 Ao43 x8_2.length co43 a2 (od_ (by assumption)) q44 (Kd.R_reads' HO_8.out).2.1; have hr44 := Kd.R_take (m := (a2 : Int).toNat) HO_8.out (by omega)
          have hy44 : y499.length = (a2 : Int).toNat := (by rw [Ny499.out, List.length_take]; omega)
          rw [← Ny499.out] at hr44; rw [← hy44] at hr44 hcut44; clear hy44 hi044 hsz44 HO_8; have HO501 := A_ hr44; clear hr44; replace q44 := eq_true q44
          go_wp2
          go_ret2
          exact ⟨_, by rfl, HO501.out, HB.out⟩
         rw [if_neg c42] at H
         cases H
        rw [if_neg c41] at H
        cases H
     rw [if_neg c18] at H
     cases H
    rw [if_neg c17] at H
    cases H
   rw [if_neg c16] at H
   cases H

end Go.Proofs.Ytnhpbmagbajliaa.PFnBorders

