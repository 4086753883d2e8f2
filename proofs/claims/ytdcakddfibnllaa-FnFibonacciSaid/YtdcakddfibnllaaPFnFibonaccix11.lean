/- Written by this session's own program (wip/myprint.py): the machine side of one law, some contracts of it typed by hand. -/
import Derived.Test.YtdcakddfibnllaaPFnFibonaccix0
import Derived.Test.YtdcakddfibnllaaPFnFibonaccix7
import Derived.Test.YtdcakddfibnllaaPFnFibonaccix10
namespace Go.Proofs.Ytdcakddfibnllaa.PFnFibonacci
open Go.RowKit Go.Proofs.YtdcakddfibnllaaW.PrintWords Go.Proofs.YtdcakddfibnllaaW.PrintLast Go.Proofs.YtdcakddfibnllaaW.PrintMore
attribute [local go_sem] max2_int min2_int max_two min_two max_three min_three max_four min_four   -- for this text's walks alone
set_option linter.unusedVariables false
set_option maxHeartbeats 8000000
set_option maxRecDepth 100000
set_option linter.unusedSimpArgs false

/-! ### spec_l1Pick: function 99 -/
def spec_l1Pick.f (s0_0 : List Int) (s0_1 : Int) (s0_2 : Int) (l1 : List ByteArray) : Option (ByteArray × Int × Int) := (spec_l1Below.f s0_0 s0_1 s0_2 (l1.length : Int)).bind fun bt492 => (if 0 ≤ bt492.1 then (if bt492.1 < (l1.length : Int) then (some (rdOf ByteArray.empty l1 bt492.1, bt492.2.1, bt492.2.2)) else (none)) else (none))
theorem spec_l1Pick.calls (g : Nat) (s0_0 : List Int) (s0_1 : Int) (s0_2 : Int) (A1 : Option Addr) (c1 : Nat) (l1 : List ByteArray) (r1 : ByteArray) (r2 : Int) (r3 : Int) (w0 w : World) (hI : IsS67 w0 w g s0_0 s0_1 s0_2) (hB : Below w0.heap.size w0 w) (hr1 : Kd.C Kd.string w A1 l1.length l1) (hc1 : l1.length ≤ c1) (hf1 : ∀ ad, A1 = some ad → 0 < l1.length → ad.block ≠ g) (h : spec_l1Pick.f s0_0 s0_1 s0_2 l1 = some (r1, r2, r3)) :
  Calls Try.prog 99 #[.pointer (some ⟨g, 0, none⟩), .slice A1 l1.length c1] w fun e w' => e = .returned (.string r1) ∧ IsS67 w0 w' g s0_0 r2 r3 ∧ Below w0.heap.size w0 w' ∧ KeepBut w w' g none := by
 have HR1 := A_ hr1
 have HC1 := A_ hc1
 clear hr1 hc1
 have HI0 := A_ hI
 have HK := A_ (KeepBut.refl w g none)
 have HL := A_ hB.size
 clear hI
 have HW0 := A_ hB.size
 have HB := A_ hB
 clear hB
 unfold spec_l1Pick.f at h
 have H := h
 clear h
 replace H := Option.bind_eq_some_iff.mp H
 obtain ⟨⟨t492, t493, t494⟩, A30, H⟩ := H
 dsimp only at H
 have A3 := A_ A30
 clear A30
 by_cases c4 : 0 ≤ t492
 ·rw [if_pos c4] at H
  have c4b0 : decide (0 ≤ t492) = true := decide_eq_true c4
  clear c4
  by_cases c5 : t492 < (l1.length : Int)
  ·rw [if_pos c5] at H
   have c5b0 : decide (t492 < (l1.length : Int)) = true := decide_eq_true c5
   clear c5
   simp only [Option.some.injEq, Prod.mk.injEq] at H
   obtain ⟨rfl, rfl, rfl⟩ := H
   go_enter Try.func99, Try.ntmps99
   go_wp2_with (first | ((with_reducible refine gate_callee (f := 74) rfl ?_); refine goesL_ (some 9) rfl rfl Try.func74 (by kernel_rfl) rfl #[.pointer (some ⟨g, 0, none⟩), .int .i64 (l1.length : Int)] rfl (by (try simp only [mA, mB, mC]); first | done | rfl | (simp only [List.length_drop, List.length_take]; rfl)) ?_; (with_reducible refine (spec_l1Below.calls g s0_0 s0_1 s0_2 (l1.length : Int) t492 t493 t494 w0 _ ?side1 ?side2 A3.out).mono ?_); (case side1 => exact HI0.out); (case side2 => exact HB.out); rintro e w6 ⟨rfl, hi, hb, hk⟩; refine ⟨_, rfl, ?_⟩; have n0_ := A_ (KeepBut.trans HK.out hk (.inl rfl)); have n1_ := A_ (hb); have n2_ := A_ (hi); clear HK HB HI0; revert n0_ n1_ n2_; intro HK HB HI0; clear hb hk hi; have p495 : 0 ≤ (t492 : Int) := of_decide_eq_true (by first | (with_reducible assumption) | assumption); have q495 : t492 < (l1.length : Int) := of_decide_eq_true (by first | (with_reducible assumption) | assumption); obtain ⟨ad495, e495, hx495_0⟩ := Kd.at_string HR1.out t492 p495 q495; cases e495; replace hx495_0 := keep_cell HK.out hx495_0 (by first | (rw [add_block]; exact hf1 _ rfl (by omega)) | exact hf1 _ rfl (by omega) | exact hf1 ad495 rfl (by omega)); replace p495 := eq_true p495; replace q495 := eq_true q495))
   go_ret
   exact ⟨by rfl, HI0.out, HB.out, HK.out⟩
  rw [if_neg c5] at H
  exact absurd H (by simp)
 rw [if_neg c4] at H
 exact absurd H (by simp)

theorem l3_row {W : World} {base n cap : Nat} {ok : Nat → Prop} {A : Option Addr} {xs : List (List Int)} (h : Kd.S (Kd.slice 3 (Kd.int .i64)) 24 W base ok (.slice A n cap) xs) (h0 : 0 < xs.length) (h1 : 0 < (xs.getD 0 []).length) (x : Int) :
  ∃ g g0 m c0, A = some ⟨g, 0, none⟩ ∧ 0 < m ∧ W.cell? ⟨g, 0, none⟩ = some (.slice (some ⟨g0, 0, none⟩) m c0) ∧ (∃ u, W.cell? ⟨g0, 0, none⟩ = some u) ∧ W.frozen? ⟨g0, 0, none⟩ = false ∧ W.frozen? ⟨g, 0, none⟩ = false ∧ ok g0 ∧ base ≤ g0 ∧
   Kd.S (Kd.slice 3 (Kd.int .i64)) 24 (W.setCell ⟨g0, 0, none⟩ (.int .i64 x)) base ok (.slice A n cap) (xs.set 0 ((xs.getD 0 []).set 0 x)) ∧ W.grownBy (W.setCell ⟨g0, 0, none⟩ (.int .i64 x)) (some g0) := by
 obtain ⟨g, cap', he, _⟩ := Kd.S_form h h0
 injection he with hA hn hc
 subst hA; subst hn; subst hc
 obtain ⟨_, _, _, _, hfr⟩ := Kd.R_elem (Kd.S_R h) [] 0 (by omega) (by omega)
 obtain ⟨oki, c, hcl, hM, hcc, hoki, hput⟩ := Kd.S_borrow h ([] : List Int) 0 (by omega) (by omega)
 obtain ⟨v, rfl, hR⟩ := hM
 obtain ⟨g0, c0, rfl, hb, _⟩ := Kd.R_form hR h1
 have hcell := Kd.R_cell (0 : Int) hR 0 (by omega) (by simpa using h1)
 have hg0 : oki g0 := hR.1 g0 (by simp [Value.ownBlock])
 obtain ⟨hp, hgr⟩ := Kd.R_put hR 0 x
 refine ⟨g, g0, _, c0, rfl, h1, hcc 0 _ rfl, ⟨_, hcell.1⟩, hcell.2, hfr 0, (hoki g0 hg0).1, hb, ?_, hgr⟩
 exact hput hgr (fun k hk => by injection hk with hk; subst hk; exact hg0) ⟨_, rfl, hp⟩
/-! ### spec_l3Random: function 100 -/
mutual
def spec_l3Random.l0 : Nat → Int → Int → Int → List Int → Int → Int → Int → List (List Int) → List Int → Option (Int × (List (List Int)) × List Int × Int × Int)
 | 0, _, _, _, _, _, _, _, _, _ => none
 | k + 1, x1, x2, x8, x1000, x1001, x1002, x498000, x498001, x498002 => if x8 < x2 then (spec_l3Random.l1 k x1 x2 x8 (([] : List Int)) 0 x1000 x1001 x1002 x498000 x498001 x498002) else ((spec_l1Once.f x1000 x1001 x1002 2).bind fun bt498 => (if bt498.1 = true then (if 0 < x498001.length then (if 0 < (x498001.getD 0 []).length then (some (x498000, x498001.set 0 ((x498001.getD 0 []).set 0 0), x498002, bt498.2.1, bt498.2.2)) else (none)) else (none)) else (some (x498000, x498001, x498002, bt498.2.1, bt498.2.2))))
def spec_l3Random.l1 : Nat → Int → Int → Int → List Int → Int → List Int → Int → Int → Int → List (List Int) → List Int → Option (Int × (List (List Int)) × List Int × Int × Int)
 | 0, _, _, _, _, _, _, _, _, _, _, _ => none
 | k + 1, x1, x2, x8, x9, x10, x1000, x1001, x1002, x498000, x498001, x498002 => if x10 < x1 then ((spec_l1Below.f x1000 x1001 x1002 x2).bind fun bt504 => (if x9.length < 17592186044416 then (spec_l3Random.l1 k x1 x2 x8 (x9 ++ [bt504.1]) (wrap64 (x10 + 1)) x1000 bt504.2.1 bt504.2.2 x498000 x498001 x498002) else (none))) else (if x498001.length < 5864062014805 then ((spec_l1Below.f x1000 x1001 x1002 2).bind fun bt513 => ((spec_l1Below.f x1000 bt513.2.1 bt513.2.2 (wrap64 (2 + bt513.1))).bind fun bt516 => (if x498002.length < 17592186044416 then (spec_l3Random.l0 k x1 x2 (wrap64 (x8 + 1)) x1000 bt516.2.1 bt516.2.2 x498000 (x498001 ++ [x9]) (x498002 ++ [bt516.1])) else (none)))) else (none))
end
def spec_l3Random.f (k : Nat) (s0_0 : List Int) (s0_1 : Int) (s0_2 : Int) (a1 : Int) (a2 : Int) : Option (Int × (List (List Int)) × List Int × Int × Int) := spec_l3Random.l0 k a1 a2 0 s0_0 s0_1 s0_2 a1 ([] : List (List Int)) ([] : List Int)
theorem spec_l3Random.mono_l : ∀ k, (∀ y0 y1 y2 y3 y4 y5 y6 y7 y8, LeO (spec_l3Random.l0 k y0 y1 y2 y3 y4 y5 y6 y7 y8) (spec_l3Random.l0 (k + 1) y0 y1 y2 y3 y4 y5 y6 y7 y8)) ∧ (∀ y0 y1 y2 y3 y4 y5 y6 y7 y8 y9 y10, LeO (spec_l3Random.l1 k y0 y1 y2 y3 y4 y5 y6 y7 y8 y9 y10) (spec_l3Random.l1 (k + 1) y0 y1 y2 y3 y4 y5 y6 y7 y8 y9 y10))
 | 0 => ⟨fun _ _ _ _ _ _ _ _ _ r h => by simp [spec_l3Random.l0] at h, fun _ _ _ _ _ _ _ _ _ _ _ r h => by simp [spec_l3Random.l1] at h⟩
 | k + 1 => by
  obtain ⟨ih0, ih1⟩ := spec_l3Random.mono_l k
  refine ⟨?_, ?_⟩
  ·intro y0 y1 y2 y3 y4 y5 y6 y7 y8
   unfold spec_l3Random.l0
   with_reducible repeat' first | exact ih0 _ _ _ _ _ _ _ _ _ | exact ih1 _ _ _ _ _ _ _ _ _ _ _ | exact LeO.refl _ | exact LeO.none _ | refine LeO.ite ?_ ?_ | refine LeO.bind ?_ (fun _ => ?_)
  intro y0 y1 y2 y3 y4 y5 y6 y7 y8 y9 y10
  unfold spec_l3Random.l1
  with_reducible repeat' first | exact ih0 _ _ _ _ _ _ _ _ _ | exact ih1 _ _ _ _ _ _ _ _ _ _ _ | exact LeO.refl _ | exact LeO.none _ | refine LeO.ite ?_ ?_ | refine LeO.bind ?_ (fun _ => ?_)
theorem spec_l3Random.mono : ∀ a0 a1 a2 a3 a4 k, LeO (spec_l3Random.f k a0 a1 a2 a3 a4) (spec_l3Random.f (k + 1) a0 a1 a2 a3 a4) := by
 intro a0 a1 a2 a3 a4 k
 obtain ⟨ih0, ih1⟩ := spec_l3Random.mono_l k
 unfold spec_l3Random.f
 with_reducible repeat' first | exact ih0 _ _ _ _ _ _ _ _ _ | exact ih1 _ _ _ _ _ _ _ _ _ _ _ | exact LeO.refl _ | exact LeO.none _ | refine LeO.ite ?_ ?_ | refine LeO.bind ?_ (fun _ => ?_)
def spec_l3Random.T11 : Bool × List (List Nat × List Nat) := (true, [([], []), ([0], [0]), ([], []), ([], []), ([3], [3]), ([4], [4]), ([2, 5, 4], [2, 5]), ([6], [6]), ([1, 7, 6], [1, 7]), ([0, 1, 2, 3, 4, 5, 6, 7, 8], []), ([9, 8, 8, 0, 1, 2, 3, 4, 5, 6, 7, 8], [8, 9])])
def spec_l3Random.B11 : List Nat := [0, 1, 0, 0, 8, 24, 60, 124, 255, 511, 1023]
theorem spec_l3Random.tab11 : rtab .any (opsOf Try.f100 11) = spec_l3Random.T11 := by kernel_rfl
theorem spec_l3Random.bits11 : waitsOk spec_l3Random.T11.2 spec_l3Random.B11 = true := by kernel_rfl
theorem spec_l3Random.calls (k : Nat) (g : Nat) (s0_0 : List Int) (s0_1 : Int) (s0_2 : Int) (a1 : Int) (a2 : Int) (r1 : Int) (r2 : List (List Int)) (r3 : List Int) (r4 : Int) (r5 : Int) (w0 w : World) (hI : IsS67 w0 w g s0_0 s0_1 s0_2) (hB : Below w0.heap.size w0 w) (h : spec_l3Random.f k s0_0 s0_1 s0_2 a1 a2 = some (r1, r2, r3, r4, r5)) :
  Calls Try.prog 100 #[.pointer (some ⟨g, 0, none⟩), .int .i64 a1, .int .i64 a2] w fun e w' => ∃ v1_ v2_ : Value, e = .returned (.agg #[.int .i64 r1, v1_, v2_]) ∧ Kd.S (Kd.slice 3 (Kd.int .i64)) 24 w' w.heap.size (fun k_ => some k_ ≠ (v2_ : Value).ownBlock) v1_ r2 ∧ Kd.R (Kd.int .i64) 3 w' w.heap.size (fun _ => True) v2_ r3 ∧ IsS67 w0 w' g s0_0 r4 r5 ∧ Below w0.heap.size w0 w' ∧ KeepBut w w' g none := by
 have hu72 := Try.underlying72
 have HI0 := A_ hI
 have HK := A_ (KeepBut.refl w g none)
 have HL := A_ hB.size
 clear hI
 have HW0 := A_ hB.size
 have HB := A_ hB
 clear hB
 unfold spec_l3Random.f at h
 have H := h
 clear h
 have H' := A_ H
 clear H
 go_enter Try.func100, Try.ntmps100
 go_wp2_with (first | ((with_reducible refine gate_dst (N := 6) rfl ?_); refine box_event ?hg (N := 6) ?hd (cs := #[.int .i64 0, .slice none 0 0, .slice none 0 0]) (t := 72) ?hr ?_; (case hd | hg => rfl); (case hr => go_simp; done); intro gb496 hg w4 hbox hb; have n0_ := A_ (IsS67.below HI0.out hb); have n1_ := A_ (KeepBut.trans HK.out (KeepBut.of_below hb g none) (.inl rfl)); have n2_ := A_ (below_step HB.out hb); have n3_ := A_ (hbox); have n4_ := A_ ((by rw [hg]; exact (keep_size HK.out) : w.heap.size ≤ gb496)); have n5_ := A_ ((Nat.le_trans HW0.out (by rw [hg]; exact (keep_size HK.out) : w.heap.size ≤ gb496) : w0.heap.size ≤ gb496)); have n6_ := A_ ((by rw [hg]; exact Nat.ne_of_lt (IsS67.lt HI0.out) : g ≠ gb496)); have n7_ := A_ ((by rw [hg]; exact Nat.ne_of_gt (IsS67.lt HI0.out) : gb496 ≠ g)); clear HI0 HK HB; revert n0_ n1_ n2_ n3_ n4_ n5_ n6_ n7_; intro HI0 HK HB BK496 GW496 GE496 NB0_496 NB496_0; clear hb hbox hg) | ((with_reducible refine gate_dst (N := 7) rfl ?_); refine box_event ?hg (N := 7) ?hd (cs := #[.int .i64 0, .slice none 0 0, .slice none 0 0]) (t := 72) ?hr ?_; (case hd | hg => rfl); (case hr => go_simp; done); intro gb497 hg w5 hbox hb; have n0_ := A_ (IsS67.below HI0.out hb); have n1_ := A_ (blk_below BK496.out hb); have n2_ := A_ (KeepBut.trans HK.out (KeepBut.of_below hb g none) (.inl rfl)); have n3_ := A_ (below_step HB.out hb); have n4_ := A_ (hbox); have n5_ := A_ ((by rw [hg]; exact (keep_size HK.out) : w.heap.size ≤ gb497)); have n6_ := A_ ((Nat.le_trans HW0.out (by rw [hg]; exact (keep_size HK.out) : w.heap.size ≤ gb497) : w0.heap.size ≤ gb497)); have n7_ := A_ ((by rw [hg]; exact Nat.ne_of_lt (blk_lt (g := gb496) (o := .cells #[.int .i64 0, .slice none 0 0, .slice none 0 0] 72 (0, 0)) BK496.out) : gb496 ≠ gb497)); have n8_ := A_ ((by rw [hg]; exact Nat.ne_of_gt (blk_lt (g := gb496) (o := .cells #[.int .i64 0, .slice none 0 0, .slice none 0 0] 72 (0, 0)) BK496.out) : gb497 ≠ gb496)); have n9_ := A_ ((by rw [hg]; exact Nat.ne_of_lt (IsS67.lt HI0.out) : g ≠ gb497)); have n10_ := A_ ((by rw [hg]; exact Nat.ne_of_gt (IsS67.lt HI0.out) : gb497 ≠ g)); clear HI0 BK496 HK HB; revert n0_ n1_ n2_ n3_ n4_ n5_ n6_ n7_ n8_ n9_ n10_; intro HI0 BK496 HK HB BK497 GW497 GE497 NB496_497 NB497_496 NB0_497 NB497_0; clear hb hbox hg; have hnb6 := NB497_496.out; have hnc6 := NB496_497.out; have hnb7 := NB497_0.out; have hnc7 := NB0_497.out; have hcz8_0 : w5.cell? ⟨gb497, 0, none⟩ = some (.int .i64 0) := (blk_cell BK497.out 0).trans rfl; have hcz8_1 : w5.cell? ⟨gb497, 1, none⟩ = some (.slice none 0 0) := (blk_cell BK497.out 1).trans rfl; have hcz8_2 : w5.cell? ⟨gb497, 2, none⟩ = some (.slice none 0 0) := (blk_cell BK497.out 2).trans rfl; have hfz8_0 := blk_frozen BK497.out 0; have hfz8_1 := blk_frozen BK497.out 1; have hfz8_2 := blk_frozen BK497.out 2))
 go_loopg [8] k (fun kq v8 w' => ∃ (x8_1 : Int) (x1001_1 : Int) (x1002_1 : Int) (x498001_1 : List (List Int)) (x498002_1 : List Int) (u498001 : Value) (u498002 : Value), v8 = .int .i64 x8_1 ∧ Aside0 (spec_l3Random.l0 kq a1 a2 x8_1 s0_0 x1001_1 x1002_1 a1 x498001_1 x498002_1 = some (r1, r2, r3, r4, r5)) ∧ Aside0 (kq ≤ k) ∧ Aside0 (Kd.S (Kd.slice 3 (Kd.int .i64)) 24 w' w.heap.size (fun k_ => some k_ ≠ (u498002 : Value).ownBlock) u498001 x498001_1) ∧ Aside0 (Kd.R (Kd.int .i64) 3 w' w.heap.size (fun _ => True) u498002 x498002_1) ∧ Aside0 (w'.heap[gb496]? = some (.cells #[.int .i64 0, (.slice none 0 0), (.slice none 0 0)] 72 (0, 0))) ∧ Aside0 (w'.heap[gb497]? = some (.cells #[.int .i64 a1, u498001, u498002] 72 (0, 0))) ∧ Aside0 (IsS67 w0 w' g s0_0 x1001_1 x1002_1) ∧ Aside0 (KeepBut w w' g none) ∧ Aside0 (Below w0.heap.size w0 w'))
 case atStart => exact ⟨(0), (s0_1), (s0_2), (([] : List (List Int))), (([] : List Int)), (.slice none 0 0), (.slice none 0 0), (by rfl), H', ⟨Nat.le_refl _⟩, ⟨by exact Kd.S_nil _ _ _ _ _⟩, ⟨by exact Kd.R_nil _ _ _ _ _⟩, ⟨by refine blk_far ?_ NB496_497.out _; refine blk_far ?_ NB496_497.out _; refine blk_far ?_ NB496_497.out _; exact BK496.out⟩, ⟨by refine blk_put (cs := #[.int .i64 a1, .slice none 0 0, .slice none 0 0]) ?_ 2 _ rfl; refine blk_put (cs := #[.int .i64 a1, .slice none 0 0, .slice none 0 0]) ?_ 1 _ rfl; refine blk_put (cs := #[.int .i64 0, .slice none 0 0, .slice none 0 0]) ?_ 0 _ rfl; exact BK497.out⟩, ⟨by repeat (first | (with_reducible first | exact HI0.out | apply IsS67.alloc | apply IsS67.drewN | apply IsS67.drew | apply IsS67.set_1 | apply IsS67.set_2 | refine IsS67.far ?_ NB0_496.out _ | refine IsS67.far ?_ NB0_497.out _) | exact HI0.out)⟩, ⟨by repeat (first | (with_reducible first | exact HK.out | apply KeepBut.set_ | apply keep_drewN | apply keep_drew | apply keep_alloc | refine keep_far ?_ GW496.out _ | refine keep_far ?_ GW497.out _) | exact HK.out)⟩, ⟨by repeat (first | (with_reducible first | exact HB.out | apply below_alloc | apply pw_below_drewN | apply below_drew1 | refine below_set ?_ (IsS67.ge HI0.out) | refine below_set ?_ GE496.out | refine below_set ?_ GE497.out) | exact HB.out)⟩⟩
 case round =>
  clear H'
  try clear hcz8_0
  try clear hcz8_1
  try clear hcz8_2
  try clear hfz8_0
  try clear hfz8_1
  try clear hfz8_2
  obtain ⟨x8_1, x1001_1, x1002_1, x498001_1, x498002_1, u498001, u498002, rfl, HA, HK1, HO_498001, HO_498002, BK496, BK497, HI0, HK, HB⟩ := hrel
  cases gk with
  | zero => exact absurd HA.out (by simp [spec_l3Random.l0])
  | succ k1 =>
   have H := HA.out
   clear HA
   simp only [spec_l3Random.l0] at H
   by_cases c9 : x8_1 < a2
   ·rw [if_pos c9] at H
    have c9b0 : decide (x8_1 < a2) = true := decide_eq_true c9
    clear c9
    obtain ⟨y501, hy501⟩ : ∃ y_ : List Int, y_ = (([] : List Int)) := ⟨_, rfl⟩
    replace H : (spec_l3Random.l1 k1 a1 a2 x8_1 y501 0 s0_0 x1001_1 x1002_1 a1 x498001_1 x498002_1) = some (r1, r2, r3, r4, r5) := by (rw [hy501]; with_reducible exact H)
    have Ny501 := A_ hy501
    clear hy501
    have H' := A_ H
    clear H
    go_wp2_with (first | ((with_reducible refine gate_dst (N := 18) rfl ?_); refine Kd.R_lit (Kd.int .i64) _ 3 ?hg (N := 18) ?hd (xs := ([] : List Int)) (inner := []) (ok := fun _ => True) (okp := fun _ => True) ?hr ?hp (fun _ hk => hk) trivial (Below.refl _ _) (Nat.le_refl _) (by simp) ?_; (case hd | hg => rfl); (case hr => go_simp; done); (case hp => exact (Reps.none _ _)); intro v502 w10 ho11 hb hg_ hnew_; clear hg_ hnew_; (first | rw [← Ny501.out] at ho11 | (simp only [Int.reduceToNat] at ho11; rw [← Ny501.out] at ho11)); have n0_ := A_ (Kd.S_elder' HO_498001.out (Kd.R_base ho11) hb); have n1_ := A_ (Kd.R_elder' HO_498002.out (Kd.R_base ho11) hb); have n2_ := A_ (Kd.R_lower (Kd.R_new' ho11 (Kd.R_lt HO_498002.out)) (keep_size HK.out)); have n3_ := A_ (blk_below BK496.out hb); have n4_ := A_ (blk_below BK497.out hb); have n5_ := A_ (IsS67.below HI0.out hb); have n6_ := A_ (KeepBut.trans HK.out (KeepBut.of_below hb g none) (.inl rfl)); have n7_ := A_ (below_step HB.out hb); clear HO_498001 HO_498002 BK496 BK497 HI0 HK HB; revert n0_ n1_ n2_ n3_ n4_ n5_ n6_ n7_; intro HO_498001 HO_498002 HO503 BK496 BK497 HI0 HK HB; clear hb ho11))
    go_loopg [9, 10] k1 (fun kq v9 v10 w' => ∃ (x9_2 : List Int) (x10_2 : Int) (x1001_2 : Int) (x1002_2 : Int), v10 = .int .i64 x10_2 ∧ Aside0 (spec_l3Random.l1 kq a1 a2 x8_1 x9_2 x10_2 s0_0 x1001_2 x1002_2 a1 x498001_1 x498002_1 = some (r1, r2, r3, r4, r5)) ∧ Aside0 (kq ≤ k1) ∧ Aside0 (Kd.R (Kd.int .i64) 3 w' w.heap.size (fun k_ => some k_ ≠ (u498002 : Value).ownBlock) v9 x9_2) ∧ Aside0 (Kd.S (Kd.slice 3 (Kd.int .i64)) 24 w' w.heap.size (fun k_ => some k_ ≠ (v9 : Value).ownBlock ∧ some k_ ≠ (u498002 : Value).ownBlock) u498001 x498001_1) ∧ Aside0 (Kd.R (Kd.int .i64) 3 w' w.heap.size (fun k_ => some k_ ≠ (v9 : Value).ownBlock) u498002 x498002_1) ∧ Aside0 (w'.heap[gb496]? = some (.cells #[.int .i64 0, (.slice none 0 0), (.slice none 0 0)] 72 (0, 0))) ∧ Aside0 (w'.heap[gb497]? = some (.cells #[.int .i64 a1, u498001, u498002] 72 (0, 0))) ∧ Aside0 (IsS67 w0 w' g s0_0 x1001_2 x1002_2) ∧ Aside0 (KeepBut w w' g none) ∧ Aside0 (Below w0.heap.size w0 w'))
    case atStart => exact ⟨(y501), (0), (x1001_1), (x1002_1), (by rfl), H', ⟨Nat.le_refl _⟩, ⟨by exact Kd.R_mono HO503.out (fun _ hk => hk.2)⟩, ⟨by exact Kd.S_mono HO_498001.out (fun _ hk => ⟨hk.2, hk.1⟩)⟩, ⟨by exact Kd.R_mono HO_498002.out (fun _ hk => hk.2)⟩, ⟨BK496.out⟩, ⟨BK497.out⟩, ⟨HI0.out⟩, ⟨HK.out⟩, ⟨HB.out⟩⟩
    case round =>
     clear H'
     try clear c9b0
     obtain ⟨x9_2, x10_2, x1001_2, x1002_2, rfl, HA, HK2, HO_9, HO_498001, HO_498002, BK496, BK497, HI0, HK, HB⟩ := hrel
     cases gk with
     | zero => exact absurd HA.out (by simp [spec_l3Random.l1])
     | succ k2 =>
      have H := HA.out
      clear HA
      simp only [spec_l3Random.l1] at H
      by_cases c12 : x10_2 < a1
      ·rw [if_pos c12] at H
       have c12b0 : decide (x10_2 < a1) = true := decide_eq_true c12
       clear c12
       replace H := Option.bind_eq_some_iff.mp H
       obtain ⟨⟨t504, t505, t506⟩, A130, H⟩ := H
       dsimp only at H
       have A13 := A_ A130
       clear A130
       by_cases c14 : x9_2.length < 17592186044416
       ·rw [if_pos c14] at H
        have LMc14 := A_ c14
        clear c14
        obtain ⟨y507, hy507⟩ : ∃ y_ : List Int, y_ = (x9_2 ++ [t504]) := ⟨_, rfl⟩
        replace H : (spec_l3Random.l1 k2 a1 a2 x8_1 y507 (wrap64 (x10_2 + 1)) s0_0 t505 t506 a1 x498001_1 x498002_1) = some (r1, r2, r3, r4, r5) := by (rw [hy507]; with_reducible exact H)
        have Ny507 := A_ hy507
        clear hy507
        have H' := A_ H
        clear H
        go_wp2_with (first | ((with_reducible refine gate_callee (f := 74) rfl ?_); refine goesL_ (some 27) rfl rfl Try.func74 (by kernel_rfl) rfl #[.pointer (some ⟨g, 0, none⟩), .int .i64 a2] rfl (by (try simp only [mA, mB, mC]); first | done | rfl | (simp only [List.length_drop, List.length_take]; rfl)) ?_; (with_reducible refine (spec_l1Below.calls g s0_0 x1001_2 x1002_2 a2 t504 t505 t506 w0 _ ?side1 ?side2 A13.out).mono ?_); (case side1 => exact HI0.out); (case side2 => exact HB.out); rintro e w15 ⟨rfl, hi, hb, hk⟩; refine ⟨_, rfl, ?_⟩; have n0_ := A_ (Kd.R_mono (Kd.R_keep (IsS67.apart HI0.out HO_9.out (by decide)) hk (fun _ h => h.2)) (fun _ h => h.1)); have n1_ := A_ (Kd.S_mono (Kd.S_keep (IsS67.apartS HI0.out HO_498001.out (by decide)) hk (fun _ h => h.2)) (fun _ h => h.1)); have n2_ := A_ (Kd.R_mono (Kd.R_keep (IsS67.apart HI0.out HO_498002.out (by decide)) hk (fun _ h => h.2)) (fun _ h => h.1)); have n3_ := A_ (KeepBut.blk hk BK496.out NB496_0.out (by simp)); have n4_ := A_ (KeepBut.blk hk BK497.out NB497_0.out (by simp)); have n5_ := A_ (KeepBut.trans HK.out hk (.inl rfl)); have n6_ := A_ (hb); have n7_ := A_ (hi); clear HO_9 HO_498001 HO_498002 BK496 BK497 HK HB HI0; revert n0_ n1_ n2_ n3_ n4_ n5_ n6_ n7_; intro HO_9 HO_498001 HO_498002 BK496 BK497 HK HB HI0; clear hb hk; (try clear hi)) | ((with_reducible refine gate_builtin (b := .append) (xs := #[.tmp 24, .tmp 28]) rfl ?_); at_builtin; refine Kd.R_append (Kd.int .i64) w.heap.size rfl (.tmp 24) (.tmp 28) 24 3 (.int .i64 0) 8 rfl Try.underlying24 info3 rfl (by decide) (by omega) u9 x9_2 t504 [.int .i64 t504] (fun k_ => some k_ ≠ (u498002 : Value).ownBlock) (fun _ => False) rfl rfl ?aP (fun _ hk => hk.elim) ?aF ?aO (Below.refl _ _) ?aS ?aL ?_; (case aP => exact rfl); (case aF => exact (fun k_ hk => Kd.fresh' (Kd.R_lt HO_498002.out) k_ hk)); (case aO => exact HO_9.out); (case aS => exact (keep_size HK.out)); (case aL => have := LMc14.out; omega); intro v508 w16 ho hb hg hat; rw [← Ny507.out] at ho; have n0_ := A_ (Kd.S_after (ok := (fun k_ => some k_ ≠ (u498002 : Value).ownBlock)) (by exact Kd.S_mono HO_498001.out (fun _ hk => ⟨hk.2, hk.1⟩)) hg hat); have n1_ := A_ (Kd.R_after (ok := (fun _ => True)) (by exact Kd.R_mono HO_498002.out (fun _ hk => ⟨trivial, hk⟩)) hg hat); have n2_ := A_ (blk_grown (g := gb496) (o := .cells #[.int .i64 0, .slice none 0 0, .slice none 0 0] 72 (0, 0)) BK496.out hg (Kd.R_ne HO_9.out BK496.out (by decide))); have n3_ := A_ (blk_grown (g := gb497) (o := .cells #[.int .i64 a1, u498001, u498002] 72 (0, 0)) BK497.out hg (Kd.R_ne HO_9.out BK497.out (by decide))); have n4_ := A_ (IsS67.grown HI0.out hg (IsS67.own_ne HI0.out HO_9.out (by decide))); have n5_ := A_ (below_weaken HB.out HL.out hb); have n6_ := A_ (KeepBut.trans HK.out (KeepBut.of_grown hg g) (Kd.R_base2 HO_9.out)); have n7_ := A_ (ho); clear HO_498001 HO_498002 BK496 BK497 HI0 HB HK HO_9; revert n0_ n1_ n2_ n3_ n4_ n5_ n6_ n7_; intro HO_498001 HO_498002 BK496 BK497 HI0 HB HK HO509; clear ho hb hg hat))
        go_roundg k2
        case measure => have := HK1.out; have := HK2.out; omega
        case rel => exact ⟨(y507), (wrap64 (x10_2 + 1)), (t505), (t506), (by rfl), H', ⟨by have := HK1.out; have := HK2.out; omega⟩, ⟨HO509.out⟩, ⟨by exact Kd.S_mono HO_498001.out (fun _ hk => ⟨hk.2, hk.1⟩)⟩, ⟨by exact Kd.R_mono HO_498002.out (fun _ hk => hk.2)⟩, ⟨BK496.out⟩, ⟨BK497.out⟩, ⟨HI0.out⟩, ⟨HK.out⟩, ⟨HB.out⟩⟩
       rw [if_neg c14] at H
       exact absurd H (by simp)
      rw [if_neg c12] at H
      have c12b0 : decide (x10_2 < a1) = false := decide_eq_false c12
      clear c12
      by_cases c17 : x498001_1.length < 5864062014805
      ·rw [if_pos c17] at H
       have LMc17 := A_ c17
       clear c17
       obtain ⟨y510, hy510⟩ : ∃ y_ : List (List Int), y_ = (x498001_1 ++ [x9_2]) := ⟨_, rfl⟩
       replace H : ((spec_l1Below.f s0_0 x1001_2 x1002_2 2).bind fun bt513 => ((spec_l1Below.f s0_0 bt513.2.1 bt513.2.2 (wrap64 (2 + bt513.1))).bind fun bt516 => (if x498002_1.length < 17592186044416 then (spec_l3Random.l0 k2 a1 a2 (wrap64 (x8_1 + 1)) s0_0 bt516.2.1 bt516.2.2 a1 y510 (x498002_1 ++ [bt516.1])) else (none)))) = some (r1, r2, r3, r4, r5) := by (rw [hy510]; with_reducible exact H)
       have Ny510 := A_ hy510
       clear hy510
       replace H := Option.bind_eq_some_iff.mp H
       obtain ⟨⟨t513, t514, t515⟩, A180, H⟩ := H
       dsimp only at H
       have A18 := A_ A180
       clear A180
       replace H := Option.bind_eq_some_iff.mp H
       obtain ⟨⟨t516, t517, t518⟩, A190, H⟩ := H
       dsimp only at H
       have A19 := A_ A190
       clear A190
       by_cases c20 : x498002_1.length < 17592186044416
       ·rw [if_pos c20] at H
        have LMc20 := A_ c20
        clear c20
        obtain ⟨y519, hy519⟩ : ∃ y_ : List Int, y_ = (x498002_1 ++ [t516]) := ⟨_, rfl⟩
        replace H : (spec_l3Random.l0 k2 a1 a2 (wrap64 (x8_1 + 1)) s0_0 t517 t518 a1 y510 y519) = some (r1, r2, r3, r4, r5) := by (rw [hy519]; with_reducible exact H)
        have Ny519 := A_ hy519
        clear hy519
        have H' := A_ H
        clear H
        have hnb21 := NB497_496.out
        have hnc21 := NB496_497.out
        have hnb22 := NB497_0.out
        have hnc22 := NB0_497.out
        have hcz23_0 : wr.cell? ⟨gb497, 0, none⟩ = some (.int .i64 a1) := (blk_cell BK497.out 0).trans rfl
        have hcz23_1 : wr.cell? ⟨gb497, 1, none⟩ = some (u498001) := (blk_cell BK497.out 1).trans rfl
        have hcz23_2 : wr.cell? ⟨gb497, 2, none⟩ = some (u498002) := (blk_cell BK497.out 2).trans rfl
        have hfz23_0 := blk_frozen BK497.out 0
        have hfz23_1 := blk_frozen BK497.out 1
        have hfz23_2 := blk_frozen BK497.out 2
        obtain ⟨Ao25, co25, eo25⟩ := Kd.R_slice HO_9.out
        subst eo25
        try go_wp2_with (first | ((with_reducible refine gate_builtin (b := .append) (xs := #[.tmp 31, .tmp 33]) rfl ?_); at_builtin; refine Kd.S_append (Kd.slice 3 (Kd.int .i64)) w.heap.size rfl (.tmp 31) (.tmp 33) 44 24 (.slice none 0 0) 24 rfl Try.underlying44 info24 rfl (by decide) (by omega) u498001 x498001_1 x9_2 [.slice Ao25 x9_2.length co25] (fun k_ => some k_ ≠ (u498002 : Value).ownBlock) (fun k_ => some k_ = (.slice Ao25 x9_2.length co25 : Value).ownBlock) rfl rfl ?aP (fun k_ hk_ => ((Kd.R_mono (ok' := fun k_ => ((fun k_ => some k_ ≠ (u498002 : Value).ownBlock)) k_ ∧ some k_ ≠ (u498001 : Value).ownBlock) (Kd.R_apart' (HO_9.out) (Kd.S_typed HO_498001.out) (by decide)) (fun k_ hk => ⟨hk.1, hk.2⟩))).1 k_ hk_.symm) ?aF ?aO (Below.refl _ _) ?aS ?aL ?_; (case aP => exact Kd.M_row (Kd.R_mono (Kd.R_tight rfl (Kd.R_mono (ok' := fun k_ => ((fun k_ => some k_ ≠ (u498002 : Value).ownBlock)) k_ ∧ some k_ ≠ (u498001 : Value).ownBlock) (Kd.R_apart' (HO_9.out) (Kd.S_typed HO_498001.out) (by decide)) (fun k_ hk => ⟨hk.1, hk.2⟩))) (fun _ h_ => h_))); (case aF => exact (fun k_ hk => Kd.fresh' (Kd.R_lt HO_498002.out) k_ hk)); (case aO => exact (by exact Kd.S_mono HO_498001.out (fun k_ hk => ⟨hk.2, fun e_ => hk.1 e_⟩))); (case aS => exact (keep_size HK.out)); (case aL => have := LMc17.out; omega); intro v511 w24 ho hb hg hat; rw [← Ny510.out] at ho; have n0_ := A_ (Kd.R_over' HO_498002.out (Kd.S_typed HO_498001.out) (by decide) hg); have n1_ := A_ (blk_grown (g := gb496) (o := .cells #[.int .i64 0, .slice none 0 0, .slice none 0 0] 72 (0, 0)) BK496.out hg (Kd.S_ne HO_498001.out BK496.out (by decide))); have n2_ := A_ (blk_grown (g := gb497) (o := .cells #[.int .i64 a1, u498001, u498002] 72 (0, 0)) BK497.out hg (Kd.S_ne HO_498001.out BK497.out (by decide))); have n3_ := A_ (IsS67.grown HI0.out hg (IsS67.own_neS HI0.out HO_498001.out (by decide))); have n4_ := A_ (below_weaken HB.out HL.out hb); have n5_ := A_ (KeepBut.trans HK.out (KeepBut.of_grown hg g) (Kd.S_base2 HO_498001.out)); have n6_ := A_ (ho); clear HO_498002 BK496 BK497 HI0 HB HK HO_498001 HO_9; revert n0_ n1_ n2_ n3_ n4_ n5_ n6_; intro HO_498002 BK496 BK497 HI0 HB HK HO512; clear ho hb hg hat; obtain ⟨Ao26, co26, eo26⟩ := Kd.S_slice HO512.out; subst eo26; have hcz27_0 : w24.cell? ⟨gb497, 0, none⟩ = some (.int .i64 a1) := (blk_cell BK497.out 0).trans rfl; have hcz27_1 : w24.cell? ⟨gb497, 1, none⟩ = some (u498001) := (blk_cell BK497.out 1).trans rfl; have hcz27_2 : w24.cell? ⟨gb497, 2, none⟩ = some (u498002) := (blk_cell BK497.out 2).trans rfl; have hfz27_0 := blk_frozen BK497.out 0; have hfz27_1 := blk_frozen BK497.out 1; have hfz27_2 := blk_frozen BK497.out 2))
        have n0_ : Aside0 (Kd.R (Kd.int .i64) 3 (w24.setCell ⟨gb497, 1, none⟩ (.slice Ao26 y510.length co26)) w.heap.size (fun _ => True) u498002 x498002_1) := ⟨by exact Kd.R_mono (Kd.R_far (p := ⟨gb497, 1, none⟩) (Kd.R_types HO_498002.out BK497.out (by decide)) (fun _ hk => hk.2) (.slice Ao26 y510.length co26)) (fun _ hk => trivial)⟩
        have n1_ : Aside0 (Kd.S (Kd.slice 3 (Kd.int .i64)) 24 (w24.setCell ⟨gb497, 1, none⟩ (.slice Ao26 y510.length co26)) w.heap.size (fun k_ => some k_ ≠ (u498002 : Value).ownBlock) (.slice Ao26 y510.length co26) y510) := ⟨by exact Kd.S_mono (Kd.S_far (p := ⟨gb497, 1, none⟩) (Kd.S_types HO512.out BK497.out (by decide)) (fun _ hk => hk.2) (.slice Ao26 y510.length co26)) (fun _ hk => hk.1)⟩
        have n2_ : Aside0 ((w24.setCell ⟨gb497, 1, none⟩ (.slice Ao26 y510.length co26)).heap[gb496]? = some (.cells #[.int .i64 0, .slice none 0 0, .slice none 0 0] 72 (0, 0))) := ⟨by refine blk_far ?_ NB496_497.out _; exact BK496.out⟩
        have n3_ : Aside0 ((w24.setCell ⟨gb497, 1, none⟩ (.slice Ao26 y510.length co26)).heap[gb497]? = some (.cells #[.int .i64 a1, .slice Ao26 y510.length co26, u498002] 72 (0, 0))) := ⟨by refine blk_put (cs := #[.int .i64 a1, u498001, u498002]) ?_ 1 _ rfl; exact BK497.out⟩
        have n4_ : Aside0 (IsS67 w0 (w24.setCell ⟨gb497, 1, none⟩ (.slice Ao26 y510.length co26)) g s0_0 x1001_2 x1002_2) := ⟨by repeat (first | (with_reducible first | exact HI0.out | apply IsS67.alloc | apply IsS67.drewN | apply IsS67.drew | apply IsS67.set_1 | apply IsS67.set_2 | refine IsS67.far ?_ NB0_496.out _ | refine IsS67.far ?_ NB0_497.out _) | exact HI0.out)⟩
        have n5_ : Aside0 (KeepBut w (w24.setCell ⟨gb497, 1, none⟩ (.slice Ao26 y510.length co26)) g none) := ⟨by repeat (first | (with_reducible first | exact HK.out | apply KeepBut.set_ | apply keep_drewN | apply keep_drew | apply keep_alloc | refine keep_far ?_ GW496.out _ | refine keep_far ?_ GW497.out _) | exact HK.out)⟩
        have n6_ : Aside0 (Below w0.heap.size w0 (w24.setCell ⟨gb497, 1, none⟩ (.slice Ao26 y510.length co26))) := ⟨by repeat (first | (with_reducible first | exact HB.out | apply below_alloc | apply pw_below_drewN | apply below_drew1 | refine below_set ?_ (IsS67.ge HI0.out) | refine below_set ?_ GE496.out | refine below_set ?_ GE497.out) | exact HB.out)⟩
        (try clear HO_498002)
        (try clear HO512)
        (try clear BK496)
        (try clear BK497)
        (try clear HI0)
        (try clear HK)
        (try clear HB)
        generalize (w24.setCell ⟨gb497, 1, none⟩ (.slice Ao26 y510.length co26)) = w28 at n0_ n1_ n2_ n3_ n4_ n5_ n6_ ⊢
        have HO_498002 := n0_
        have HO512 := n1_
        have BK496 := n2_
        have BK497 := n3_
        have HI0 := n4_
        have HK := n5_
        have HB := n6_
        clear n0_ n1_ n2_ n3_ n4_ n5_ n6_
        have n0_ := A_ (Kd.R_drew HO_498002.out)
        have n1_ := A_ (Kd.S_drew HO512.out)
        have n2_ := A_ (blk_drew BK496.out)
        have n3_ := A_ (blk_drew BK497.out)
        have n4_ := A_ (IsS67.drew HI0.out)
        have n5_ := A_ (keep_drew HK.out)
        have n6_ := A_ (below_drew1 HB.out)
        clear HO_498002
        clear HO512
        clear BK496
        clear BK497
        clear HI0
        clear HK
        clear HB
        have HO_498002 := n0_
        have HO512 := n1_
        have BK496 := n2_
        have BK497 := n3_
        have HI0 := n4_
        have HK := n5_
        have HB := n6_
        clear n0_ n1_ n2_ n3_ n4_ n5_ n6_
        refine start_ (n := 11) (S := fun w' => w'.cell? ⟨gb497, 0, none⟩ = some (.int .i64 a1) ∧ w'.cell? ⟨gb497, 1, none⟩ = some (.slice Ao26 y510.length co26) ∧ w'.cell? ⟨gb497, 2, none⟩ = some (u498002)) (ds := [10]) #[false, false, false, false, false, false, false, false, false, false, false] (by kernel_rfl) rfl rfl ⟨(blk_cell BK497.out 0).trans rfl, (blk_cell BK497.out 1).trans rfl, (blk_cell BK497.out 2).trans rfl⟩ (fun hHeld => ?_); refine with_tabW spec_l3Random.tab11 spec_l3Random.bits11 (fun HT_ HW_ => ?_)
        generalize w28.drew = w29 at HO_498002 HO512 BK496 BK497 HI0 HK HB hHeld ⊢
        refine pure_ (i := 0) (N := some 36) (v := ?_) (a' := ?_) #[true, false, false, false, false, false, false, false, false, false, false] rfl rfl (any_of HT_.out (by kernel_rfl)) (fun _ _ _ h => h) (Or.inl ⟨by rfl, ?_⟩) ?_ ?_
        rotate_left
        ·intro w'
         go_simp
         with_reducible rfl
        rotate_left
        ·simp only [Act.put, mD, mE, mF, i64_w, i32_w]
         rfl
        refine pure_ (i := 2) (N := some 38) (v := ?_) (a' := ?_) #[true, false, true, false, false, false, false, false, false, false, false] rfl rfl (any_of HT_.out (by kernel_rfl)) (fun _ _ _ h => h) (Or.inl ⟨by rfl, ?_⟩) ?_ ?_
        rotate_left
        ·intro w'
         go_simp
         with_reducible rfl
        rotate_left
        ·simp only [Act.put, mD, mE, mF, i64_w, i32_w]
         rfl
        refine pure_ (i := 3) (N := some 39) (v := ?_) (a' := ?_) #[true, false, true, true, false, false, false, false, false, false, false] rfl rfl (any_of HT_.out (by kernel_rfl)) (fun _ _ _ h => h) (Or.inl ⟨by rfl, ?_⟩) ?_ ?_
        rotate_left
        ·intro w'
         go_simp
         with_reducible rfl
        rotate_left
        ·simp only [Act.put, mD, mE, mF, i64_w, i32_w]
         rfl
        refine take_ (i := 1) (N := some 37) (v := ?_) (a' := ?_) #[true, true, true, true, false, false, false, false, false, false, false] rfl rfl (take_ofW HT_.out HW_.out (by kernel_rfl)) (fun _ _ _ h => h) (Or.inl ⟨by rfl, ?_⟩) hHeld ?_ ?_
        rotate_left
        ·rintro w' ⟨s0, s1, s2⟩
         go_simp
         with_reducible rfl
        rotate_left
        ·simp only [Act.put, mD, mE, mF, i64_w, i32_w]
         rfl
        refine one_ (i := 4) (N := some 40) #[true, true, true, true, true, false, false, false, false, false, false] rfl rfl (one_of HT_.out (by kernel_rfl)) (by decide) (fun K hK => ?_)
        refine goes_ Try.func74 (by kernel_rfl) rfl #[.pointer (some ⟨g, 0, none⟩), .int .i64 2] (by rfl) rfl rfl (by (try simp only [mA, mB, mC]); first | done | rfl | (simp only [List.length_drop, List.length_take]; rfl)) ?_
        with_reducible refine (spec_l1Below.calls g s0_0 x1001_2 x1002_2 2 t513 t514 t515 w0 _ ?side1 ?side2 A18.out).mono ?_
        (case side1 => exact HI0.out)
        (case side2 => exact HB.out)
        rintro e w30 ⟨rfl, hi, hb, hk⟩
        refine ⟨_, rfl, ?_⟩
        have n0_ := A_ (Kd.R_mono (Kd.R_keep (IsS67.apart HI0.out HO_498002.out (by decide)) hk (fun _ h => h.2)) (fun _ h => h.1))
        have n1_ := A_ (KeepBut.blk hk BK496.out NB496_0.out (by simp))
        have n2_ := A_ (KeepBut.blk hk BK497.out NB497_0.out (by simp))
        have n3_ := A_ (Kd.S_mono (Kd.S_keep (IsS67.apartS HI0.out HO512.out (by decide)) hk (fun _ h => h.2)) (fun _ h => h.1))
        have n4_ := A_ (KeepBut.trans HK.out hk (.inl rfl))
        have n5_ := A_ (hb)
        have n6_ := A_ (hi)
        clear HO_498002
        clear BK496
        clear BK497
        clear HO512
        clear HK
        clear HB
        clear HI0
        have HO_498002 := n0_
        have BK496 := n1_
        have BK497 := n2_
        have HO512 := n3_
        have HK := n4_
        have HB := n5_
        have HI0 := n6_
        clear n0_ n1_ n2_ n3_ n4_ n5_ n6_
        (try clear hb)
        (try clear hb2)
        (try clear hk)
        (try clear hi)
        refine hK.out _ _ ⟨(blk_cell BK497.out 0).trans rfl, (blk_cell BK497.out 1).trans rfl, (blk_cell BK497.out 2).trans rfl⟩ (fun hHeld => ?_)
        clear hK K
        refine norm_ (a' := ?_) ?_ ?_
        rotate_left
        ·show Act.put _ (some 40) _ = _
         simp only [Act.put, mD, mE, mF, i64_w, i32_w]
         rfl
        refine pure_ (i := 5) (N := some 41) (v := ?_) (a' := ?_) #[true, true, true, true, true, true, false, false, false, false, false] rfl rfl (any_of HT_.out (by kernel_rfl)) (fun _ _ _ h => h) (Or.inl ⟨by rfl, ?_⟩) ?_ ?_
        rotate_left
        ·intro w'
         go_simp
         with_reducible rfl
        rotate_left
        ·simp only [Act.put, mD, mE, mF, i64_w, i32_w]
         rfl
        refine one_ (i := 6) (N := some 42) #[true, true, true, true, true, true, true, false, false, false, false] rfl rfl (one_of HT_.out (by kernel_rfl)) (by decide) (fun K hK => ?_)
        refine goes_ Try.func74 (by kernel_rfl) rfl #[.pointer (some ⟨g, 0, none⟩), .int .i64 (wrap64 (2 + t513))] (by rfl) rfl rfl (by (try simp only [mA, mB, mC]); first | done | rfl | (simp only [List.length_drop, List.length_take]; rfl)) ?_
        with_reducible refine (spec_l1Below.calls g s0_0 t514 t515 (wrap64 (2 + t513)) t516 t517 t518 w0 _ ?side1 ?side2 A19.out).mono ?_
        (case side1 => exact HI0.out)
        (case side2 => exact HB.out)
        rintro e w31 ⟨rfl, hi, hb, hk⟩
        refine ⟨_, rfl, ?_⟩
        have n0_ := A_ (Kd.R_mono (Kd.R_keep (IsS67.apart HI0.out HO_498002.out (by decide)) hk (fun _ h => h.2)) (fun _ h => h.1))
        have n1_ := A_ (KeepBut.blk hk BK496.out NB496_0.out (by simp))
        have n2_ := A_ (KeepBut.blk hk BK497.out NB497_0.out (by simp))
        have n3_ := A_ (Kd.S_mono (Kd.S_keep (IsS67.apartS HI0.out HO512.out (by decide)) hk (fun _ h => h.2)) (fun _ h => h.1))
        have n4_ := A_ (KeepBut.trans HK.out hk (.inl rfl))
        have n5_ := A_ (hb)
        have n6_ := A_ (hi)
        clear HO_498002
        clear BK496
        clear BK497
        clear HO512
        clear HK
        clear HB
        clear HI0
        have HO_498002 := n0_
        have BK496 := n1_
        have BK497 := n2_
        have HO512 := n3_
        have HK := n4_
        have HB := n5_
        have HI0 := n6_
        clear n0_ n1_ n2_ n3_ n4_ n5_ n6_
        (try clear hb)
        (try clear hb2)
        (try clear hk)
        (try clear hi)
        refine hK.out _ _ ⟨(blk_cell BK497.out 0).trans rfl, (blk_cell BK497.out 1).trans rfl, (blk_cell BK497.out 2).trans rfl⟩ (fun hHeld => ?_)
        clear hK K
        refine norm_ (a' := ?_) ?_ ?_
        rotate_left
        ·show Act.put _ (some 42) _ = _
         simp only [Act.put, mD, mE, mF, i64_w, i32_w]
         rfl
        refine one_ (i := 7) (N := some 43) #[true, true, true, true, true, true, true, true, false, false, false] rfl rfl (one_of HT_.out (by kernel_rfl)) (by decide) (fun K hK => ?_)
        refine value_ (w1 := ?_) (v := ?_) (by rfl) rfl ?_ ?_
        rotate_left 2
        ·go_simp
         constructor
         ·rfl
         rfl
        refine hK.out _ _ ⟨(blk_cell (blk_alloc BK497.out _) 0).trans rfl, (blk_cell (blk_alloc BK497.out _) 1).trans rfl, (blk_cell (blk_alloc BK497.out _) 2).trans rfl⟩ (fun hHeld => ?_)
        clear hK K
        refine norm_ (a' := ?_) ?_ ?_
        rotate_left
        ·show Act.put _ (some 43) _ = _
         simp only [Act.put, mD, mE, mF, i64_w, i32_w]
         rfl
        refine one_ (i := 8) (N := some 44) #[true, true, true, true, true, true, true, true, true, false, false] rfl rfl (one_of HT_.out (by kernel_rfl)) (by decide) (fun K hK => ?_)
        refine Kd.R_append_step (Kd.int .i64) w.heap.size (by rfl) (.tmp 37) (.tmp 43) 24 3 (.int .i64 0) 8 rfl Try.underlying24 info3 rfl (by decide) (by omega) u498002 x498002_1 t516 [.int .i64 t516] (fun _ => True) (fun _ => False) rfl rfl ?aP (fun _ hk => hk.elim) ?aF ?aO (Below.refl _ _) ?aS ?aL ?_
        (case aP => exact rfl)
        (case aF => exact (fun _ _ => trivial))
        (case aO => exact HO_498002.out)
        (case aS => exact (keep_size HK.out))
        (case aL => have := LMc20.out; omega)
        intro v520 w32 ho hb hg hat
        rw [← Ny519.out] at ho
        have n0_ := A_ (blk_grown (g := gb496) (o := .cells #[.int .i64 0, .slice none 0 0, .slice none 0 0] 72 (0, 0)) BK496.out hg (Kd.R_ne HO_498002.out BK496.out (by decide)))
        have n1_ := A_ (blk_grown (g := gb497) (o := .cells #[.int .i64 a1, .slice Ao26 y510.length co26, u498002] 72 (0, 0)) BK497.out hg (Kd.R_ne HO_498002.out BK497.out (by decide)))
        have n2_ := A_ (IsS67.grown HI0.out hg (IsS67.own_ne HI0.out HO_498002.out (by decide)))
        have n3_ := A_ (Kd.S_after (ok := (fun _ => True)) (by exact Kd.S_mono HO512.out (fun _ hk => ⟨trivial, hk⟩)) hg hat)
        have n4_ := A_ (below_weaken HB.out HL.out hb)
        have n5_ := A_ (KeepBut.trans HK.out (KeepBut.of_grown hg g) (Kd.R_base2 HO_498002.out))
        have n6_ := A_ (ho)
        clear BK496
        clear BK497
        clear HI0
        clear HO512
        clear HB
        clear HK
        clear HO_498002
        have BK496 := n0_
        have BK497 := n1_
        have HI0 := n2_
        have HO512 := n3_
        have HB := n4_
        have HK := n5_
        have HO521 := n6_
        clear n0_ n1_ n2_ n3_ n4_ n5_ n6_
        clear ho hb hg hat
        obtain ⟨Ao33, co33, eo33⟩ := Kd.R_slice HO521.out
        (first | subst eo33 | (injection eo33 with f1_ f2_ f3_; have f4_ := f1_.symm; have f5_ := f3_.symm; clear f1_ f2_ f3_; subst f4_; subst f5_))
        refine hK.out _ _ ⟨(blk_cell BK497.out 0).trans rfl, (blk_cell BK497.out 1).trans rfl, (blk_cell BK497.out 2).trans rfl⟩ (fun hHeld => ?_)
        clear hK K
        refine norm_ (a' := ?_) ?_ ?_
        rotate_left
        ·show Act.put _ (some 44) _ = _
         simp only [Act.put, mD, mE, mF, i64_w, i32_w]
         rfl
        refine pure_ (i := 9) (N := some 45) (v := ?_) (a' := ?_) #[true, true, true, true, true, true, true, true, true, true, false] rfl rfl (any_of HT_.out (by kernel_rfl)) (fun _ _ _ h => h) (Or.inl ⟨by rfl, ?_⟩) ?_ ?_
        rotate_left
        ·intro w'
         go_simp
         with_reducible rfl
        rotate_left
        ·simp only [Act.put, mD, mE, mF, i64_w, i32_w]
         rfl
        refine last_ (i := 10) (N := none) #[true, true, true, true, true, true, true, true, true, true, true] rfl rfl (one_of HT_.out (by kernel_rfl)) (by decide) (fun K hK => ?_)
        have hs34 : w32.cell? ⟨gb497, 2, none⟩ = some (u498002) := (blk_cell BK497.out 2).trans rfl
        have hfs34 := blk_frozen BK497.out 2
        have hns34_0 := NB496_497.out
        have hms34_0 := NB497_496.out
        refine skip_ (w1 := ?_) (by rfl) rfl ?_ ?_
        rotate_left
        ·go_simp
         rfl
        refine hK.out _ _ ?_
        clear hK K
        refine done_ (done_of HT_.out (by kernel_rfl)) ?_
        try go_wp2
        go_roundg k2
        case measure => have := HK1.out; have := HK2.out; omega
        case rel => exact ⟨(wrap64 (x8_1 + 1)), (t517), (t518), (y510), (y519), (.slice Ao26 y510.length co26), (.slice Ao33 y519.length co33), (by rfl), H', ⟨by have := HK1.out; have := HK2.out; omega⟩, ⟨by exact Kd.S_mono (Kd.S_far (p := ⟨gb497, 2, none⟩) (Kd.S_types HO512.out BK497.out (by decide)) (fun _ hk => hk.2) (.slice Ao33 y519.length co33)) (fun _ hk => hk.1.2)⟩, ⟨by exact Kd.R_mono (Kd.R_far (p := ⟨gb497, 2, none⟩) (Kd.R_types HO521.out BK497.out (by decide)) (fun _ hk => hk.2) (.slice Ao33 y519.length co33)) (fun _ hk => trivial)⟩, ⟨by refine blk_far ?_ NB496_497.out _; exact BK496.out⟩, ⟨by refine blk_put (cs := #[.int .i64 a1, .slice Ao26 y510.length co26, u498002]) ?_ 2 _ rfl; exact BK497.out⟩, ⟨by repeat (first | (with_reducible first | exact HI0.out | apply IsS67.alloc | apply IsS67.drewN | apply IsS67.drew | apply IsS67.set_1 | apply IsS67.set_2 | refine IsS67.far ?_ NB0_496.out _ | refine IsS67.far ?_ NB0_497.out _) | exact HI0.out)⟩, ⟨by repeat (first | (with_reducible first | exact HK.out | apply KeepBut.set_ | apply keep_drewN | apply keep_drew | apply keep_alloc | refine keep_far ?_ GW496.out _ | refine keep_far ?_ GW497.out _) | exact HK.out)⟩, ⟨by repeat (first | (with_reducible first | exact HB.out | apply below_alloc | apply pw_below_drewN | apply below_drew1 | refine below_set ?_ (IsS67.ge HI0.out) | refine below_set ?_ GE496.out | refine below_set ?_ GE497.out) | exact HB.out)⟩⟩
       rw [if_neg c20] at H
       exact absurd H (by simp)
      rw [if_neg c17] at H
      exact absurd H (by simp)
   rw [if_neg c9] at H
   have c9b0 : decide (x8_1 < a2) = false := decide_eq_false c9
   clear c9
   replace H := Option.bind_eq_some_iff.mp H
   obtain ⟨⟨t498, t499, t500⟩, A350, H⟩ := H
   dsimp only at H
   have A35 := A_ A350
   clear A350
   by_cases c36 : t498 = true
   ·subst c36
    rw [if_pos rfl] at H
    by_cases c60 : 0 < x498001_1.length
    case neg => rw [if_neg c60] at H; exact absurd H (by simp)
    rw [if_pos c60] at H
    by_cases c61 : 0 < (x498001_1.getD 0 []).length
    case neg => rw [if_neg c61] at H; exact absurd H (by simp)
    rw [if_pos c61] at H
    simp only [Option.some.injEq, Prod.mk.injEq] at H
    obtain ⟨rfl, rfl, rfl, rfl, rfl⟩ := H
    go_wp2_with (first | ((with_reducible refine gate_callee (f := 77) rfl ?_); refine goesL_ (some 47) rfl rfl Try.func77 (by kernel_rfl) rfl #[.pointer (some ⟨g, 0, none⟩), .int .i64 2] rfl (by (try simp only [mA, mB, mC]); first | done | rfl | (simp only [List.length_drop, List.length_take]; rfl)) ?_; (with_reducible refine (spec_l1Once.calls g s0_0 x1001_1 x1002_1 2 true t499 t500 w0 _ ?side1 ?side2 A35.out).mono ?_); (case side1 => exact HI0.out); (case side2 => exact HB.out); rintro e w37 ⟨rfl, hi, hb, hk⟩; refine ⟨_, rfl, ?_⟩; have n0_ := A_ (Kd.S_mono (Kd.S_keep (IsS67.apartS HI0.out HO_498001.out (by decide)) hk (fun _ h => h.2)) (fun _ h => h.1)); have n1_ := A_ (Kd.R_mono (Kd.R_keep (IsS67.apart HI0.out HO_498002.out (by decide)) hk (fun _ h => h.2)) (fun _ h => h.1)); have n2_ := A_ (KeepBut.blk hk BK496.out NB496_0.out (by simp)); have n3_ := A_ (KeepBut.blk hk BK497.out NB497_0.out (by simp)); have n4_ := A_ (KeepBut.trans HK.out hk (.inl rfl)); have n5_ := A_ (hb); have n6_ := A_ (hi); clear HO_498001 HO_498002 BK496 BK497 HK HB HI0; revert n0_ n1_ n2_ n3_ n4_ n5_ n6_; intro HO_498001 HO_498002 BK496 BK497 HK HB HI0; clear hb hk hi; have hnb38 := NB497_496.out; have hnc38 := NB496_497.out; have hnb39 := NB497_0.out; have hnc39 := NB0_497.out; have hcz40_0 : w37.cell? ⟨gb497, 0, none⟩ = some (.int .i64 a1) := (blk_cell BK497.out 0).trans rfl; have hcz40_1 : w37.cell? ⟨gb497, 1, none⟩ = some (u498001) := (blk_cell BK497.out 1).trans rfl; have hcz40_2 : w37.cell? ⟨gb497, 2, none⟩ = some (u498002) := (blk_cell BK497.out 2).trans rfl; have hfz40_0 := blk_frozen BK497.out 0; have hfz40_1 := blk_frozen BK497.out 1; have hfz40_2 := blk_frozen BK497.out 2; have hnb41 := NB496_0.out; have hnc41 := NB0_496.out; have hcz42_0 : w37.cell? ⟨gb496, 0, none⟩ = some (.int .i64 0) := (blk_cell BK496.out 0).trans rfl; have hcz42_1 : w37.cell? ⟨gb496, 1, none⟩ = some (.slice none 0 0) := (blk_cell BK496.out 1).trans rfl; have hcz42_2 : w37.cell? ⟨gb496, 2, none⟩ = some (.slice none 0 0) := (blk_cell BK496.out 2).trans rfl; have hfz42_0 := blk_frozen BK496.out 0; have hfz42_1 := blk_frozen BK496.out 1; have hfz42_2 := blk_frozen BK496.out 2; obtain ⟨Ao43, co43, eo43⟩ := Kd.S_slice HO_498001.out; subst eo43; obtain ⟨Ao44, co44, eo44⟩ := Kd.R_slice HO_498002.out; subst eo44; obtain ⟨gr, g0, mz, cz, eA, hmz, hcr, ⟨uz, hce⟩, hfe, hfr, hok0, hge0, hS, hgrown⟩ := l3_row (Kd.S_types (Kd.S_types (IsS67.apartS HI0.out HO_498001.out (by decide)) BK497.out (by decide)) BK496.out (by decide)) c60 c61 0; subst eA; have HCE := A_ hce; have HFE := A_ hfe; clear hce hfe) | ((with_reducible refine gate_store (t := 3) (p := 52) rfl ?_); refine store_event ?hg ?ho ?hN (t := 3) (p := 52) (v := ?vo) (w1 := ?w1) ?hr ?_; (case ho => rfl); (case hg => rfl); (case hN => rfl); (case hr => (have hce9 := HCE.out; have hfe9 := HFE.out; (go_simp; rfl))); intro w99 hw99; clear hnb38 hnc38 hnb39 hnc39 hcz40_0 hcz40_1 hcz40_2 hfz40_0 hfz40_1 hfz40_2 hnb41 hnc41 hcz42_0 hcz42_1 hcz42_2 hfz42_0 hfz42_1 hfz42_2; have n0_ := A_ (show Kd.S (Kd.slice 3 (Kd.int .i64)) 24 w99 w.heap.size (fun k_ => some k_ ≠ (Value.slice Ao44 x498002_1.length co44).ownBlock) (.slice (some ⟨gr, 0, none⟩) x498001_1.length co43) (x498001_1.set 0 ((x498001_1.getD 0 []).set 0 0)) from by rw [hw99]; exact Kd.S_mono hS (fun _ h => h.1.1.1)); have n1_ := A_ (show Kd.R (Kd.int .i64) 3 w99 w.heap.size (fun _ => True) (.slice Ao44 x498002_1.length co44) x498002_1 from by rw [hw99]; exact Kd.R_mono (Kd.R_grown (Kd.R_tight rfl HO_498002.out) hgrown (fun k hk he => hok0.1.1.1 (he.symm.trans hk))) (fun _ _ => trivial)); have n2_ := A_ (show w99.heap[gb496]? = some (.cells #[.int .i64 0, (.slice none 0 0), (.slice none 0 0)] 72 (0, 0)) from by rw [hw99]; exact blk_far BK496.out (Ne.symm hok0.2) _); have n3_ := A_ (show w99.heap[gb497]? = some (.cells #[.int .i64 a1, (.slice (some ⟨gr, 0, none⟩) x498001_1.length co43), (.slice Ao44 x498002_1.length co44)] 72 (0, 0)) from by rw [hw99]; exact blk_far BK497.out (Ne.symm hok0.1.2) _); have n4_ := A_ (show IsS67 w0 w99 g s0_0 t499 t500 from by rw [hw99]; exact IsS67.far HI0.out (Ne.symm hok0.1.1.2) _); have n5_ := A_ (show KeepBut w w99 g none from by rw [hw99]; exact keep_far HK.out hge0 _); have n6_ := A_ (show Below w0.heap.size w0 w99 from by rw [hw99]; exact below_set HB.out (Nat.le_trans HW0.out hge0)); clear HO_498001 HO_498002 BK496 BK497 HI0 HK HB; revert n0_ n1_ n2_ n3_ n4_ n5_ n6_; intro HO_498001 HO_498002 BK496 BK497 HI0 HK HB; clear hw99 hcr hfr HCE HFE hS hgrown; have hnb38 := NB497_496.out; have hnc38 := NB496_497.out; have hnb39 := NB497_0.out; have hnc39 := NB0_497.out; have hcz40_0 : w99.cell? ⟨gb497, 0, none⟩ = some (.int .i64 a1) := (blk_cell BK497.out 0).trans rfl; have hcz40_1 : w99.cell? ⟨gb497, 1, none⟩ = some (.slice (some ⟨gr, 0, none⟩) x498001_1.length co43) := (blk_cell BK497.out 1).trans rfl; have hcz40_2 : w99.cell? ⟨gb497, 2, none⟩ = some (.slice Ao44 x498002_1.length co44) := (blk_cell BK497.out 2).trans rfl; have hfz40_0 := blk_frozen BK497.out 0; have hfz40_1 := blk_frozen BK497.out 1; have hfz40_2 := blk_frozen BK497.out 2; have hnb41 := NB496_0.out; have hnc41 := NB0_496.out; have hcz42_0 : w99.cell? ⟨gb496, 0, none⟩ = some (.int .i64 0) := (blk_cell BK496.out 0).trans rfl; have hcz42_1 : w99.cell? ⟨gb496, 1, none⟩ = some (.slice none 0 0) := (blk_cell BK496.out 1).trans rfl; have hcz42_2 : w99.cell? ⟨gb496, 2, none⟩ = some (.slice none 0 0) := (blk_cell BK496.out 2).trans rfl; have hfz42_0 := blk_frozen BK496.out 0; have hfz42_1 := blk_frozen BK496.out 1; have hfz42_2 := blk_frozen BK496.out 2))
    refine bodyPost_ret (results_cell_row rfl _ _ gb496 72 #[.int .i64 a1, .slice (some ⟨gr, 0, none⟩) x498001_1.length co43, .slice Ao44 x498002_1.length co44] (0, 0) _ rfl (by refine blk_put (cs := #[.int .i64 a1, .slice (some ⟨gr, 0, none⟩) x498001_1.length co43, .slice none 0 0]) ?_ 2 _ rfl; refine blk_put (cs := #[.int .i64 a1, .slice none 0 0, .slice none 0 0]) ?_ 1 _ rfl; refine blk_put (cs := #[.int .i64 0, .slice none 0 0, .slice none 0 0]) ?_ 0 _ rfl; exact BK496.out) Try.underlying72 rfl (by kernel_rfl)) rfl ?_
    exact ⟨_, _, by rfl, by exact Kd.S_mono (Kd.S_far (p := ⟨gb496, 2, none⟩) (Kd.S_far (p := ⟨gb496, 1, none⟩) (Kd.S_far (p := ⟨gb496, 0, none⟩) (Kd.S_types HO_498001.out BK496.out (by decide)) (fun _ hk => hk.2) (.int .i64 a1)) (fun _ hk => hk.2) (.slice (some ⟨gr, 0, none⟩) x498001_1.length co43)) (fun _ hk => hk.2) (.slice Ao44 x498002_1.length co44)) (fun _ hk => hk.1), by exact Kd.R_mono (Kd.R_far (p := ⟨gb496, 2, none⟩) (Kd.R_far (p := ⟨gb496, 1, none⟩) (Kd.R_far (p := ⟨gb496, 0, none⟩) (Kd.R_types HO_498002.out BK496.out (by decide)) (fun _ hk => hk.2) (.int .i64 a1)) (fun _ hk => hk.2) (.slice (some ⟨gr, 0, none⟩) x498001_1.length co43)) (fun _ hk => hk.2) (.slice Ao44 x498002_1.length co44)) (fun _ hk => trivial), by repeat (first | (with_reducible first | exact HI0.out | apply IsS67.alloc | apply IsS67.drewN | apply IsS67.drew | apply IsS67.set_1 | apply IsS67.set_2 | refine IsS67.far ?_ NB0_496.out _ | refine IsS67.far ?_ NB0_497.out _) | exact HI0.out), by repeat (first | (with_reducible first | exact HB.out | apply below_alloc | apply pw_below_drewN | apply below_drew1 | refine below_set ?_ (IsS67.ge HI0.out) | refine below_set ?_ GE496.out | refine below_set ?_ GE497.out) | exact HB.out), by repeat (first | (with_reducible first | exact HK.out | apply KeepBut.set_ | apply keep_drewN | apply keep_drew | apply keep_alloc | refine keep_far ?_ GW496.out _ | refine keep_far ?_ GW497.out _) | exact HK.out)⟩
   replace c36 := Bool.eq_false_iff.mpr c36
   subst c36
   rw [if_neg (show ¬ (false = true) by decide)] at H
   simp only [Option.some.injEq, Prod.mk.injEq] at H
   obtain ⟨rfl, rfl, rfl, rfl, rfl⟩ := H
   go_wp2_with (first | ((with_reducible refine gate_callee (f := 77) rfl ?_); refine goesL_ (some 47) rfl rfl Try.func77 (by kernel_rfl) rfl #[.pointer (some ⟨g, 0, none⟩), .int .i64 2] rfl (by (try simp only [mA, mB, mC]); first | done | rfl | (simp only [List.length_drop, List.length_take]; rfl)) ?_; (with_reducible refine (spec_l1Once.calls g s0_0 x1001_1 x1002_1 2 false t499 t500 w0 _ ?side1 ?side2 A35.out).mono ?_); (case side1 => exact HI0.out); (case side2 => exact HB.out); rintro e w45 ⟨rfl, hi, hb, hk⟩; refine ⟨_, rfl, ?_⟩; have n0_ := A_ (Kd.S_mono (Kd.S_keep (IsS67.apartS HI0.out HO_498001.out (by decide)) hk (fun _ h => h.2)) (fun _ h => h.1)); have n1_ := A_ (Kd.R_mono (Kd.R_keep (IsS67.apart HI0.out HO_498002.out (by decide)) hk (fun _ h => h.2)) (fun _ h => h.1)); have n2_ := A_ (KeepBut.blk hk BK496.out NB496_0.out (by simp)); have n3_ := A_ (KeepBut.blk hk BK497.out NB497_0.out (by simp)); have n4_ := A_ (KeepBut.trans HK.out hk (.inl rfl)); have n5_ := A_ (hb); have n6_ := A_ (hi); clear HO_498001 HO_498002 BK496 BK497 HK HB HI0; revert n0_ n1_ n2_ n3_ n4_ n5_ n6_; intro HO_498001 HO_498002 BK496 BK497 HK HB HI0; clear hb hk hi; have hnb46 := NB497_496.out; have hnc46 := NB496_497.out; have hnb47 := NB497_0.out; have hnc47 := NB0_497.out; have hcz48_0 : w45.cell? ⟨gb497, 0, none⟩ = some (.int .i64 a1) := (blk_cell BK497.out 0).trans rfl; have hcz48_1 : w45.cell? ⟨gb497, 1, none⟩ = some (u498001) := (blk_cell BK497.out 1).trans rfl; have hcz48_2 : w45.cell? ⟨gb497, 2, none⟩ = some (u498002) := (blk_cell BK497.out 2).trans rfl; have hfz48_0 := blk_frozen BK497.out 0; have hfz48_1 := blk_frozen BK497.out 1; have hfz48_2 := blk_frozen BK497.out 2; have hnb49 := NB496_0.out; have hnc49 := NB0_496.out; have hcz50_0 : w45.cell? ⟨gb496, 0, none⟩ = some (.int .i64 0) := (blk_cell BK496.out 0).trans rfl; have hcz50_1 : w45.cell? ⟨gb496, 1, none⟩ = some (.slice none 0 0) := (blk_cell BK496.out 1).trans rfl; have hcz50_2 : w45.cell? ⟨gb496, 2, none⟩ = some (.slice none 0 0) := (blk_cell BK496.out 2).trans rfl; have hfz50_0 := blk_frozen BK496.out 0; have hfz50_1 := blk_frozen BK496.out 1; have hfz50_2 := blk_frozen BK496.out 2; obtain ⟨Ao51, co51, eo51⟩ := Kd.S_slice HO_498001.out; subst eo51; obtain ⟨Ao52, co52, eo52⟩ := Kd.R_slice HO_498002.out; subst eo52))
   refine bodyPost_ret (results_cell_row rfl _ _ gb496 72 #[.int .i64 a1, .slice Ao51 x498001_1.length co51, .slice Ao52 x498002_1.length co52] (0, 0) _ rfl (by refine blk_put (cs := #[.int .i64 a1, .slice Ao51 x498001_1.length co51, .slice none 0 0]) ?_ 2 _ rfl; refine blk_put (cs := #[.int .i64 a1, .slice none 0 0, .slice none 0 0]) ?_ 1 _ rfl; refine blk_put (cs := #[.int .i64 0, .slice none 0 0, .slice none 0 0]) ?_ 0 _ rfl; exact BK496.out) Try.underlying72 rfl (by kernel_rfl)) rfl ?_
   exact ⟨_, _, by rfl, by exact Kd.S_mono (Kd.S_far (p := ⟨gb496, 2, none⟩) (Kd.S_far (p := ⟨gb496, 1, none⟩) (Kd.S_far (p := ⟨gb496, 0, none⟩) (Kd.S_types HO_498001.out BK496.out (by decide)) (fun _ hk => hk.2) (.int .i64 a1)) (fun _ hk => hk.2) (.slice Ao51 x498001_1.length co51)) (fun _ hk => hk.2) (.slice Ao52 x498002_1.length co52)) (fun _ hk => hk.1), by exact Kd.R_mono (Kd.R_far (p := ⟨gb496, 2, none⟩) (Kd.R_far (p := ⟨gb496, 1, none⟩) (Kd.R_far (p := ⟨gb496, 0, none⟩) (Kd.R_types HO_498002.out BK496.out (by decide)) (fun _ hk => hk.2) (.int .i64 a1)) (fun _ hk => hk.2) (.slice Ao51 x498001_1.length co51)) (fun _ hk => hk.2) (.slice Ao52 x498002_1.length co52)) (fun _ hk => trivial), by repeat (first | (with_reducible first | exact HI0.out | apply IsS67.alloc | apply IsS67.drewN | apply IsS67.drew | apply IsS67.set_1 | apply IsS67.set_2 | refine IsS67.far ?_ NB0_496.out _ | refine IsS67.far ?_ NB0_497.out _) | exact HI0.out), by repeat (first | (with_reducible first | exact HB.out | apply below_alloc | apply pw_below_drewN | apply below_drew1 | refine below_set ?_ (IsS67.ge HI0.out) | refine below_set ?_ GE496.out | refine below_set ?_ GE497.out) | exact HB.out), by repeat (first | (with_reducible first | exact HK.out | apply KeepBut.set_ | apply keep_drewN | apply keep_drew | apply keep_alloc | refine keep_far ?_ GW496.out _ | refine keep_far ?_ GW497.out _) | exact HK.out)⟩

/-! ### spec_l3Draw: function 90 -/
def spec_l3Draw.f (k : Nat) (s0_0 : List Int) (s0_1 : Int) (s0_2 : Int) : Option (Int × (List (List Int)) × List Int × Int × Int) := (spec_l1Once.f s0_0 s0_1 s0_2 3).bind fun bt523 => (if bt523.1 = true then ((spec_l1Pick.f s0_0 bt523.2.1 bt523.2.2 (([(⟨#[116, 104, 117, 101]⟩ : ByteArray), (⟨#[114, 117, 100, 105, 110]⟩ : ByteArray), (⟨#[112, 101, 114, 105, 111, 100]⟩ : ByteArray), (⟨#[112, 111, 119, 101, 114, 115]⟩ : ByteArray), (⟨#[99, 97, 110, 116, 111, 114]⟩ : ByteArray), (⟨#[109, 111, 100]⟩ : ByteArray)] : List ByteArray))).bind fun bt529 => ((spec_NamedSequence.f bt529.1).bind fun bt532 => (some (bt532.1, bt532.2.1, bt532.2.2.1, bt529.2.1, bt529.2.2)))) else ((spec_l1Below.f s0_0 bt523.2.1 bt523.2.2 2).bind fun bt541 => ((spec_l1Below.f s0_0 bt541.2.1 bt541.2.2 5).bind fun bt544 => ((spec_l3Random.f k s0_0 bt544.2.1 bt544.2.2 (wrap64 (2 + bt541.1)) (wrap64 (1 + bt544.1))).bind fun bt547 => (some (bt547.1, bt547.2.1, bt547.2.2.1, bt547.2.2.2.1, bt547.2.2.2.2))))))
theorem spec_l3Draw.mono : ∀ a0 a1 a2 k, LeO (spec_l3Draw.f k a0 a1 a2) (spec_l3Draw.f (k + 1) a0 a1 a2) := by
 intro a0 a1 a2 k
 unfold spec_l3Draw.f
 with_reducible repeat' first | exact spec_l3Random.mono _ _ _ _ _ _ | exact LeO.refl _ | exact LeO.none _ | refine LeO.ite ?_ ?_ | refine LeO.bind ?_ (fun _ => ?_)
theorem spec_l3Draw.calls (k : Nat) (g : Nat) (s0_0 : List Int) (s0_1 : Int) (s0_2 : Int) (r1 : Int) (r2 : List (List Int)) (r3 : List Int) (r4 : Int) (r5 : Int) (w0 w : World) (hI : IsS67 w0 w g s0_0 s0_1 s0_2) (hB : Below w0.heap.size w0 w) (h : spec_l3Draw.f k s0_0 s0_1 s0_2 = some (r1, r2, r3, r4, r5)) :
  Calls Try.prog 90 #[.pointer (some ⟨g, 0, none⟩)] w fun e w' => ∃ v1_ v2_ : Value, e = .returned (.agg #[.int .i64 r1, v1_, v2_]) ∧ Kd.N (Kd.slice 3 (Kd.int .i64)) 24 w' w.heap.size (fun k_ => (w.heap.size ≤ k_) ∧ some k_ ≠ (v2_ : Value).ownBlock) v1_ r2 ∧ Kd.R (Kd.int .i64) 3 w' w.heap.size (fun k_ => (w.heap.size ≤ k_)) v2_ r3 ∧ IsS67 w0 w' g s0_0 r4 r5 ∧ Below w0.heap.size w0 w' ∧ KeepBut w w' g none := by
 have hu72 := Try.underlying72
 have HI0 := A_ hI
 have HK := A_ (KeepBut.refl w g none)
 have HL := A_ hB.size
 clear hI
 have HW0 := A_ hB.size
 have HB := A_ hB
 clear hB
 unfold spec_l3Draw.f at h
 have H := h
 clear h
 replace H := Option.bind_eq_some_iff.mp H
 obtain ⟨⟨t523, t524, t525⟩, A20, H⟩ := H
 dsimp only at H
 have A2 := A_ A20
 clear A20
 by_cases c3 : t523 = true
 ·subst c3
  rw [if_pos rfl] at H
  obtain ⟨y526, hy526⟩ : ∃ y_ : List ByteArray, y_ = (([(⟨#[116, 104, 117, 101]⟩ : ByteArray), (⟨#[114, 117, 100, 105, 110]⟩ : ByteArray), (⟨#[112, 101, 114, 105, 111, 100]⟩ : ByteArray), (⟨#[112, 111, 119, 101, 114, 115]⟩ : ByteArray), (⟨#[99, 97, 110, 116, 111, 114]⟩ : ByteArray), (⟨#[109, 111, 100]⟩ : ByteArray)] : List ByteArray)) := ⟨_, rfl⟩
  replace H : ((spec_l1Pick.f s0_0 t524 t525 y526).bind fun bt529 => ((spec_NamedSequence.f bt529.1).bind fun bt532 => (some (bt532.1, bt532.2.1, bt532.2.2.1, bt529.2.1, bt529.2.2)))) = some (r1, r2, r3, r4, r5) := by (rw [hy526]; with_reducible exact H)
  have Ny526 := A_ hy526
  clear hy526
  replace H := Option.bind_eq_some_iff.mp H
  obtain ⟨⟨t529, t530, t531⟩, A40, H⟩ := H
  dsimp only at H
  have A4 := A_ A40
  clear A40
  replace H := Option.bind_eq_some_iff.mp H
  obtain ⟨⟨t532, t533, t536, t539⟩, A50, H⟩ := H
  dsimp only at H
  have A5 := A_ A50
  clear A50
  simp only [Option.some.injEq, Prod.mk.injEq] at H
  obtain ⟨rfl, rfl, rfl, rfl, rfl⟩ := H
  go_enter Try.func90, Try.ntmps90
  go_wp2_with (first | ((with_reducible refine gate_dst (N := 2) rfl ?_); refine box_event ?hg (N := 2) ?hd (cs := #[.int .i64 0, .slice none 0 0, .slice none 0 0]) (t := 72) ?hr ?_; (case hd | hg => rfl); (case hr => go_simp; done); intro gb522 hg w6 hbox hb; have n0_ := A_ (IsS67.below HI0.out hb); have n1_ := A_ (KeepBut.trans HK.out (KeepBut.of_below hb g none) (.inl rfl)); have n2_ := A_ (below_step HB.out hb); have n3_ := A_ (hbox); have n4_ := A_ ((by rw [hg]; exact (keep_size HK.out) : w.heap.size ≤ gb522)); have n5_ := A_ ((Nat.le_trans HW0.out (by rw [hg]; exact (keep_size HK.out) : w.heap.size ≤ gb522) : w0.heap.size ≤ gb522)); have n6_ := A_ ((by rw [hg]; exact Nat.ne_of_lt (IsS67.lt HI0.out) : g ≠ gb522)); have n7_ := A_ ((by rw [hg]; exact Nat.ne_of_gt (IsS67.lt HI0.out) : gb522 ≠ g)); clear HI0 HK HB; revert n0_ n1_ n2_ n3_ n4_ n5_ n6_ n7_; intro HI0 HK HB BK522 GW522 GE522 NB0_522 NB522_0; clear hb hbox hg) | ((with_reducible refine gate_callee (f := 77) rfl ?_); refine goesL_ (some 7) rfl rfl Try.func77 (by kernel_rfl) rfl #[.pointer (some ⟨g, 0, none⟩), .int .i64 3] rfl (by (try simp only [mA, mB, mC]); first | done | rfl | (simp only [List.length_drop, List.length_take]; rfl)) ?_; (with_reducible refine (spec_l1Once.calls g s0_0 s0_1 s0_2 3 true t524 t525 w0 _ ?side1 ?side2 A2.out).mono ?_); (case side1 => exact HI0.out); (case side2 => exact HB.out); rintro e w7 ⟨rfl, hi, hb, hk⟩; refine ⟨_, rfl, ?_⟩; have n0_ := A_ (KeepBut.blk hk BK522.out NB522_0.out (by simp)); have n1_ := A_ (KeepBut.trans HK.out hk (.inl rfl)); have n2_ := A_ (hb); have n3_ := A_ (hi); clear BK522 HK HB HI0; revert n0_ n1_ n2_ n3_; intro BK522 HK HB HI0; clear hb hk; (try clear hi)) | ((with_reducible refine gate_dst (N := 10) rfl ?_); refine Kd.R_lit Kd.string _ 9 ?hg (N := 10) ?hd (xs := ([(⟨#[116, 104, 117, 101]⟩ : ByteArray), (⟨#[114, 117, 100, 105, 110]⟩ : ByteArray), (⟨#[112, 101, 114, 105, 111, 100]⟩ : ByteArray), (⟨#[112, 111, 119, 101, 114, 115]⟩ : ByteArray), (⟨#[99, 97, 110, 116, 111, 114]⟩ : ByteArray), (⟨#[109, 111, 100]⟩ : ByteArray)] : List ByteArray)) (inner := [.string (⟨#[116, 104, 117, 101]⟩ : ByteArray), .string (⟨#[114, 117, 100, 105, 110]⟩ : ByteArray), .string (⟨#[112, 101, 114, 105, 111, 100]⟩ : ByteArray), .string (⟨#[112, 111, 119, 101, 114, 115]⟩ : ByteArray), .string (⟨#[99, 97, 110, 116, 111, 114]⟩ : ByteArray), .string (⟨#[109, 111, 100]⟩ : ByteArray)]) (ok := fun _ => True) (okp := fun _ => True) ?hr ?hp (fun _ hk => hk) trivial (Below.refl _ _) (Nat.le_refl _) (by simp) ?_; (case hd | hg => rfl); (case hr => go_simp; done); (case hp => exact (Reps.one (show Kd.M Kd.string _ _ _ (⟨#[116, 104, 117, 101]⟩ : ByteArray) [.string (⟨#[116, 104, 117, 101]⟩ : ByteArray)] from rfl) (Reps.one (show Kd.M Kd.string _ _ _ (⟨#[114, 117, 100, 105, 110]⟩ : ByteArray) [.string (⟨#[114, 117, 100, 105, 110]⟩ : ByteArray)] from rfl) (Reps.one (show Kd.M Kd.string _ _ _ (⟨#[112, 101, 114, 105, 111, 100]⟩ : ByteArray) [.string (⟨#[112, 101, 114, 105, 111, 100]⟩ : ByteArray)] from rfl) (Reps.one (show Kd.M Kd.string _ _ _ (⟨#[112, 111, 119, 101, 114, 115]⟩ : ByteArray) [.string (⟨#[112, 111, 119, 101, 114, 115]⟩ : ByteArray)] from rfl) (Reps.one (show Kd.M Kd.string _ _ _ (⟨#[99, 97, 110, 116, 111, 114]⟩ : ByteArray) [.string (⟨#[99, 97, 110, 116, 111, 114]⟩ : ByteArray)] from rfl) (Reps.one (show Kd.M Kd.string _ _ _ (⟨#[109, 111, 100]⟩ : ByteArray) [.string (⟨#[109, 111, 100]⟩ : ByteArray)] from rfl) (Reps.none _ _)))))))); intro v527 w8 ho9 hb hg_ hnew_; clear hg_ hnew_; (first | rw [← Ny526.out] at ho9 | (simp only [Int.reduceToNat] at ho9; rw [← Ny526.out] at ho9)); have n0_ := A_ (Kd.R_lower (Kd.R_newM (M := fun k_ => (w.heap.size ≤ k_)) ho9 (keep_size HK.out) (fun k_ h_ => h_)) (keep_size HK.out)); have n1_ := A_ (IsS67.below HI0.out hb); have n2_ := A_ (blk_below BK522.out hb); have n3_ := A_ (KeepBut.trans HK.out (KeepBut.of_below hb g none) (.inl rfl)); have n4_ := A_ (below_step HB.out hb); clear HI0 BK522 HK HB; revert n0_ n1_ n2_ n3_ n4_; intro HO528 HI0 BK522 HK HB; clear hb ho9; obtain ⟨Ao10, co10, eo10⟩ := Kd.R_slice HO528.out; subst eo10) | ((with_reducible refine gate_callee (f := 99) rfl ?_); refine goesL_ (some 11) rfl rfl Try.func99 (by kernel_rfl) rfl #[.pointer (some ⟨g, 0, none⟩), .slice Ao10 y526.length co10] rfl (by (try simp only [mA, mB, mC]); first | done | rfl | (simp only [List.length_drop, List.length_take]; rfl)) ?_; (with_reducible refine (spec_l1Pick.calls g s0_0 t524 t525 _ _ y526 t529 t530 t531 w0 _ ?side1 ?side2 ?side3 ?side4 ?side5 A4.out).mono ?_); (case side1 => exact HI0.out); (case side2 => exact HB.out); (case side3 => repeat (first | exact (Kd.R_reads' HO528.out).2.2 | (with_reducible refine Kd.C_alloc ?_ _) | (with_reducible refine Kd.C_drewN ?_ _) | (with_reducible refine Kd.C_drew ?_))); (case side4 => exact (Kd.R_reads' HO528.out).2.1); (case side5 => exact far_slice (IsS67.own_ne HI0.out HO528.out (by decide))); rintro e w11 ⟨rfl, hi, hb, hk⟩; refine ⟨_, rfl, ?_⟩; have n0_ := A_ (KeepBut.blk hk BK522.out NB522_0.out (by simp)); have n1_ := A_ (Kd.R_mono (Kd.R_keep (IsS67.apart HI0.out HO528.out (by decide)) hk (fun _ h => h.2)) (fun _ h => h.1)); have n2_ := A_ (KeepBut.trans HK.out hk (.inl rfl)); have n3_ := A_ (hb); have n4_ := A_ (hi); clear BK522 HO528 HK HB HI0; revert n0_ n1_ n2_ n3_ n4_; intro BK522 HO528 HK HB HI0; clear hb hk; (try clear hi)) | ((with_reducible refine gate_callee (f := 98) rfl ?_); refine goesL_ (some 12) rfl rfl Try.func98 (by kernel_rfl) rfl #[.string t529] rfl (by (try simp only [mA, mB, mC]); first | done | rfl | (simp only [List.length_drop, List.length_take]; rfl)) ?_; (with_reducible refine (spec_NamedSequence.calls t529 t532 t533 t536 t539 _ A5.out).mono ?_); rintro e w12 ⟨v534, v537, rfl, ho0, ho1, hb⟩; refine ⟨_, rfl, ?_⟩; have n0_ := A_ (Kd.R_below HO528.out hb); have n1_ := A_ (Kd.N_lower (Kd.N_mono (ok' := fun k_ => (w.heap.size ≤ k_) ∧ some k_ ≠ (v537 : Value).ownBlock ∧ some k_ ≠ (.slice Ao10 y526.length co10 : Value).ownBlock ∧ k_ ≠ gb522 ∧ k_ ≠ g) ho0 (fun k_ hk_ => ⟨(Nat.le_trans (keep_size HK.out) hk_.1), hk_.2, (Kd.fresh' (Kd.R_lt HO528.out) k_ hk_.1), (Kd.freshB BK522.out k_ hk_.1), (IsS67.fresh HI0.out k_ hk_.1)⟩)) (keep_size HK.out)); have n2_ := A_ (Kd.R_lower (Kd.R_newM (M := fun k_ => (w.heap.size ≤ k_)) (Kd.R_mono (ok' := fun k_ => True) ho1 (fun _ hk_ => trivial)) (keep_size HK.out) (fun k_ h_ => h_)) (keep_size HK.out)); have n3_ := A_ (IsS67.below HI0.out hb); have n4_ := A_ (blk_below BK522.out hb); have n5_ := A_ (KeepBut.trans HK.out (KeepBut.of_below hb g none) (.inl rfl)); have n6_ := A_ (below_step HB.out hb); clear HO528 HI0 BK522 HK HB; revert n0_ n1_ n2_ n3_ n4_ n5_ n6_; intro HO528 HO535 HO538 HI0 BK522 HK HB; clear hb ho0; (try clear ho1)) | ((with_reducible refine gate_dst (N := 3) rfl ?_); refine box_event ?hg (N := 3) ?hd (cs := #[.int .i64 0, .slice none 0 0, .slice none 0 0]) (t := 72) ?hr ?_; (case hd | hg => rfl); (case hr => go_simp; done); intro gb540 hg w13 hbox hb; have n0_ := A_ (Kd.R_below HO528.out hb); have n1_ := A_ (Kd.N_below (Kd.N_elderB HO535.out gb540 (Nat.le_of_eq hg.symm)) hb); have n2_ := A_ (Kd.R_below HO538.out hb); have n3_ := A_ (IsS67.below HI0.out hb); have n4_ := A_ (blk_below BK522.out hb); have n5_ := A_ (KeepBut.trans HK.out (KeepBut.of_below hb g none) (.inl rfl)); have n6_ := A_ (below_step HB.out hb); have n7_ := A_ (hbox); have n8_ := A_ ((by rw [hg]; exact (keep_size HK.out) : w.heap.size ≤ gb540)); have n9_ := A_ ((Nat.le_trans HW0.out (by rw [hg]; exact (keep_size HK.out) : w.heap.size ≤ gb540) : w0.heap.size ≤ gb540)); have n10_ := A_ ((by rw [hg]; exact Nat.ne_of_lt (blk_lt (g := gb522) (o := .cells #[.int .i64 0, .slice none 0 0, .slice none 0 0] 72 (0, 0)) BK522.out) : gb522 ≠ gb540)); have n11_ := A_ ((by rw [hg]; exact Nat.ne_of_gt (blk_lt (g := gb522) (o := .cells #[.int .i64 0, .slice none 0 0, .slice none 0 0] 72 (0, 0)) BK522.out) : gb540 ≠ gb522)); have n12_ := A_ ((by rw [hg]; exact Nat.ne_of_lt (IsS67.lt HI0.out) : g ≠ gb540)); have n13_ := A_ ((by rw [hg]; exact Nat.ne_of_gt (IsS67.lt HI0.out) : gb540 ≠ g)); clear HO528 HO535 HO538 HI0 BK522 HK HB; revert n0_ n1_ n2_ n3_ n4_ n5_ n6_ n7_ n8_ n9_ n10_ n11_ n12_ n13_; intro HO528 HO535 HO538 HI0 BK522 HK HB BK540 GW540 GE540 NB522_540 NB540_522 NB0_540 NB540_0; clear hb hbox hg; have hnb14 := NB540_522.out; have hnc14 := NB522_540.out; have hnb15 := NB540_0.out; have hnc15 := NB0_540.out; have hcz16_0 : w13.cell? ⟨gb540, 0, none⟩ = some (.int .i64 0) := (blk_cell BK540.out 0).trans rfl; have hcz16_1 : w13.cell? ⟨gb540, 1, none⟩ = some (.slice none 0 0) := (blk_cell BK540.out 1).trans rfl; have hcz16_2 : w13.cell? ⟨gb540, 2, none⟩ = some (.slice none 0 0) := (blk_cell BK540.out 2).trans rfl; have hfz16_0 := blk_frozen BK540.out 0; have hfz16_1 := blk_frozen BK540.out 1; have hfz16_2 := blk_frozen BK540.out 2; obtain ⟨Ao17, co17, eo17⟩ := Kd.N_slice HO535.out; subst eo17; obtain ⟨Ao18, co18, eo18⟩ := Kd.R_slice HO538.out; subst eo18; have hnb19 := NB522_0.out; have hnc19 := NB0_522.out; have hcz20_0 : w13.cell? ⟨gb522, 0, none⟩ = some (.int .i64 0) := (blk_cell BK522.out 0).trans rfl; have hcz20_1 : w13.cell? ⟨gb522, 1, none⟩ = some (.slice none 0 0) := (blk_cell BK522.out 1).trans rfl; have hcz20_2 : w13.cell? ⟨gb522, 2, none⟩ = some (.slice none 0 0) := (blk_cell BK522.out 2).trans rfl; have hfz20_0 := blk_frozen BK522.out 0; have hfz20_1 := blk_frozen BK522.out 1; have hfz20_2 := blk_frozen BK522.out 2))
  refine bodyPost_ret (results_cell_row rfl _ _ gb522 72 #[.int .i64 t532, .slice Ao17 t533.length co17, .slice Ao18 t536.length co18] (0, 0) _ rfl (by refine blk_put (cs := #[.int .i64 t532, .slice Ao17 t533.length co17, .slice none 0 0]) ?_ 2 _ rfl; refine blk_put (cs := #[.int .i64 t532, .slice none 0 0, .slice none 0 0]) ?_ 1 _ rfl; refine blk_put (cs := #[.int .i64 0, .slice none 0 0, .slice none 0 0]) ?_ 0 _ rfl; refine blk_far ?_ NB522_540.out _; refine blk_far ?_ NB522_540.out _; refine blk_far ?_ NB522_540.out _; exact BK522.out) Try.underlying72 rfl (by kernel_rfl)) rfl ?_
  exact ⟨_, _, by rfl, by exact Kd.N_mono (Kd.N_far (p := ⟨gb522, 2, none⟩) (Kd.N_far (p := ⟨gb522, 1, none⟩) (Kd.N_far (p := ⟨gb522, 0, none⟩) (Kd.N_far (p := ⟨gb540, 2, none⟩) (Kd.N_far (p := ⟨gb540, 1, none⟩) (Kd.N_far (p := ⟨gb540, 0, none⟩) (Kd.N_mono (Kd.N_mono HO535.out (fun k_ hk => (⟨hk, hk.2⟩ : _ ∧ k_ ≠ gb540))) (fun k_ hk => (⟨hk, hk.1.1.2.2.2.1⟩ : _ ∧ k_ ≠ gb522))) (fun _ hk => hk.1.2) (.int .i64 t532)) (fun _ hk => hk.1.2) (.slice Ao17 t533.length co17)) (fun _ hk => hk.1.2) (.slice Ao18 t536.length co18)) (fun _ hk => hk.2) (.int .i64 t532)) (fun _ hk => hk.2) (.slice Ao17 t533.length co17)) (fun _ hk => hk.2) (.slice Ao18 t536.length co18)) (fun _ hk => ⟨hk.1.1.1.1, hk.1.1.1.2.1⟩), by exact Kd.R_mono (Kd.R_far (p := ⟨gb522, 2, none⟩) (Kd.R_far (p := ⟨gb522, 1, none⟩) (Kd.R_far (p := ⟨gb522, 0, none⟩) (Kd.R_far (p := ⟨gb540, 2, none⟩) (Kd.R_far (p := ⟨gb540, 1, none⟩) (Kd.R_far (p := ⟨gb540, 0, none⟩) (Kd.R_types (Kd.R_types HO538.out BK540.out (by decide)) BK522.out (by decide)) (fun _ hk => hk.1.2) (.int .i64 t532)) (fun _ hk => hk.1.2) (.slice Ao17 t533.length co17)) (fun _ hk => hk.1.2) (.slice Ao18 t536.length co18)) (fun _ hk => hk.2) (.int .i64 t532)) (fun _ hk => hk.2) (.slice Ao17 t533.length co17)) (fun _ hk => hk.2) (.slice Ao18 t536.length co18)) (fun _ hk => hk.1.1.1), by repeat (first | (with_reducible first | exact HI0.out | apply IsS67.alloc | apply IsS67.drewN | apply IsS67.drew | apply IsS67.set_1 | apply IsS67.set_2 | refine IsS67.far ?_ NB0_522.out _ | refine IsS67.far ?_ NB0_540.out _) | exact HI0.out), by repeat (first | (with_reducible first | exact HB.out | apply below_alloc | apply pw_below_drewN | apply below_drew1 | refine below_set ?_ (IsS67.ge HI0.out) | refine below_set ?_ GE522.out | refine below_set ?_ GE540.out) | exact HB.out), by repeat (first | (with_reducible first | exact HK.out | apply KeepBut.set_ | apply keep_drewN | apply keep_drew | apply keep_alloc | refine keep_far ?_ GW522.out _ | refine keep_far ?_ GW540.out _) | exact HK.out)⟩
 replace c3 := Bool.eq_false_iff.mpr c3
 subst c3
 rw [if_neg (show ¬ (false = true) by decide)] at H
 replace H := Option.bind_eq_some_iff.mp H
 obtain ⟨⟨t541, t542, t543⟩, A210, H⟩ := H
 dsimp only at H
 have A21 := A_ A210
 clear A210
 replace H := Option.bind_eq_some_iff.mp H
 obtain ⟨⟨t544, t545, t546⟩, A220, H⟩ := H
 dsimp only at H
 have A22 := A_ A220
 clear A220
 replace H := Option.bind_eq_some_iff.mp H
 obtain ⟨⟨t547, t548, t551, t554, t555⟩, A230, H⟩ := H
 dsimp only at H
 have A23 := A_ A230
 clear A230
 simp only [Option.some.injEq, Prod.mk.injEq] at H
 obtain ⟨rfl, rfl, rfl, rfl, rfl⟩ := H
 go_enter Try.func90, Try.ntmps90
 go_wp2_with (first | ((with_reducible refine gate_dst (N := 2) rfl ?_); refine box_event ?hg (N := 2) ?hd (cs := #[.int .i64 0, .slice none 0 0, .slice none 0 0]) (t := 72) ?hr ?_; (case hd | hg => rfl); (case hr => go_simp; done); intro gb522 hg w24 hbox hb; have n0_ := A_ (IsS67.below HI0.out hb); have n1_ := A_ (KeepBut.trans HK.out (KeepBut.of_below hb g none) (.inl rfl)); have n2_ := A_ (below_step HB.out hb); have n3_ := A_ (hbox); have n4_ := A_ ((by rw [hg]; exact (keep_size HK.out) : w.heap.size ≤ gb522)); have n5_ := A_ ((Nat.le_trans HW0.out (by rw [hg]; exact (keep_size HK.out) : w.heap.size ≤ gb522) : w0.heap.size ≤ gb522)); have n6_ := A_ ((by rw [hg]; exact Nat.ne_of_lt (IsS67.lt HI0.out) : g ≠ gb522)); have n7_ := A_ ((by rw [hg]; exact Nat.ne_of_gt (IsS67.lt HI0.out) : gb522 ≠ g)); clear HI0 HK HB; revert n0_ n1_ n2_ n3_ n4_ n5_ n6_ n7_; intro HI0 HK HB BK522 GW522 GE522 NB0_522 NB522_0; clear hb hbox hg) | ((with_reducible refine gate_callee (f := 77) rfl ?_); refine goesL_ (some 7) rfl rfl Try.func77 (by kernel_rfl) rfl #[.pointer (some ⟨g, 0, none⟩), .int .i64 3] rfl (by (try simp only [mA, mB, mC]); first | done | rfl | (simp only [List.length_drop, List.length_take]; rfl)) ?_; (with_reducible refine (spec_l1Once.calls g s0_0 s0_1 s0_2 3 false t524 t525 w0 _ ?side1 ?side2 A2.out).mono ?_); (case side1 => exact HI0.out); (case side2 => exact HB.out); rintro e w25 ⟨rfl, hi, hb, hk⟩; refine ⟨_, rfl, ?_⟩; have n0_ := A_ (KeepBut.blk hk BK522.out NB522_0.out (by simp)); have n1_ := A_ (KeepBut.trans HK.out hk (.inl rfl)); have n2_ := A_ (hb); have n3_ := A_ (hi); clear BK522 HK HB HI0; revert n0_ n1_ n2_ n3_; intro BK522 HK HB HI0; clear hb hk; (try clear hi)) | ((with_reducible refine gate_callee (f := 74) rfl ?_); refine goesL_ (some 17) rfl rfl Try.func74 (by kernel_rfl) rfl #[.pointer (some ⟨g, 0, none⟩), .int .i64 2] rfl (by (try simp only [mA, mB, mC]); first | done | rfl | (simp only [List.length_drop, List.length_take]; rfl)) ?_; (with_reducible refine (spec_l1Below.calls g s0_0 t524 t525 2 t541 t542 t543 w0 _ ?side1 ?side2 A21.out).mono ?_); (case side1 => exact HI0.out); (case side2 => exact HB.out); rintro e w26 ⟨rfl, hi, hb, hk⟩; refine ⟨_, rfl, ?_⟩; have n0_ := A_ (KeepBut.blk hk BK522.out NB522_0.out (by simp)); have n1_ := A_ (KeepBut.trans HK.out hk (.inl rfl)); have n2_ := A_ (hb); have n3_ := A_ (hi); clear BK522 HK HB HI0; revert n0_ n1_ n2_ n3_; intro BK522 HK HB HI0; clear hb hk; (try clear hi)) | ((with_reducible refine gate_callee (f := 74) rfl ?_); refine goesL_ (some 22) rfl rfl Try.func74 (by kernel_rfl) rfl #[.pointer (some ⟨g, 0, none⟩), .int .i64 5] rfl (by (try simp only [mA, mB, mC]); first | done | rfl | (simp only [List.length_drop, List.length_take]; rfl)) ?_; (with_reducible refine (spec_l1Below.calls g s0_0 t542 t543 5 t544 t545 t546 w0 _ ?side1 ?side2 A22.out).mono ?_); (case side1 => exact HI0.out); (case side2 => exact HB.out); rintro e w27 ⟨rfl, hi, hb, hk⟩; refine ⟨_, rfl, ?_⟩; have n0_ := A_ (KeepBut.blk hk BK522.out NB522_0.out (by simp)); have n1_ := A_ (KeepBut.trans HK.out hk (.inl rfl)); have n2_ := A_ (hb); have n3_ := A_ (hi); clear BK522 HK HB HI0; revert n0_ n1_ n2_ n3_; intro BK522 HK HB HI0; clear hb hk; (try clear hi)) | ((with_reducible refine gate_callee (f := 100) rfl ?_); refine goesL_ (some 24) rfl rfl Try.func100 (by kernel_rfl) rfl #[.pointer (some ⟨g, 0, none⟩), .int .i64 (wrap64 (2 + t541)), .int .i64 (wrap64 (1 + t544))] rfl (by (try simp only [mA, mB, mC]); first | done | rfl | (simp only [List.length_drop, List.length_take]; rfl)) ?_; (with_reducible refine (spec_l3Random.calls k g s0_0 t545 t546 (wrap64 (2 + t541)) (wrap64 (1 + t544)) t547 t548 t551 t554 t555 w0 _ ?side1 ?side2 A23.out).mono ?_); (case side1 => exact HI0.out); (case side2 => exact HB.out); rintro e w28 ⟨v549, v552, rfl, ho0, ho1, hi, hb, hk⟩; refine ⟨_, rfl, ?_⟩; have n0_ := A_ (KeepBut.blk hk BK522.out NB522_0.out (by simp)); have n1_ := A_ (Kd.N_lower (Kd.N_mono (ok' := fun k_ => (w.heap.size ≤ k_) ∧ some k_ ≠ (v552 : Value).ownBlock ∧ k_ ≠ gb522 ∧ k_ ≠ g) (Kd.S_N (Kd.S_bound ho0)) (fun k_ hk_ => ⟨(Nat.le_trans (keep_size HK.out) hk_.2.1), hk_.1, (Kd.freshB BK522.out k_ hk_.2.1), (IsS67.fresh HI0.out k_ hk_.2.1)⟩)) (keep_size HK.out)); have n2_ := A_ (Kd.R_lower (Kd.R_newM (M := fun k_ => (w.heap.size ≤ k_)) ho1 (keep_size HK.out) (fun k_ h_ => h_)) (keep_size HK.out)); have n3_ := A_ (KeepBut.trans HK.out hk (.inl rfl)); have n4_ := A_ (hb); have n5_ := A_ (hi); clear BK522 HK HB HI0; revert n0_ n1_ n2_ n3_ n4_ n5_; intro BK522 HO550 HO553 HK HB HI0; clear hb hk hi ho0 ho1; have hnb29 := NB522_0.out; have hnc29 := NB0_522.out; have hcz30_0 : w28.cell? ⟨gb522, 0, none⟩ = some (.int .i64 0) := (blk_cell BK522.out 0).trans rfl; have hcz30_1 : w28.cell? ⟨gb522, 1, none⟩ = some (.slice none 0 0) := (blk_cell BK522.out 1).trans rfl; have hcz30_2 : w28.cell? ⟨gb522, 2, none⟩ = some (.slice none 0 0) := (blk_cell BK522.out 2).trans rfl; have hfz30_0 := blk_frozen BK522.out 0; have hfz30_1 := blk_frozen BK522.out 1; have hfz30_2 := blk_frozen BK522.out 2; obtain ⟨Ao31, co31, eo31⟩ := Kd.N_slice HO550.out; subst eo31; obtain ⟨Ao32, co32, eo32⟩ := Kd.R_slice HO553.out; subst eo32))
 refine bodyPost_ret (results_cell_row rfl _ _ gb522 72 #[.int .i64 t547, .slice Ao31 t548.length co31, .slice Ao32 t551.length co32] (0, 0) _ rfl (by refine blk_put (cs := #[.int .i64 t547, .slice Ao31 t548.length co31, .slice none 0 0]) ?_ 2 _ rfl; refine blk_put (cs := #[.int .i64 t547, .slice none 0 0, .slice none 0 0]) ?_ 1 _ rfl; refine blk_put (cs := #[.int .i64 0, .slice none 0 0, .slice none 0 0]) ?_ 0 _ rfl; exact BK522.out) Try.underlying72 rfl (by kernel_rfl)) rfl ?_
 exact ⟨_, _, by rfl, by exact Kd.N_mono (Kd.N_far (p := ⟨gb522, 2, none⟩) (Kd.N_far (p := ⟨gb522, 1, none⟩) (Kd.N_far (p := ⟨gb522, 0, none⟩) (Kd.N_mono HO550.out (fun k_ hk => (⟨hk, hk.2.2.1⟩ : _ ∧ k_ ≠ gb522))) (fun _ hk => hk.2) (.int .i64 t547)) (fun _ hk => hk.2) (.slice Ao31 t548.length co31)) (fun _ hk => hk.2) (.slice Ao32 t551.length co32)) (fun _ hk => ⟨hk.1.1, hk.1.2.1⟩), by exact Kd.R_mono (Kd.R_far (p := ⟨gb522, 2, none⟩) (Kd.R_far (p := ⟨gb522, 1, none⟩) (Kd.R_far (p := ⟨gb522, 0, none⟩) (Kd.R_types HO553.out BK522.out (by decide)) (fun _ hk => hk.2) (.int .i64 t547)) (fun _ hk => hk.2) (.slice Ao31 t548.length co31)) (fun _ hk => hk.2) (.slice Ao32 t551.length co32)) (fun _ hk => hk.1.1), by repeat (first | (with_reducible first | exact HI0.out | apply IsS67.alloc | apply IsS67.drewN | apply IsS67.drew | apply IsS67.set_1 | apply IsS67.set_2 | refine IsS67.far ?_ NB0_522.out _) | exact HI0.out), by repeat (first | (with_reducible first | exact HB.out | apply below_alloc | apply pw_below_drewN | apply below_drew1 | refine below_set ?_ (IsS67.ge HI0.out) | refine below_set ?_ GE522.out) | exact HB.out), by repeat (first | (with_reducible first | exact HK.out | apply KeepBut.set_ | apply keep_drewN | apply keep_drew | apply keep_alloc | refine keep_far ?_ GW522.out _) | exact HK.out)⟩

end Go.Proofs.Ytdcakddfibnllaa.PFnFibonacci
