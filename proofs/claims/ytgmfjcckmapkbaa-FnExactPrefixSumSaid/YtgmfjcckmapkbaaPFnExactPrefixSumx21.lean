/- Walks of the functions that the law reaches. -/
import Derived.Test.YtgmfjcckmapkbaaPFnExactPrefixSumx0
namespace Go.Proofs.Ytgmfjcckmapkbaa.PFnExactPrefixSum
open Go.RowKit Go.Proofs.YtgmfjcckmapkbaaW.PrintWords Go.Proofs.YtgmfjcckmapkbaaW.PrintLast Go.Proofs.YtgmfjcckmapkbaaW.PrintMore
attribute [local go_sem] max2_int min2_int max_two min_two max_three min_three max_four min_four
set_option linter.unusedVariables false
set_option maxHeartbeats 8000000
set_option maxRecDepth 100000
set_option linter.unusedSimpArgs false

def impl_power.l0 : Nat → Int → Int → Int → Int → Option (Int)
 | 0, _, _, _, _ => none
 | k + 1, x0, x5, x6, x7 => if x7 < x6 then (impl_power.l0 k x0 (wrap64 (x5 * x0)) x6 (wrap64 (x7 + 1))) else (some x5)
def impl_power.f (k : Nat) (a0 : Int) (a1 : Int) : Option (Int) := impl_power.l0 k a0 1 a1 0
theorem impl_power.calls (k : Nat) (a0 : Int) (a1 : Int) (r : Int) (w : World) (h : impl_power.f k a0 a1 = some r) :
  Calls Try.prog 48 #[.int .i64 a0, .int .i64 a1] w fun e w' => e = .returned (.int .i64 r) ∧ Drawn0 w w' := by
 unfold impl_power.f at h; have H := h; clear h
 have H' := A_ H
 clear H; go_enter Try.func48, Try.ntmps48
 go_wp2
 go_loopg [5, 7] k (fun kq v5 v7 w' => ∃ (ae : Int) (ar : Int), v5 = .int .i64 ae ∧ v7 = .int .i64 ar ∧ Aside0 (impl_power.l0 kq a0 ae a1 ar = some r) ∧ Aside0 (kq ≤ k) ∧ Drawn0 w w')
 case atStart => exact ⟨(1), (0), (by rfl), (by rfl), H', ⟨Nat.le_refl _⟩, by repeat (first | exact Drawn0.refl _ | apply Drawn0.step)⟩
 case round =>
  clear H'; obtain ⟨ae, ar, rfl, rfl, HA, au, ⟨m1, rfl⟩⟩ := hrel
  cases gk with
  | zero => exact nz_ HA.o
  | succ k1 =>
   have H := HA.o; clear HA; simp only [impl_power.l0] at H
   by_cases c3 : ar < a1
   ·rw [if_pos c3] at H; have al := decide_eq_true c3; clear c3
    have H' := A_ H
    clear H
    go_wp2
    go_roundg k1
    case measure => have := au.o; omega
    case rel => exact ⟨(wrap64 (ae * a0)), (wrap64 (ar + 1)), (by rfl), (by rfl), H', ⟨by have := au.o; omega⟩, by repeat (first | exact Drawn0.refl _ | apply Drawn0.step)⟩
   rw [if_neg c3] at H; have al := decide_eq_false c3; clear c3; obtain rfl := Option.some.inj H
   go_wp2
   go_ret
   exact ⟨by rfl, by repeat (first | exact Drawn0.refl _ | apply Drawn0.step)⟩

def impl_isNumber.f (k : Nat) (a0 : Int) (a1 : Int) : Option (Bool) := if a0 ≥ 0 then ((impl_power.f k a1 16).bind fun aC => (some (decide (a0 < aC)))) else (some false)
theorem impl_isNumber.calls (k : Nat) (a0 : Int) (a1 : Int) (r : Bool) (w : World) (h : impl_isNumber.f k a0 a1 = some r) :
  Calls Try.prog 39 #[.int .i64 a0, .int .i64 a1] w fun e w' => e = .returned (.bool r) ∧ Drawn0 w w' := by
 unfold impl_isNumber.f at h; have H := h; clear h
 by_cases c3 : a0 ≥ 0
 ·rw [if_pos c3] at H
  have al : decide (0 ≤ a0) = true := decide_eq_true c3
  clear c3; replace H := bA_ H; obtain ⟨aC, A4, H⟩ := H; obtain rfl := Option.some.inj H; go_enter Try.func39, Try.ntmps39
  go_wp2_with (first | (go_at_call 48; (with_reducible refine (impl_power.calls k a1 16 aC _ A4.o).mono ?_); rintro e w' ⟨rfl, ⟨nd, rfl⟩⟩))
  go_ret
  exact ⟨by rfl, by repeat (first | exact Drawn0.refl _ | apply Drawn0.step)⟩
 rw [if_neg c3] at H
 have al : decide (0 ≤ a0) = false := decide_eq_false c3
 clear c3; obtain rfl := Option.some.inj H; go_enter Try.func39, Try.ntmps39
 go_wp2
 go_ret
 exact ⟨by rfl, by repeat (first | exact Drawn0.refl _ | apply Drawn0.step)⟩

def slices_Reverse_int_int.l0 : Nat → List Int → Int → Int → Option (List Int)
 | 0, _, _, _ => none
 | k + 1, x0, x2, x3 => if x2 < x3 then (if 0 ≤ x3 then (if x3 < (x0.length : Int) then (if 0 ≤ x2 then (if x2 < (x0.length : Int) then (slices_Reverse_int_int.l0 k ((x0.set (x2 : Int).toNat (rd x0 x3)).set (x3 : Int).toNat (rd x0 x2)) (wrap64 (x2 + 1)) (wrap64 (x3 - 1))) else (none)) else (none)) else (none)) else (none)) else (some x0)
def slices_Reverse_int_int.f (k : Nat) (l0 : List Int) : Option (List Int) := slices_Reverse_int_int.l0 k l0 0 (wrap64 ((l0.length : Int) - 1))
def slices_Reverse_int_int.T3 : Bool × List (List Nat × List Nat) := (true, [([], []), ([], []), ([], []), ([], []), ([], []), ([], []), ([4, 5], [4, 5]), ([6], [6]), ([], []), ([], []), ([8, 9], [8, 9]), ([10], [10]), ([0, 1, 0, 1, 4, 5, 6, 7, 11], [0, 1]), ([12, 7, 0, 1, 4, 5, 6, 7, 11], [7, 12]), ([2, 3, 0, 1, 2, 3, 4, 5, 6, 7, 8, 9, 10, 11, 12, 13], [2, 3]), ([14, 11, 13, 0, 1, 2, 3, 4, 5, 6, 7, 8, 9, 10, 11, 12, 13], [11, 14])])
def slices_Reverse_int_int.B3 : List Nat := [0, 0, 0, 0, 0, 0, 48, 112, 0, 0, 768, 1792, 4083, 8179, 16383, 32767]
theorem slices_Reverse_int_int.tab3 : rtab .any (opsOf Try.f60 3) = slices_Reverse_int_int.T3 := by kernel_rfl
theorem slices_Reverse_int_int.bits3 : waitsOk slices_Reverse_int_int.T3.2 slices_Reverse_int_int.B3 = true := by kernel_rfl
theorem slices_Reverse_int_int.calls (k : Nat) (P0_ : Nat → Prop) (u9000_ : Value) (l0 : List Int) (r : List Int) (w0 w : World) (hB : Below w0.heap.size w0 w) (ho0 : Kd.R (Kd.int .i64) 3 w w0.heap.size P0_ u9000_ l0) (h : slices_Reverse_int_int.f k l0 = some r) :
  Calls Try.prog 60 #[u9000_] w fun e w' => e = .returned (.tuple #[]) ∧ Kd.R (Kd.int .i64) 3 w' w0.heap.size (fun k_ => (P0_ k_ ∨ w.heap.size ≤ k_)) u9000_ r ∧ Below w0.heap.size w0 w' ∧ Kept w w' (fun k_ => P0_ k_) := by
 have bc := A_ (show Kd.R (Kd.int .i64) 3 w w0.heap.size (fun k_ => (P0_ k_ ∨ w.heap.size ≤ k_)) u9000_ l0 from Kd.R_mono ho0 (fun k_ hk => (.inl hk))); have HK := A_ (Kept.refl w (fun k_ => P0_ k_)); have HW0 := A_ hB.size; have HB := A_ hB; clear hB; unfold slices_Reverse_int_int.f at h; have H := h; clear h
 have H' := A_ H
 clear H; obtain ⟨bh, bl, bm⟩ := Kd.R_slice bc.o; subst bm; go_enter Try.func60, Try.ntmps60
 go_wp2
 go_loopg [2, 3] k (fun kq v2 v3 w' => ∃ (aa : List Int) (ab : Int) (ac : Int), v2 = .int .i64 ab ∧ v3 = .int .i64 ac ∧ Aside0 (slices_Reverse_int_int.l0 kq aa ab ac = some r) ∧ Aside0 (kq ≤ k) ∧ Aside0 (Kd.R (Kd.int .i64) 3 w' w0.heap.size (fun k_ => (P0_ k_ ∨ w.heap.size ≤ k_)) (.slice bh l0.length bl) aa) ∧ Aside0 (Kept w w' (fun k_ => P0_ k_)) ∧ Aside0 (Below w0.heap.size w0 w'))
 case atStart => exact ⟨(l0), (0), (wrap64 ((l0.length : Int) - 1)), (by rfl), (by rfl), H', ⟨Nat.le_refl _⟩, ⟨bc.o⟩, ⟨HK.o⟩, ⟨HB.o⟩⟩
 case round =>
  clear H'; obtain ⟨aa, ab, ac, rfl, rfl, HA, au, af, HK, HB⟩ := hrel; have aj := (Kd.R_reads' af.o).1; rw [aj] at af
  (try simp only [aj])
  cases gk with
  | zero => exact nz_ HA.o
  | succ k1 =>
   have H := HA.o; clear HA; simp only [slices_Reverse_int_int.l0] at H
   by_cases c3 : ab < ac
   ·rw [if_pos c3] at H; have al := decide_eq_true c3; clear c3
    by_cases c4 : 0 ≤ ac
    ·rw [if_pos c4] at H; have bi := decide_eq_true c4; clear c4
     by_cases c5 : ac < (aa.length : Int)
     ·rw [if_pos c5] at H; have aT := decide_eq_true c5; clear c5
      by_cases c6 : 0 ≤ ab
      ·rw [if_pos c6] at H; have a8 := decide_eq_true c6; clear c6
       by_cases c7 : ab < (aa.length : Int)
       ·rw [if_pos c7] at H; have bk := decide_eq_true c7; clear c7; obtain ⟨aZ, an⟩ := ex_ ((aa.set (ab : Int).toNat (rd aa ac)) : List Int); replace H : (slices_Reverse_int_int.l0 k1 (aZ.set (ac : Int).toNat (rd aa ab)) (wrap64 (ab + 1)) (wrap64 (ac - 1))) = some r := by (rw [an]; with_reducible exact H)
        have aI := A_ an; clear an; obtain ⟨a3, ao⟩ := ex_ ((aZ.set (ac : Int).toNat (rd aa ab)) : List Int); replace H : (slices_Reverse_int_int.l0 k1 a3 (wrap64 (ab + 1)) (wrap64 (ac - 1))) = some r := by (rw [ao]; with_reducible exact H)
        have aJ := A_ ao; clear ao
        have H' := A_ H
        clear H
        try go_wp2
        replace af := A_ (Kd.R_drew af.o); replace HK := A_ (Kept.drew HK.o); replace HB := A_ (below_drew1 HB.o)
        have ax : 0 ≤ (ac : Int) := oa_
        have az : ac < (aa.length : Int) := oa_
        obtain ⟨aN, a9, ag⟩ := Kd.at_int (Kd.R_reads' af.o).2.2 ac ax az
        cases a9
        replace ax := eq_true ax; replace az := eq_true az
        have ay : 0 ≤ (ab : Int) := oa_
        have aA : ab < (aa.length : Int) := oa_
        obtain ⟨aQ, ba, ah⟩ := Kd.at_int (Kd.R_reads' af.o).2.2 ab ay aA; obtain rfl : aN = aQ := (by injection ba); replace ay := eq_true ay; replace aA := eq_true aA
        have p8 : 0 ≤ (ab : Int) := oa_
        have q8 : (ab : Int) < ((aa.length : Int) : Int) := oa_
        obtain ⟨a6, bp, be, bf, gl8, cl8, HG8⟩ := Kd.R_form af.o (by omega)
        (first | cases be | (injection be with ea_ en_ ec_; (first | subst ea_ | (injection ea_ with ea_; subst ea_)); subst ec_; clear en_))
        have GB8 := A_ bf; have GG8 := A_ HG8; clear bf gl8 HG8; have HMgo8 := A_ (show (P0_ a6 ∨ w.heap.size ≤ a6) from (af.o.1 _ rfl))
        (first | simp only [add_plain] at ag | skip)
        (first | simp only [add_plain] at ah | skip)
        obtain ⟨aX, aV⟩ := Kd.R_celln 0 af.o (ab : Int) p8 q8; replace p8 := eq_true p8; replace q8 := eq_true q8; have av := Kd.R_putn af.o (ab : Int) (rd aa ac); rw [← aI.o] at av; have HQ11 := A_ av; clear av
        have p9 : 0 ≤ (ac : Int) := oa_
        have q9 : (ac : Int) < ((aa.length : Int) : Int) := oa_
        obtain ⟨aY, aW⟩ := Kd.R_celln 0 HQ11.o (ac : Int) p9 q9; replace p9 := eq_true p9; replace q9 := eq_true q9; have aw := Kd.R_putn HQ11.o (ac : Int) (rd aa ab); rw [← aJ.o] at aw; have HQ12 := A_ aw; clear aw; refine start_ (n := 16) (S := fun w' => w'.cell? ⟨a6, (ac).toNat, none⟩ = some (.int .i64 (rd aa ac)) ∧ w'.cell? ⟨a6, (ab).toNat, none⟩ = some (.int .i64 (rd aa ab))) (ds := [13, 15]) (mk_ 16 0) (by kernel_rfl) rfl rfl ⟨ag, ah⟩ (fun am => ?_); refine with_tabW slices_Reverse_int_int.tab3 slices_Reverse_int_int.bits3 (fun ai bd => ?_)
        generalize wr.drew = w10 at af HK HB GG8 HQ11 HQ12 aV aW ag ah aX aY am ⊢
        refine pw_ 0 14 (mk_ 16 1) ai ?_; refine pw_ 1 15 (mk_ 16 3) ai ?_; refine pw_ 2 16 (mk_ 16 7) ai ?_; refine pw_ 3 17 (mk_ 16 15) ai ?_; refine pw_ 4 18 (mk_ 16 31) ai ?_; refine pw_ 5 19 (mk_ 16 63) ai ?_; refine pw_ 6 20 (mk_ 16 127) ai ?_; refine pw_ 8 22 (mk_ 16 383) ai ?_; refine pw_ 9 23 (mk_ 16 895) ai ?_; refine pw_ 10 24 (mk_ 16 1919) ai ?_; refine tk_ 7 21 (mk_ 16 2047) ai bd am ?_; refine tk_ 11 25 (mk_ 16 4095) ai bd am ?_; refine pw_ 12 26 (mk_ 16 8191) ai ?_; refine last_ (i := 13) (N := none) (mk_ 16 16383) rfl rfl (one_of ai.o (by kernel_rfl)) (by decide) (fun K hK => ?_); refine skip_ (w1 := ?_) (by rfl) rfl ?_ ?_; rotate_left
        ·go_simp
         rfl
        refine hK.out _ _ ?_; clear hK K; refine pw_ 14 27 (mk_ 16 32767) ai ?_; refine last_ (i := 15) (N := none) (mk_ 16 65535) rfl rfl (one_of ai.o (by kernel_rfl)) (by decide) (fun K hK => ?_); refine skip_ (w1 := ?_) (by rfl) rfl ?_ ?_; rotate_left
        ·go_simp
         rfl
        refine hK.out _ _ ?_; clear hK K; refine done_ (done_of ai.o (by kernel_rfl)) ?_
        try go_wp2
        (try simp only [← aj])
        go_roundg k1
        case measure => have := au.o; omega
        case rel => exact ⟨(a3), (wrap64 (ab + 1)), (wrap64 (ac - 1)), (by rfl), (by rfl), H', ⟨by have := au.o; omega⟩, ⟨by (try simp only [aj]); exact HQ12.o⟩, ⟨by repeat (first | (with_reducible first | exact HK.o | apply Kept.alloc | apply Kept.drewN | apply Kept.drew | refine Kept.setCell ?_ HMgo8.o _ | refine Kept.setCell ?_ HMgo8.o _) | exact HK.o)⟩, ⟨by repeat (first | (with_reducible first | exact HB.o | apply below_alloc | apply pw_below_drewN | apply below_drew1 | refine below_set ?_ GB8.o | refine below_set ?_ GB8.o) | exact HB.o)⟩⟩
       rw [if_neg c7] at H
       cases H
      rw [if_neg c6] at H
      cases H
     rw [if_neg c5] at H
     cases H
    rw [if_neg c4] at H
    cases H
   rw [if_neg c3] at H; have al := decide_eq_false c3; clear c3; obtain rfl := Option.some.inj H
   go_wp2
   first | go_end0 | ((try simp only [Exit.inBlock, Exit.then]); refine bodyPost_ret (results_none rfl _ _ _) rfl ?_)
   exact ⟨by rfl, (by first | exact af.o | (simp only [aj]; exact af.o)), HB.o, HK.o⟩

def impl_digits.l0 : Nat → Int → Int → List Int → Option (List Int)
 | 0, _, _, _ => none
 | k + 1, x0, x1, x5 => if x0 > 0 then (if x1 = 0 then (none) else (if x5.length < 17592186044416 then (impl_digits.l0 k (wrap64 (Int.tdiv x0 x1)) x1 (x5 ++ [Int.tmod x0 x1])) else (none))) else ((slices_Reverse_int_int.f k x5).bind fun aD => (some aD))
def impl_digits.f (k : Nat) (a0 : Int) (a1 : Int) : Option (List Int) := impl_digits.l0 k a0 a1 (([] : List Int))
theorem impl_digits.calls (k : Nat) (a0 : Int) (a1 : Int) (r : List Int) (w : World) (h : impl_digits.f k a0 a1 = some r) :
  Calls Try.prog 50 #[.int .i64 a0, .int .i64 a1] w fun e w' => ∃ v0_ : Value, e = .returned (v0_) ∧ Kd.R (Kd.int .i64) 3 w' w.heap.size (fun _ => True) v0_ r ∧ Below w.heap.size w w' := by
 have HB := A_ (Below.refl w.heap.size w); unfold impl_digits.f at h; have H := h; clear h; obtain ⟨a4, ap⟩ := ex_ ((([] : List Int)) : List Int); replace H : (impl_digits.l0 k a0 a1 a4) = some r := by (rw [ap]; with_reducible exact H)
 have aK := A_ ap; clear ap
 have H' := A_ H
 clear H; go_enter Try.func50, Try.ntmps50
 go_wp2_with (first | ((with_reducible refine gd_ 6 rfl ?_); refine RL_ 6 3 [] [] rfl rfl (by go_simp; done) rfl rfl ?_; rintro bn w3 ho4 hb - -; (rw [← aK.o] at ho4); have aG := A_ (Kd.R_lower ho4 (below_size HB.o)); replace HB := bs_ HB hb; clear hb ho4))
 go_loopg [0, 5] k (fun kq v0 v5 w' => ∃ (aa : Int) (ae : List Int), v0 = .int .i64 aa ∧ Aside0 (impl_digits.l0 kq aa a1 ae = some r) ∧ Aside0 (kq ≤ k) ∧ Aside0 (Kd.R (Kd.int .i64) 3 w' w.heap.size (fun _ => True) v5 ae) ∧ Aside0 (Below w.heap.size w w'))
 case atStart => exact ⟨(a0), (a4), (by rfl), H', ⟨Nat.le_refl _⟩, ⟨aG.o⟩, ⟨HB.o⟩⟩
 case round =>
  clear H'; obtain ⟨aa, ae, rfl, HA, au, ak, HB⟩ := hrel
  cases gk with
  | zero => exact nz_ HA.o
  | succ k1 =>
   have H := HA.o; clear HA; simp only [impl_digits.l0] at H
   by_cases c5 : aa > 0
   ·rw [if_pos c5] at H
    have aT : decide (0 < aa) = true := decide_eq_true c5
    clear c5
    by_cases c6 : a1 = 0
    ·rw [if_pos c6] at H
     cases H
    rw [if_neg c6] at H
    have a8 : (a1 == 0) = false := beq_eq_false_iff_ne.mpr c6
    have bj : (a1 != 0) = true := bne_iff_ne.mpr c6
    by_cases c7 : ae.length < 17592186044416
    ·rw [if_pos c7] at H; have a7 := A_ c7; clear c7; obtain ⟨a5, aq⟩ := ex_ ((ae ++ [Int.tmod aa a1]) : List Int); replace H : (impl_digits.l0 k1 (wrap64 (Int.tdiv aa a1)) a1 a5) = some r := by (rw [aq]; with_reducible exact H)
     have aM := A_ aq; clear aq
     have H' := A_ H
     clear H
     go_wp2_with (first | ((with_reducible refine gate_builtin (b := .append) (xs := #[.tmp 12, .tmp 16]) rfl ?_); at_builtin; refine Kd.R_append (Kd.int .i64) (w0 := w) w.heap.size rfl (.tmp 12) (.tmp 16) 23 3 (.int .i64 0) 8 rfl Try.underlying23 info3 rfl (by decide) (by omega) u5 ae (Int.tmod aa a1) [.int .i64 (Int.tmod aa a1)] (fun _ => True) (fun _ => False) rfl rfl ?aP (fun _ hk => hk.elim) ?aF ?aO ?aB ?aS ?aL ?_; (case aP => exact rfl); (case aB => exact HB.o); (case aF => exact (fun _ _ => trivial)); (case aO => exact ak.o); (case aS => exact (below_size HB.o)); (case aL => have := a7.o; omega); intro bo w8 ho hb hg hat; rw [← aM.o] at ho; replace HB := A_ (hb); have aH := A_ (ho); clear ak; clear ho hb hg hat))
     go_roundg k1
     case measure => have := au.o; omega
     case rel => exact ⟨(wrap64 (Int.tdiv aa a1)), (a5), (by rfl), H', ⟨by have := au.o; omega⟩, ⟨aH.o⟩, ⟨HB.o⟩⟩
    rw [if_neg c7] at H
    cases H
   rw [if_neg c5] at H
   have aT : decide (0 < aa) = false := decide_eq_false c5
   clear c5; replace H := bA_ H; obtain ⟨aD, A9, H⟩ := H; obtain rfl := Option.some.inj H; obtain ⟨aE, aU, bb⟩ := Kd.R_slice ak.o; subst bb
   go_wp2_with (first | ((with_reducible refine gc_ 60 rfl ?_); refine cM_ E60 19 (slices_Reverse_int_int.calls k1 (fun k_ => some k_ = (.slice aE ae.length aU : Value).ownBlock) (.slice aE ae.length aU) ae aD w _ HB.o (Kd.R_tight rfl ak.o) A9.o) ?_; rintro e w11 ⟨rfl, bg, hb, hkp⟩; refine ⟨_, rfl, ?_⟩; replace ak := A_ (Kd.R_reok rfl bg (fun k_ e_ => ak.o.1 k_ e_)); replace HB := A_ (hb); clear hb hkp; (try clear bg)))
   go_ret
   exact ⟨_, by rfl, ak.o, HB.o⟩

end Go.Proofs.Ytgmfjcckmapkbaa.PFnExactPrefixSum

