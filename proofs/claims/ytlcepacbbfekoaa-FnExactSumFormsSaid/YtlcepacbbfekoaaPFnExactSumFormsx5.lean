/- Walks of the functions that the law reaches. -/
import Derived.Test.YtlcepacbbfekoaaPFnExactSumFormsx4
namespace Go.Proofs.Ytlcepacbbfekoaa.PFnExactSumForms
open Go.RowKit Go.Proofs.YtlcepacbbfekoaaW.PrintWords Go.Proofs.YtlcepacbbfekoaaW.PrintLast Go.Proofs.YtlcepacbbfekoaaW.PrintMore
attribute [local go_sem] max2_int min2_int max_two min_two max_three min_three max_four min_four
set_option linter.unusedVariables false
set_option maxHeartbeats 8000000
set_option maxRecDepth 100000
set_option linter.unusedSimpArgs false

mutual
def impl_IsLinear.j0 : Nat → Int → Bool → Int → List Int → List (List (List Int)) → List Int → Option (Bool)
 | 0, _, _, _, _, _, _ => none
 | k + 1, x3, b3, bL, bM, ay, bN => if b3 = true then (some false) else (impl_IsLinear.l0 k x3 ay (ay.length : Int) 0)
def impl_IsLinear.l0 : Nat → Int → List (List (List Int)) → Int → Int → Option (Bool)
 | 0, _, _, _, _ => none
 | k + 1, x3, bi, bB, aN => if aN < bB then (if 0 ≤ aN then (if aN < (bi.length : Int) then (if ((rd_L2 bi aN).length : Int) = x3 then (impl_IsLinear.l1 k x3 bi bB aN (rd_L2 bi aN) ((rd_L2 bi aN).length : Int) 0) else (some false)) else (none)) else (none)) else (some true)
def impl_IsLinear.l1 : Nat → Int → List (List (List Int)) → Int → Int → List (List Int) → Int → Int → Option (Bool)
 | 0, _, _, _, _, _, _, _ => none
 | k + 1, x3, bi, bB, aN, bT, bY, bC => if bC < bY then (if 0 ≤ bC then (if bC < (bT.length : Int) then ((impl_areSmall.f k (rd_L1 bT bC) x3).bind fun bv => (if bv = true then (impl_IsLinear.l1 k x3 bi bB aN bT bY (wrap64 (bC + 1))) else (some false))) else (none)) else (none)) else (impl_IsLinear.l0 k x3 bi bB (wrap64 (aN + 1)))
end
def impl_IsLinear.f (k : Nat) (af : Int) (aa : List Int) (ac : List (List (List Int))) (aj : List Int) : Option (Bool) := (impl_isBase.f af).bind fun br => (if br = true then (if (aa.length : Int) < 1 then (impl_IsLinear.j0 k (aa.length : Int) true af aa ac aj) else (if (aa.length : Int) > 40 then (impl_IsLinear.j0 k (aa.length : Int) true af aa ac aj) else ((impl_areSmall.f k aa (aa.length : Int)).bind fun bs => (if bs = true then ((impl_areSmall.f k aj (aa.length : Int)).bind fun bu => (if bu = true then (impl_IsLinear.j0 k (aa.length : Int) ((ac.length : Int) != af) af aa ac aj) else (impl_IsLinear.j0 k (aa.length : Int) true af aa ac aj))) else (impl_IsLinear.j0 k (aa.length : Int) true af aa ac aj))))) else (impl_IsLinear.j0 k (aa.length : Int) true af aa ac aj))
theorem impl_IsLinear.mono_l : ∀ k, (∀ y0 y1 y2 y3 y4 y5, LeO (impl_IsLinear.j0 k y0 y1 y2 y3 y4 y5) (impl_IsLinear.j0 (k + 1) y0 y1 y2 y3 y4 y5)) ∧ (∀ y0 y1 y2 y3, LeO (impl_IsLinear.l0 k y0 y1 y2 y3) (impl_IsLinear.l0 (k + 1) y0 y1 y2 y3)) ∧ (∀ y0 y1 y2 y3 y4 y5 y6, LeO (impl_IsLinear.l1 k y0 y1 y2 y3 y4 y5 y6) (impl_IsLinear.l1 (k + 1) y0 y1 y2 y3 y4 y5 y6))
 | 0 => ⟨fun _ _ _ _ _ _ r h => by simp [impl_IsLinear.j0] at h, fun _ _ _ _ r h => by simp [impl_IsLinear.l0] at h, fun _ _ _ _ _ _ _ r h => by simp [impl_IsLinear.l1] at h⟩
 | k + 1 => by
  obtain ⟨ih0, ih1, ih2⟩ := impl_IsLinear.mono_l k; refine ⟨?_, ?_, ?_⟩
  ·intro y0 y1 y2 y3 y4 y5; unfold impl_IsLinear.j0
   with_reducible repeat' first | exact ih0 _ _ _ _ _ _ | exact ih1 _ _ _ _ | exact ih2 _ _ _ _ _ _ _ | exact impl_areSmall.mono _ _ _ | exact LeO.refl _ | exact LeO.none _ | refine LeO.ite ?_ ?_ | refine LeO.bind ?_ (fun _ => ?_)
  ·intro y0 y1 y2 y3; unfold impl_IsLinear.l0
   with_reducible repeat' first | exact ih0 _ _ _ _ _ _ | exact ih1 _ _ _ _ | exact ih2 _ _ _ _ _ _ _ | exact impl_areSmall.mono _ _ _ | exact LeO.refl _ | exact LeO.none _ | refine LeO.ite ?_ ?_ | refine LeO.bind ?_ (fun _ => ?_)
  intro y0 y1 y2 y3 y4 y5 y6; unfold impl_IsLinear.l1
  with_reducible repeat' first | exact ih0 _ _ _ _ _ _ | exact ih1 _ _ _ _ | exact ih2 _ _ _ _ _ _ _ | exact impl_areSmall.mono _ _ _ | exact LeO.refl _ | exact LeO.none _ | refine LeO.ite ?_ ?_ | refine LeO.bind ?_ (fun _ => ?_)
theorem impl_IsLinear.mono : ∀ a0 a1 a2 a3 k, LeO (impl_IsLinear.f k a0 a1 a2 a3) (impl_IsLinear.f (k + 1) a0 a1 a2 a3) := by
 intro a0 a1 a2 a3 k; obtain ⟨ih0, ih1, ih2⟩ := impl_IsLinear.mono_l k; unfold impl_IsLinear.f
 with_reducible repeat' first | exact ih0 _ _ _ _ _ _ | exact ih1 _ _ _ _ | exact ih2 _ _ _ _ _ _ _ | exact impl_areSmall.mono _ _ _ | exact LeO.refl _ | exact LeO.none _ | refine LeO.ite ?_ ?_ | refine LeO.bind ?_ (fun _ => ?_)
theorem impl_IsLinear.calls (k : Nat) (af : Int) (aA : Option Addr) (aD : Nat) (aa : List Int) (aH : Option Addr) (aE : Nat) (ac : List (List (List Int))) (aC : Option Addr) (aG : Nat) (aj : List Int) (r : Bool) (w : World) (bf : Kd.C (Kd.int .i64) w aA aa.length aa) (bb : aa.length ≤ aD) (bg : Kd.C (Kd.slice 22 (Kd.slice 3 (Kd.int .i64))) w aH ac.length ac) (bc : ac.length ≤ aE) (bh : Kd.C (Kd.int .i64) w aC aj.length aj) (be : aj.length ≤ aG) (h : impl_IsLinear.f k af aa ac aj = some r) :
  Calls Try.prog 16 #[.agg #[.int .i64 af, .slice aA aa.length aD, .slice aH ac.length aE, .slice aC aj.length aG]] w fun e w' => e = .returned (.bool r) ∧ Below w.heap.size w w' := by
 have hu27 := Try.underlying27; have aJ := A_ bf; have aI := A_ bb; clear bf bb; have aV := A_ bg; have bV := A_ bc; clear bg bc; have aW := A_ bh; have aU := A_ be; clear bh be; have HB := A_ (Below.refl w.heap.size w); unfold impl_IsLinear.f at h; have H := h; clear h; have HC2 := A_ H; clear H; go_enter Try.func16, Try.ntmps16
 go_upto_region 2 with (first | ((with_reducible refine gate_dst (N := 1) rfl ?_); (try (refine gate_guard (by rfl) ?_; dsimp only)); refine box_event rfl (N := 1) rfl (cs := #[.int .i64 af, .slice aA aa.length aD, .slice aH ac.length aE, .slice aC aj.length aG]) (t := 27) (by go_simp; done) ?_; intro aM hg w3 hbox hb; have ae := A_ (hbox); have bU := A_ (lg_ (below_size HB.o) hg); have ai := A_ (lg_ (below_size HB.o) hg); replace HB := bs_ HB hb; clear hb hbox hg; have bq := bq4 ae.o))
 (try simp only [Act.put, mD, mE, mF])
 go_cut [44] (fun bZ wc => ∃ (kq : Nat) (az : Bool), bZ = .bool az ∧ Aside0 (impl_IsLinear.j0 kq (aa.length : Int) az af aa ac aj = some r) ∧ Aside0 (kq ≤ k) ∧ Aside0 (wc.heap[aM]? = some (.cells #[.int .i64 af, (.slice aA aa.length aD), (.slice aH ac.length aE), (.slice aC aj.length aG)] 27 (0, 0))) ∧ Aside0 (Below w.heap.size w wc))
 case first =>
  have H := HC2.o; clear HC2; replace H := bA_ H; obtain ⟨br, A5, H⟩ := H
  by_cases c6 : br = true
  ·subst c6; rw [if_pos rfl] at H
   by_cases c7 : (aa.length : Int) < 1
   ·rw [if_pos c7] at H; have bO := decide_eq_true c7
    have bP : decide (aa.length < 1) = true := decide_eq_true (by omega)
    clear c7
    (skip)
    have H' := A_ H
    clear H; have bS := bq4 ae.o
    go_wp2_with (first | ((with_reducible refine gc_ 28 rfl ?_); refine cM_ E28 13 (impl_isBase.calls af true _ A5.o) ?_; rintro e w' ⟨rfl, ⟨nd, rfl⟩⟩; refine ⟨_, rfl, ?_⟩))
    go_meet
    case rel => exact ⟨_, (true), (by rfl), H', ⟨by omega⟩, ⟨by (with_reducible repeat (first | refine blk_drewN ?_ _ | refine blk_drew ?_ | refine blk_alloc ?_ _)); exact ae.o⟩, ⟨by repeat (first | (with_reducible first | exact HB.o | apply below_alloc | apply pw_below_drewN | apply below_drew1 | refine below_set ?_ ai.o) | exact HB.o)⟩⟩
   rw [if_neg c7] at H; have bO := decide_eq_false c7
   have bP : decide (aa.length < 1) = false := decide_eq_false (by omega)
   clear c7
   (skip)
   by_cases c9 : (aa.length : Int) > 40
   ·rw [if_pos c9] at H
    have bQ : decide (40 < (aa.length : Int)) = true := decide_eq_true c9
    have bR : decide (40 < aa.length) = true := decide_eq_true (by omega)
    clear c9
    have H' := A_ H
    clear H; have bG := bq4 ae.o
    go_wp2_with (first | ((with_reducible refine gc_ 28 rfl ?_); refine cM_ E28 13 (impl_isBase.calls af true _ A5.o) ?_; rintro e w' ⟨rfl, ⟨nd, rfl⟩⟩; refine ⟨_, rfl, ?_⟩))
    go_meet
    case rel => exact ⟨_, (true), (by rfl), H', ⟨by omega⟩, ⟨by (with_reducible repeat (first | refine blk_drewN ?_ _ | refine blk_drew ?_ | refine blk_alloc ?_ _)); exact ae.o⟩, ⟨by repeat (first | (with_reducible first | exact HB.o | apply below_alloc | apply pw_below_drewN | apply below_drew1 | refine below_set ?_ ai.o) | exact HB.o)⟩⟩
   rw [if_neg c9] at H
   have bQ : decide (40 < (aa.length : Int)) = false := decide_eq_false c9
   have bR : decide (40 < aa.length) = false := decide_eq_false (by omega)
   clear c9; replace H := bA_ H; obtain ⟨bs, A11, H⟩ := H
   by_cases c12 : bs = true
   ·subst c12; rw [if_pos rfl] at H; replace H := bA_ H; obtain ⟨bu, A13, H⟩ := H
    by_cases c14 : bu = true
    ·subst c14; rw [if_pos rfl] at H
     have H' := A_ H
     clear H; have bH := bq4 ae.o
     go_wp2_with (first | ((with_reducible refine gc_ 28 rfl ?_); refine cM_ E28 13 (impl_isBase.calls af true _ A5.o) ?_; rintro e w' ⟨rfl, ⟨nd, rfl⟩⟩; refine ⟨_, rfl, ?_⟩) | (go_at_call 29; (with_reducible refine (impl_areSmall.calls k _ _ aa (aa.length : Int) true _ ?side1 ?side2 A11.o).mono ?_); (case side1 => repeat (first | exact (Kd.C_below aJ.o (by repeat (first | (with_reducible first | exact HB.o | apply below_alloc | apply pw_below_drewN | apply below_drew1 | refine below_set ?_ ai.o) | exact HB.o))) | (with_reducible refine Kd.C_alloc ?_ _) | (with_reducible refine Kd.C_drewN ?_ _) | (with_reducible refine Kd.C_drew ?_))); (case side2 => exact aI.o); rintro e w' ⟨rfl, ⟨nd, rfl⟩⟩) | (go_at_call 29; (with_reducible refine (impl_areSmall.calls k _ _ aj (aa.length : Int) true _ ?side1 ?side2 A13.o).mono ?_); (case side1 => repeat (first | exact (Kd.C_below aW.o (by repeat (first | (with_reducible first | exact HB.o | apply below_alloc | apply pw_below_drewN | apply below_drew1 | refine below_set ?_ ai.o) | exact HB.o))) | (with_reducible refine Kd.C_alloc ?_ _) | (with_reducible refine Kd.C_drewN ?_ _) | (with_reducible refine Kd.C_drew ?_))); (case side2 => exact aU.o); rintro e w' ⟨rfl, ⟨nd, rfl⟩⟩))
     go_meet
     case rel => exact ⟨_, (((ac.length : Int) != af)), (by rfl), H', ⟨by omega⟩, ⟨by (with_reducible repeat (first | refine blk_drewN ?_ _ | refine blk_drew ?_ | refine blk_alloc ?_ _)); exact ae.o⟩, ⟨by repeat (first | (with_reducible first | exact HB.o | apply below_alloc | apply pw_below_drewN | apply below_drew1 | refine below_set ?_ ai.o) | exact HB.o)⟩⟩
    replace c14 := Bool.eq_false_iff.mpr c14; subst c14; rw [if_neg nf_] at H
    have H' := A_ H
    clear H; have bI := bq4 ae.o
    go_wp2_with (first | ((with_reducible refine gc_ 28 rfl ?_); refine cM_ E28 13 (impl_isBase.calls af true _ A5.o) ?_; rintro e w' ⟨rfl, ⟨nd, rfl⟩⟩; refine ⟨_, rfl, ?_⟩) | (go_at_call 29; (with_reducible refine (impl_areSmall.calls k _ _ aa (aa.length : Int) true _ ?side1 ?side2 A11.o).mono ?_); (case side1 => repeat (first | exact (Kd.C_below aJ.o (by repeat (first | (with_reducible first | exact HB.o | apply below_alloc | apply pw_below_drewN | apply below_drew1 | refine below_set ?_ ai.o) | exact HB.o))) | (with_reducible refine Kd.C_alloc ?_ _) | (with_reducible refine Kd.C_drewN ?_ _) | (with_reducible refine Kd.C_drew ?_))); (case side2 => exact aI.o); rintro e w' ⟨rfl, ⟨nd, rfl⟩⟩) | (go_at_call 29; (with_reducible refine (impl_areSmall.calls k _ _ aj (aa.length : Int) false _ ?side1 ?side2 A13.o).mono ?_); (case side1 => repeat (first | exact (Kd.C_below aW.o (by repeat (first | (with_reducible first | exact HB.o | apply below_alloc | apply pw_below_drewN | apply below_drew1 | refine below_set ?_ ai.o) | exact HB.o))) | (with_reducible refine Kd.C_alloc ?_ _) | (with_reducible refine Kd.C_drewN ?_ _) | (with_reducible refine Kd.C_drew ?_))); (case side2 => exact aU.o); rintro e w' ⟨rfl, ⟨nd, rfl⟩⟩))
    go_meet
    case rel => exact ⟨_, (true), (by rfl), H', ⟨by omega⟩, ⟨by (with_reducible repeat (first | refine blk_drewN ?_ _ | refine blk_drew ?_ | refine blk_alloc ?_ _)); exact ae.o⟩, ⟨by repeat (first | (with_reducible first | exact HB.o | apply below_alloc | apply pw_below_drewN | apply below_drew1 | refine below_set ?_ ai.o) | exact HB.o)⟩⟩
   replace c12 := Bool.eq_false_iff.mpr c12; subst c12; rw [if_neg nf_] at H
   have H' := A_ H
   clear H; have bJ := bq4 ae.o
   go_wp2_with (first | ((with_reducible refine gc_ 28 rfl ?_); refine cM_ E28 13 (impl_isBase.calls af true _ A5.o) ?_; rintro e w' ⟨rfl, ⟨nd, rfl⟩⟩; refine ⟨_, rfl, ?_⟩) | (go_at_call 29; (with_reducible refine (impl_areSmall.calls k _ _ aa (aa.length : Int) false _ ?side1 ?side2 A11.o).mono ?_); (case side1 => repeat (first | exact (Kd.C_below aJ.o (by repeat (first | (with_reducible first | exact HB.o | apply below_alloc | apply pw_below_drewN | apply below_drew1 | refine below_set ?_ ai.o) | exact HB.o))) | (with_reducible refine Kd.C_alloc ?_ _) | (with_reducible refine Kd.C_drewN ?_ _) | (with_reducible refine Kd.C_drew ?_))); (case side2 => exact aI.o); rintro e w' ⟨rfl, ⟨nd, rfl⟩⟩))
   go_meet
   case rel => exact ⟨_, (true), (by rfl), H', ⟨by omega⟩, ⟨by (with_reducible repeat (first | refine blk_drewN ?_ _ | refine blk_drew ?_ | refine blk_alloc ?_ _)); exact ae.o⟩, ⟨by repeat (first | (with_reducible first | exact HB.o | apply below_alloc | apply pw_below_drewN | apply below_drew1 | refine below_set ?_ ai.o) | exact HB.o)⟩⟩
  replace c6 := Bool.eq_false_iff.mpr c6; subst c6; rw [if_neg nf_] at H
  have H' := A_ H
  clear H; have bK := bq4 ae.o
  go_wp2_with (first | ((with_reducible refine gc_ 28 rfl ?_); refine cM_ E28 13 (impl_isBase.calls af false _ A5.o) ?_; rintro e w' ⟨rfl, ⟨nd, rfl⟩⟩; refine ⟨_, rfl, ?_⟩))
  go_meet
  case rel => exact ⟨_, (true), (by rfl), H', ⟨by omega⟩, ⟨by (with_reducible repeat (first | refine blk_drewN ?_ _ | refine blk_drew ?_ | refine blk_alloc ?_ _)); exact ae.o⟩, ⟨by repeat (first | (with_reducible first | exact HB.o | apply below_alloc | apply pw_below_drewN | apply below_drew1 | refine below_set ?_ ai.o) | exact HB.o)⟩⟩
 case rest =>
  clear HC2
  try clear bq
  obtain ⟨kq, az, rfl, HA, bD, ae, HB⟩ := hcut
  cases kq with
  | zero => exact nz_ HA.o
  | succ kj1 =>
   have H := HA.o; clear HA; simp only [impl_IsLinear.j0] at H
   by_cases c19 : az = true
   ·subst c19; rw [if_pos rfl] at H; obtain rfl := Option.some.inj H
    go_wp2
    go_ret
    exact ⟨by rfl, HB.o⟩
   replace c19 := Bool.eq_false_iff.mpr c19; subst c19; rw [if_neg nf_] at H
   have H' := A_ H
   clear H; have aT := bq4 ae.o
   go_wp2
   go_loopg [48] kj1 (fun kq b1 w' => ∃ (ab : Int), b1 = .int .i64 ab ∧ Aside0 (impl_IsLinear.l0 kq (aa.length : Int) ac (ac.length : Int) ab = some r) ∧ Aside0 (kq ≤ kj1) ∧ Aside0 (w'.heap[aM]? = some (.cells #[.int .i64 af, (.slice aA aa.length aD), (.slice aH ac.length aE), (.slice aC aj.length aG)] 27 (0, 0))) ∧ Aside0 (Below w.heap.size w w'))
   case atStart => exact ⟨(0), (by rfl), H', ⟨Nat.le_refl _⟩, ⟨ae.o⟩, ⟨HB.o⟩⟩
   case round =>
    clear H'
    try clear aT
    obtain ⟨ab, rfl, HA, bE, ae, HB⟩ := hrel
    cases gk with
    | zero => exact nz_ HA.o
    | succ k2 =>
     have H := HA.o; clear HA; simp only [impl_IsLinear.l0] at H
     by_cases c21 : ab < (ac.length : Int)
     ·rw [if_pos c21] at H; have aY := decide_eq_true c21; clear c21
      by_cases c22 : 0 ≤ ab
      ·rw [if_pos c22] at H; have bx := decide_eq_true c22; clear c22
       by_cases c23 : ab < (ac.length : Int)
       ·rw [if_pos c23] at H; have bz := decide_eq_true c23; clear c23
        by_cases c24 : ((rd_L2 ac ab).length : Int) = (aa.length : Int)
        ·rw [if_pos c24] at H
         have a8 : (((rd_L2 ac ab).length : Int) == (aa.length : Int)) = true := beq_iff_eq.mpr c24
         have a9 : (((rd_L2 ac ab).length : Int) != (aa.length : Int)) = false := bne_eq_false_iff_eq.mpr c24
         have ba : ((rd_L2 ac ab).length == aa.length) = true := by first | simpa using c24 | (simp at c24 ⊢; omega)
         clear c24
         have H' := A_ H
         clear H
         have au : 0 ≤ (ab : Int) := oa_
         have av : ab < (ac.length : Int) := oa_
         obtain ⟨aX, bj, bl, bn, ah, an, al⟩ := at_L2 aV.o ab au av
         cases bn
         replace ah := (HB.o.cell (World.block_lt_of_cell? w _ ah)).trans ah; have aq := A_ al; have aQ := A_ an; clear al an; replace au := eq_true au; replace av := eq_true av
         go_wp2
         go_loopg [58] k2 (fun kq b2 w' => ∃ (ag : Int), b2 = .int .i64 ag ∧ Aside0 (impl_IsLinear.l1 kq (aa.length : Int) ac (ac.length : Int) ab (rd_L2 ac ab) ((rd_L2 ac ab).length : Int) ag = some r) ∧ Aside0 (kq ≤ k2) ∧ Aside0 (w'.heap[aM]? = some (.cells #[.int .i64 af, (.slice aA aa.length aD), (.slice (some aX) ac.length aE), (.slice aC aj.length aG)] 27 (0, 0))) ∧ Aside0 (Below w.heap.size w w'))
         case atStart => exact ⟨(0), (by rfl), H', ⟨Nat.le_refl _⟩, ⟨ae.o⟩, ⟨HB.o⟩⟩
         case round =>
          clear H'
          clear aY bx bz a8 a9 ba ah au av
          obtain ⟨ag, rfl, HA, bF, ae, HB⟩ := hrel
          cases gk with
          | zero => exact nz_ HA.o
          | succ k3 =>
           have H := HA.o; clear HA; simp only [impl_IsLinear.l1] at H
           by_cases c25 : ag < ((rd_L2 ac ab).length : Int)
           ·rw [if_pos c25] at H; have bA := decide_eq_true c25; clear c25
            by_cases c26 : 0 ≤ ag
            ·rw [if_pos c26] at H; have bW := decide_eq_true c26; clear c26
             by_cases c27 : ag < ((rd_L2 ac ab).length : Int)
             ·rw [if_pos c27] at H; have bX := decide_eq_true c27; clear c27; replace H := bA_ H; obtain ⟨bv, A28, H⟩ := H
              by_cases c29 : bv = true
              ·subst c29; rw [if_pos rfl] at H
               have H' := A_ H
               clear H
               have aw : 0 ≤ (ag : Int) := oa_
               have ax : ag < ((rd_L2 ac ab).length : Int) := oa_
               obtain ⟨bw, bk, bm, bp, ak, ao, am⟩ := at_L1 aq.o ag aw ax
               cases bp
               replace ak := (HB.o.cell (World.block_lt_of_cell? w _ ak)).trans ak; have ar := A_ am; have ap := A_ ao; clear am ao; replace aw := eq_true aw; replace ax := eq_true ax
               go_wp2_with (first | ((with_reducible refine gc_ 29 rfl ?_); refine cM_ E29 64 (impl_areSmall.calls k3 _ _ (rd_L1 (rd_L2 ac ab) ag) (aa.length : Int) true _ (Kd.C_below ar.o HB.o) ap.o A28.o) ?_; rintro e w' ⟨rfl, ⟨nd, rfl⟩⟩; refine ⟨_, rfl, ?_⟩))
               go_roundg k3
               case measure => have := bD.o; have := bE.o; have := bF.o; omega
               case rel => exact ⟨(wrap64 (ag + 1)), (by rfl), H', ⟨by have := bD.o; have := bE.o; have := bF.o; omega⟩, ⟨by (with_reducible repeat (first | refine blk_drewN ?_ _ | refine blk_drew ?_ | refine blk_alloc ?_ _)); exact ae.o⟩, ⟨by repeat (first | (with_reducible first | exact HB.o | apply below_alloc | apply pw_below_drewN | apply below_drew1 | refine below_set ?_ ai.o) | exact HB.o)⟩⟩
              replace c29 := Bool.eq_false_iff.mpr c29; subst c29; rw [if_neg nf_] at H; obtain rfl := Option.some.inj H
              have aw : 0 ≤ (ag : Int) := oa_
              have ax : ag < ((rd_L2 ac ab).length : Int) := oa_
              obtain ⟨bw, bk, bm, bp, ak, ao, am⟩ := at_L1 aq.o ag aw ax
              cases bp
              replace ak := (HB.o.cell (World.block_lt_of_cell? w _ ak)).trans ak; have ar := A_ am; have ap := A_ ao; clear am ao; replace aw := eq_true aw; replace ax := eq_true ax
              go_wp2_with (first | ((with_reducible refine gc_ 29 rfl ?_); refine cM_ E29 64 (impl_areSmall.calls k3 _ _ (rd_L1 (rd_L2 ac ab) ag) (aa.length : Int) false _ (Kd.C_below ar.o HB.o) ap.o A28.o) ?_; rintro e w' ⟨rfl, ⟨nd, rfl⟩⟩; refine ⟨_, rfl, ?_⟩))
              go_ret
              exact ⟨by rfl, by repeat (first | (with_reducible first | exact HB.o | apply below_alloc | apply pw_below_drewN | apply below_drew1 | refine below_set ?_ ai.o) | exact HB.o)⟩
             rw [if_neg c27] at H
             cases H
            rw [if_neg c26] at H
            cases H
           rw [if_neg c25] at H; have bA := decide_eq_false c25; clear c25
           have H' := A_ H
           clear H
           go_wp2
           go_roundg k3
           case measure => have := bD.o; have := bE.o; have := bF.o; omega
           case rel => exact ⟨(wrap64 (ab + 1)), (by rfl), H', ⟨by have := bD.o; have := bE.o; have := bF.o; omega⟩, ⟨ae.o⟩, ⟨HB.o⟩⟩
        rw [if_neg c24] at H
        have a8 : (((rd_L2 ac ab).length : Int) == (aa.length : Int)) = false := beq_eq_false_iff_ne.mpr c24
        have a9 : (((rd_L2 ac ab).length : Int) != (aa.length : Int)) = true := bne_iff_ne.mpr c24
        have ba : ((rd_L2 ac ab).length == aa.length) = false := by first | simpa using c24 | (simp at c24 ⊢; omega)
        obtain rfl := Option.some.inj H
        have au : 0 ≤ (ab : Int) := oa_
        have av : ab < (ac.length : Int) := oa_
        obtain ⟨aX, bj, bl, bn, ah, an, al⟩ := at_L2 aV.o ab au av
        cases bn
        replace ah := (HB.o.cell (World.block_lt_of_cell? w _ ah)).trans ah; have aq := A_ al; have aQ := A_ an; clear al an; replace au := eq_true au; replace av := eq_true av
        go_wp2
        go_ret
        exact ⟨by rfl, HB.o⟩
       rw [if_neg c23] at H
       cases H
      rw [if_neg c22] at H
      cases H
     rw [if_neg c21] at H; have aY := decide_eq_false c21; clear c21; obtain rfl := Option.some.inj H
     go_wp2
     go_ret
     exact ⟨by rfl, HB.o⟩

end Go.Proofs.Ytlcepacbbfekoaa.PFnExactSumForms
