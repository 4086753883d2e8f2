/- Walks of the functions that the law reaches. -/
import Derived.Test.YtgmfjcckmapkbaaPFnExactCountingFormx0
namespace Go.Proofs.Ytgmfjcckmapkbaa.PFnExactCountingForm
open Go.RowKit Go.Proofs.YtgmfjcckmapkbaaW.PrintWords Go.Proofs.YtgmfjcckmapkbaaW.PrintLast Go.Proofs.YtgmfjcckmapkbaaW.PrintMore
attribute [local go_sem] max2_int min2_int max_two min_two max_three min_three max_four min_four
set_option linter.unusedVariables false
set_option maxHeartbeats 8000000
set_option maxRecDepth 100000
set_option linter.unusedSimpArgs false

mutual
def impl_reached.l0 : Nat → List (List Int) → List Bool → List Int → Int → Option (List Int)
 | 0, _, _, _, _ => none
 | k + 1, x0, x3, x4, x5 => if x5 < (x4.length : Int) then (if 0 ≤ x5 then (if 0 ≤ (rd x4 x5) then (if (rd x4 x5) < (x0.length : Int) then (impl_reached.l1 k x0 x3 x4 x5 (rd_L1 x0 (rd x4 x5)) ((rd_L1 x0 (rd x4 x5)).length : Int) 0) else (none)) else (none)) else (none)) else (some x4)
def impl_reached.l1 : Nat → List (List Int) → List Bool → List Int → Int → List Int → Int → Int → Option (List Int)
 | 0, _, _, _, _, _, _, _ => none
 | k + 1, x0, x3, x4, x5, aY, bM, aK => if aK < bM then (if 0 ≤ aK then (if aK < (aY.length : Int) then (if 0 ≤ (rd aY aK) then (if (rd aY aK) < (x3.length : Int) then (if (rdOf false x3 (rd aY aK) = true) then (impl_reached.l1 k x0 x3 x4 x5 aY bM (wrap64 (aK + 1))) else (if x4.length < 17592186044416 then (impl_reached.l1 k x0 (x3.set ((rd aY aK) : Int).toNat true) (x4 ++ [rd aY aK]) x5 aY bM (wrap64 (aK + 1))) else (none))) else (none)) else (none)) else (none)) else (none)) else (impl_reached.l0 k x0 x3 x4 (wrap64 (x5 + 1)))
end
def impl_reached.f (k : Nat) (l0 : List (List Int)) : Option (List Int) := if 0 ≤ (l0.length : Int) then (if ((l0.length : Int) : Int).toNat ≤ 281474976710656 then ((some (List.replicate ((l0.length : Int) : Int).toNat false : List Bool)).bind fun an => (if 0 < (an.length : Int) then (impl_reached.l0 k l0 (an.set (0 : Int).toNat true) (([0] : List Int)) 0) else (none))) else (none)) else (none)
theorem impl_reached.calls (k : Nat) (A0 : Option Addr) (c0 : Nat) (l0 : List (List Int)) (r : List Int) (w : World) (hr0 : Kd.C (Kd.slice 3 (Kd.int .i64)) w A0 l0.length l0) (hc0 : l0.length ≤ c0) (h : impl_reached.f k l0 = some r) :
  Calls Try.prog 59 #[.slice A0 l0.length c0] w fun e w' => ∃ v0_ : Value, e = .returned (v0_) ∧ Kd.R (Kd.int .i64) 3 w' w.heap.size (fun _ => True) v0_ r ∧ Below w.heap.size w w' := by
 have HR0 := A_ hr0; have HC0 := A_ hc0; clear hr0 hc0; have HB := A_ (Below.refl w.heap.size w); unfold impl_reached.f at h; have H := h; clear h
 by_cases c2 : 0 ≤ (l0.length : Int)
 ·rw [if_pos c2] at H; have bw := eq_true c2; have bx := decide_eq_true c2; clear c2
  by_cases c3 : ((l0.length : Int) : Int).toNat ≤ 281474976710656
  ·rw [if_pos c3] at H; have bz := eq_true c3; have bA := decide_eq_true c3; clear c3; obtain ⟨an, aD⟩ := ex_ ((List.replicate ((l0.length : Int) : Int).toNat false) : List Bool); replace H : (if 0 < (an.length : Int) then (impl_reached.l0 k l0 (an.set (0 : Int).toNat true) (([0] : List Int)) 0) else (none)) = some r := by (have H2_ := (Option.bind_some _ _).symm.trans H; rw [aD]; with_reducible exact H2_)
   have bg := A_ aD; clear aD
   by_cases c4 : 0 < (an.length : Int)
   ·rw [if_pos c4] at H; have bC := decide_eq_true c4
    have bD : decide (0 < an.length) = true := decide_eq_true (by omega)
    clear c4; obtain ⟨aV, aE⟩ := ex_ ((an.set (0 : Int).toNat true) : List Bool); replace H : (impl_reached.l0 k l0 aV (([0] : List Int)) 0) = some r := by (rw [aE]; with_reducible exact H)
    have bh := A_ aE; clear aE; obtain ⟨br, aG⟩ := ex_ ((([0] : List Int)) : List Int); replace H : (impl_reached.l0 k l0 aV br 0) = some r := by (rw [aG]; with_reducible exact H)
    have bi := A_ aG; clear aG
    have H' := A_ H
    clear H; go_enter Try.func59, Try.ntmps59
    go_wp2_with (first | ((with_reducible refine gate_dst (N := 10) rfl ?_); refine Kd.R_make Kd.bool _ 4 rfl (N := 10) rfl 72 _ _ rfl (l0.length : Int) rfl rfl Try.underlying72 (.bool false) 1 info4 rfl (by decide) (by omega) false (ok := fun _ => True) (okp := fun _ => True) rfl (fun _ hk => hk) trivial oa_ (Nat.le_trans (Nat.mul_le_mul_right _ (oa_ : (l0.length : Int).toNat ≤ 281474976710656)) (by omega)) (Below.refl _ _) (Nat.le_refl _) ?_; rintro b0 w6 ho7 hb - -; (rw [← bg.o] at ho7); have aj := A_ (Kd.R_lower ho7 (below_size HB.o)); replace HB := bs_ HB hb; clear hb ho7; have p5 : 0 ≤ (0 : Int) := (by omega); have q5 : (0 : Int) < ((an.length : Int) : Int) := oa_; have qi5 : (0 < an.length) = True := eq_true (by omega); obtain ⟨aA, bq, bT, bU, gl5, cl5, HG5⟩ := Kd.R_form aj.o (by omega); (first | cases bT | (injection bT with ea_ en_ ec_; (first | subst ea_ | (injection ea_ with ea_; subst ea_)); subst ec_; clear en_)); have GB5 := A_ bU; have GG5 := A_ HG5; clear bU gl5 HG5; obtain ⟨aC, aX⟩ := Kd.R_celln false aj.o (0 : Int) p5 q5; (try rw [show ((0 : Int)).toNat = 0 from rfl] at aC); (try simp only [Nat.reduceMul, Nat.zero_mul, Nat.zero_add, Nat.reduceAdd] at aC); (try rw [show ((0 : Int)).toNat = 0 from rfl] at aX); (try simp only [Nat.reduceMul, Nat.zero_mul, Nat.zero_add, Nat.reduceAdd] at aX); replace p5 := eq_true p5; replace q5 := eq_true q5; obtain ⟨hy8_, hz8_⟩ := Kd.R_celln false aj.o (0 : Int) (by omega) oa_; (try simp only [Int.reduceToNat, Int.toNat_zero, Int.toNat_ofNat, Nat.reduceMul, Nat.zero_mul, Nat.zero_add] at hy8_ hz8_); (try rw [show ((0 : Int)).toNat = 0 from rfl] at hy8_); (try rw [show ((0 : Int)).toNat = 0 from rfl] at hz8_); have bv := Kd.R_putg aj.o (0 : Int) true) | ((with_reducible refine gate_store (t := 4) (p := 12) rfl ?_); refine store_event (t := 4) (p := 12) (v := ?vo_w9) (w1 := (w6.setCell ⟨aA, (0 : Int).toNat, none⟩ (.bool true))) ?hg ?ho ?hn ?hr ?_; (case ho => rfl); (case hg => rfl); (case hn => rfl); (case hr => first | (go_simp; done) | (go_simp; rfl) | (obtain ⟨_, _, rfl⟩ := Kd.R_slice aj.o; go_simp; first | done | rfl) | (obtain ⟨_, _, rfl⟩ := Kd.R_slice (Kd.S_R aj.o); go_simp; first | done | rfl)); intro w9 hw; have hg : w6.grownBy w9 (some aA) := (by rw [hw]; exact bv.2); have hp_ : Kd.R Kd.bool 4 w9 w.heap.size (fun _ => True) (.slice (some ⟨aA, 0, none⟩) an.length bq) aV := (by rw [hw, bh.o]; exact bv.1); clear bv; replace aj := A_ (hp_); replace HB := A_ ((by rw [hw]; exact below_set (HB.o) GB5.o : Below w.heap.size w w9)); clear hg hw hp_) | ((with_reducible refine gd_ 13 rfl ?_); refine RL_ 13 3 [0] [.int .i64 0] rfl rfl (by go_simp; done) rfl rfl ?_; rintro b1 w10 ba hb - -; (rw [← bi.o] at ba); replace aj := A_ (Kd.R_below aj.o hb); have bd := A_ (Kd.R_lower ba (below_size HB.o)); replace HB := bs_ HB hb; clear hb ba))
    go_loopg [4, 5] k (fun kq v4 v5 w' => ∃ (aJ : List Bool) (ac : List Int) (ab : Int), v5 = .int .i64 ab ∧ Aside0 (impl_reached.l0 kq l0 aJ ac ab = some r) ∧ Aside0 (kq ≤ k) ∧ Aside0 (Kd.R Kd.bool 4 w' w.heap.size (fun _ => True) (.slice (some ⟨aA, 0, none⟩) an.length bq) aJ) ∧ Aside0 (Kd.R (Kd.int .i64) 3 w' w.heap.size (fun _ => True) v4 ac) ∧ Aside0 (Below w.heap.size w w'))
    case atStart => exact ⟨(aV), (br), (0), (by rfl), H', ⟨Nat.le_refl _⟩, ⟨aj.o⟩, ⟨bd.o⟩, ⟨HB.o⟩⟩
    case round =>
     clear H'
     clear bw bx bz bA bC bD p5 q5 qi5 aC
     obtain ⟨aJ, ac, ab, rfl, HA, bb, ai, ak, HB⟩ := hrel; have af := (Kd.R_reads' ai.o).1; rw [af] at ai
     (try simp only [af])
     (try simp only [af] at ak)
     cases gk with
     | zero => exact nz_ HA.o
     | succ k1 =>
      have H := HA.o; clear HA; simp only [impl_reached.l0] at H
      by_cases c12 : ab < (ac.length : Int)
      ·rw [if_pos c12] at H; have az := decide_eq_true c12; clear c12
       by_cases c13 : 0 ≤ ab
       ·rw [if_pos c13] at H; have bm := decide_eq_true c13; clear c13
        by_cases c14 : 0 ≤ (rd ac ab)
        ·rw [if_pos c14] at H; have bn := decide_eq_true c14; clear c14
         by_cases c15 : (rd ac ab) < (l0.length : Int)
         ·rw [if_pos c15] at H; have bo := decide_eq_true c15; clear c15
          have H' := A_ H
          clear H; obtain ⟨bV, bX, bG⟩ := Kd.R_slice ak.o; subst bG
          have aN : 0 ≤ (ab : Int) := oa_
          have aT : ab < (ac.length : Int) := oa_
          obtain ⟨bN, bE, aM⟩ := Kd.at_int (Kd.R_reads' ak.o).2.2 ab aN aT
          cases bE
          replace aN := eq_true aN; replace aT := eq_true aT
          have aQ : 0 ≤ ((rd ac ab) : Int) := oa_
          have aU : (rd ac ab) < (l0.length : Int) := oa_
          obtain ⟨bO, bu, bB, bF, ao, ax, aw⟩ := at_L1 HR0.o (rd ac ab) aQ aU
          cases bF
          replace ao := (HB.o.cell (World.block_lt_of_cell? w _ ao)).trans ao; have av := A_ aw; have bt := A_ ax; clear aw ax; replace aQ := eq_true aQ; replace aU := eq_true aU
          go_wp2
          go_loopg [4, 28] k1 (fun kq v4 bZ w' => ∃ (al : List Bool) (am : List Int) (aa : Int), bZ = .int .i64 aa ∧ Aside0 (impl_reached.l1 kq l0 al am ab (rd_L1 l0 (rd ac ab)) ((rd_L1 l0 (rd ac ab)).length : Int) aa = some r) ∧ Aside0 (kq ≤ k1) ∧ Aside0 (Kd.R Kd.bool 4 w' w.heap.size (fun _ => True) (.slice (some ⟨aA, 0, none⟩) aJ.length bq) al) ∧ Aside0 (Kd.R (Kd.int .i64) 3 w' w.heap.size (fun _ => True) v4 am) ∧ Aside0 (Below w.heap.size w w'))
          case atStart => exact ⟨(aJ), (ac), (0), (by rfl), H', ⟨Nat.le_refl _⟩, ⟨by (try simp only [af]); exact ai.o⟩, ⟨by (try simp only [af]); exact ak.o⟩, ⟨HB.o⟩⟩
          case round =>
           clear H'
           clear az bm bn bo aM ao aN aQ aT aU
           obtain ⟨al, am, aa, rfl, HA, bc, ai, ak, HB⟩ := hrel; have ah := (Kd.R_reads' ai.o).1; rw [ah] at ai
           (try simp only [ah])
           (try simp only [ah] at ak)
           cases gk with
           | zero => exact nz_ HA.o
           | succ k2 =>
            have H := HA.o; clear HA; simp only [impl_reached.l1] at H
            by_cases c17 : aa < ((rd_L1 l0 (rd ac ab)).length : Int)
            ·rw [if_pos c17] at H; have bp := decide_eq_true c17; clear c17
             by_cases c18 : 0 ≤ aa
             ·rw [if_pos c18] at H; have bP := decide_eq_true c18; clear c18
              by_cases c19 : aa < ((rd_L1 l0 (rd ac ab)).length : Int)
              ·rw [if_pos c19] at H; have bQ := decide_eq_true c19; clear c19
               by_cases c20 : 0 ≤ (rd (rd_L1 l0 (rd ac ab)) aa)
               ·rw [if_pos c20] at H; have bR := decide_eq_true c20; clear c20
                by_cases c21 : (rd (rd_L1 l0 (rd ac ab)) aa) < (al.length : Int)
                ·rw [if_pos c21] at H; have bS := decide_eq_true c21; clear c21; obtain ⟨bq22, hbq22⟩ : ∃ b_ : Bool, b_ = (rdOf false al (rd (rd_L1 l0 (rd ac ab)) aa)) := ⟨_, rfl⟩; replace H : (if (bq22 = true) then (impl_reached.l1 k2 l0 al am ab (rd_L1 l0 (rd ac ab)) ((rd_L1 l0 (rd ac ab)).length : Int) (wrap64 (aa + 1))) else (if am.length < 17592186044416 then (impl_reached.l1 k2 l0 (al.set ((rd (rd_L1 l0 (rd ac ab)) aa) : Int).toNat true) (am ++ [rd (rd_L1 l0 (rd ac ab)) aa]) ab (rd_L1 l0 (rd ac ab)) ((rd_L1 l0 (rd ac ab)).length : Int) (wrap64 (aa + 1))) else (none))) = some r := by rw [← hbq22] at H; exact H
                 have Nbq22 := A_ hbq22; clear hbq22
                 by_cases c23 : (bq22 = true)
                 ·subst c23; rw [if_pos rfl] at H
                  have H' := A_ H
                  clear H
                  have ap : 0 ≤ (aa : Int) := oa_
                  have ar : aa < ((rd_L1 l0 (rd ac ab)).length : Int) := oa_
                  obtain ⟨bl, a8, ag⟩ := Kd.at_int av.o aa ap ar
                  cases a8
                  replace ag := (HB.o.cell (World.block_lt_of_cell? w _ ag)).trans ag; replace ap := eq_true ap; replace ar := eq_true ar
                  have aq : 0 ≤ ((rd (rd_L1 l0 (rd ac ab)) aa) : Int) := oa_
                  have au : (rd (rd_L1 l0 (rd ac ab)) aa) < (al.length : Int) := oa_
                  obtain ⟨ay, a9, ae⟩ := Kd.at_bool (Kd.R_reads' ai.o).2.2 (rd (rd_L1 l0 (rd ac ab)) aa) aq au
                  (try rw [← Nbq22.o] at ae)
                  obtain rfl : (⟨aA, 0, none⟩ : Addr) = ay := (by injection a9)
                  (first | simp only [add_plain] at ae | simp only [add_at] at ae | simp only [Addr.add, Nat.zero_add] at ae | skip)
                  replace aq := eq_true aq; replace au := eq_true au
                  go_wp2
                  (try simp only [← ah])
                  go_roundg k2
                  case measure => have := bb.o; have := bc.o; omega
                  case rel => exact ⟨(al), (am), (wrap64 (aa + 1)), (by rfl), H', ⟨by have := bb.o; have := bc.o; omega⟩, ⟨by (try simp only [af]); (try simp only [ah]); exact ai.o⟩, ⟨by (try simp only [af]); (try simp only [ah]); exact ak.o⟩, ⟨HB.o⟩⟩
                 replace c23 := Bool.eq_false_iff.mpr c23; subst c23; rw [if_neg nf_] at H; obtain ⟨aW, aH⟩ := ex_ ((al.set ((rd (rd_L1 l0 (rd ac ab)) aa) : Int).toNat true) : List Bool); replace H : (if am.length < 17592186044416 then (impl_reached.l1 k2 l0 aW (am ++ [rd (rd_L1 l0 (rd ac ab)) aa]) ab (rd_L1 l0 (rd ac ab)) ((rd_L1 l0 (rd ac ab)).length : Int) (wrap64 (aa + 1))) else (none)) = some r := by (rw [aH]; with_reducible exact H)
                 have bj := A_ aH; clear aH
                 by_cases c25 : am.length < 17592186044416
                 ·rw [if_pos c25] at H; have bf := A_ c25; clear c25; obtain ⟨bs, aI⟩ := ex_ ((am ++ [rd (rd_L1 l0 (rd ac ab)) aa]) : List Int); replace H : (impl_reached.l1 k2 l0 aW bs ab (rd_L1 l0 (rd ac ab)) ((rd_L1 l0 (rd ac ab)).length : Int) (wrap64 (aa + 1))) = some r := by (rw [aI]; with_reducible exact H)
                  have bk := A_ aI; clear aI
                  have H' := A_ H
                  clear H
                  have ap : 0 ≤ (aa : Int) := oa_
                  have ar : aa < ((rd_L1 l0 (rd ac ab)).length : Int) := oa_
                  obtain ⟨bl, a8, ag⟩ := Kd.at_int av.o aa ap ar
                  cases a8
                  replace ag := (HB.o.cell (World.block_lt_of_cell? w _ ag)).trans ag; replace ap := eq_true ap; replace ar := eq_true ar
                  have aq : 0 ≤ ((rd (rd_L1 l0 (rd ac ab)) aa) : Int) := oa_
                  have au : (rd (rd_L1 l0 (rd ac ab)) aa) < (al.length : Int) := oa_
                  obtain ⟨ay, a9, ae⟩ := Kd.at_bool (Kd.R_reads' ai.o).2.2 (rd (rd_L1 l0 (rd ac ab)) aa) aq au
                  (try rw [← Nbq22.o] at ae)
                  obtain rfl : (⟨aA, 0, none⟩ : Addr) = ay := (by injection a9)
                  (first | simp only [add_plain] at ae | simp only [add_at] at ae | simp only [Addr.add, Nat.zero_add] at ae | skip)
                  replace aq := eq_true aq; replace au := eq_true au
                  have bK : 0 ≤ ((rd (rd_L1 l0 (rd ac ab)) aa) : Int) := oa_
                  have bL : ((rd (rd_L1 l0 (rd ac ab)) aa) : Int) < ((al.length : Int) : Int) := oa_
                  obtain ⟨bJ, bI⟩ := Kd.R_celln false ai.o ((rd (rd_L1 l0 (rd ac ab)) aa) : Int) bK bL; replace bK := eq_true bK; replace bL := eq_true bL; have aZ := Kd.R_putg ai.o ((rd (rd_L1 l0 (rd ac ab)) aa) : Int) true
                  go_wp2_with (first | ((with_reducible refine gate_store (t := 4) (p := 39) rfl ?_); refine store_event (t := 4) (p := 39) (w1 := (wr.setCell ⟨aA, ((rd (rd_L1 l0 (rd ac ab)) aa) : Int).toNat, none⟩ (.bool true))) rfl rfl rfl (by go_simp; done) ?_; intro w27 hw; have hg : wr.grownBy w27 (some aA) := (by rw [hw]; exact aZ.2); have hp_ : Kd.R Kd.bool 4 w27 w.heap.size (fun _ => True) (.slice (some ⟨aA, 0, none⟩) al.length bq) aW := (by rw [hw, bj.o]; exact aZ.1); clear aZ; replace ak := A_ (Kd.R_over' (v := (.slice (some ⟨aA, 0, none⟩) al.length bq)) ak.o (Kd.R_typed ai.o) (by decide) hg); replace ai := A_ (hp_); replace HB := A_ ((by rw [hw]; exact below_set (HB.o) GB5.o : Below w.heap.size w w27)); clear hg hw hp_) | ((with_reducible refine gate_builtin (b := .append) (xs := #[.tmp 40, .tmp 42]) rfl ?_); at_builtin; refine Kd.R_append (Kd.int .i64) (w0 := w) w.heap.size rfl (.tmp 40) (.tmp 42) 23 3 (.int .i64 0) 8 rfl Try.underlying23 info3 rfl (by decide) (by omega) u4 am (rd (rd_L1 l0 (rd ac ab)) aa) [.int .i64 (rd (rd_L1 l0 (rd ac ab)) aa)] (fun _ => True) (fun _ => False) rfl rfl ?aP (fun _ hk => hk.elim) ?aF ?aO ?aB ?aS ?aL ?_; (case aP => exact rfl); (case aB => exact HB.o); (case aF => exact (fun _ _ => trivial)); (case aO => exact ak.o); (case aS => exact (below_size HB.o)); (case aL => have := bf.o; omega); intro b2 w28 ho hb hg hat; rw [← bk.o] at ho; replace ai := A_ (Kd.R_over' ai.o (Kd.R_typed ak.o) (by decide) hg); replace HB := A_ (hb); have be := A_ (ho); clear ak; clear ho hb hg hat))
                  (try simp only [← ah])
                  go_roundg k2
                  case measure => have := bb.o; have := bc.o; omega
                  case rel => exact ⟨(aW), (bs), (wrap64 (aa + 1)), (by rfl), H', ⟨by have := bb.o; have := bc.o; omega⟩, ⟨by (try simp only [af]); (try simp only [ah]); exact ai.o⟩, ⟨by (try simp only [af]); (try simp only [ah]); exact be.o⟩, ⟨HB.o⟩⟩
                 rw [if_neg c25] at H
                 cases H
                rw [if_neg c21] at H
                cases H
               rw [if_neg c20] at H
               cases H
              rw [if_neg c19] at H
              cases H
             rw [if_neg c18] at H
             cases H
            rw [if_neg c17] at H; have bp := decide_eq_false c17; clear c17
            have H' := A_ H
            clear H
            go_wp2
            (try simp only [← af, ← ah])
            go_roundg k2
            case measure => have := bb.o; have := bc.o; omega
            case rel => exact ⟨(al), (am), (wrap64 (ab + 1)), (by rfl), H', ⟨by have := bb.o; have := bc.o; omega⟩, ⟨by (try simp only [af]); (try simp only [ah]); exact ai.o⟩, ⟨by (try simp only [af]); (try simp only [ah]); exact ak.o⟩, ⟨HB.o⟩⟩
         rw [if_neg c15] at H
         cases H
        rw [if_neg c14] at H
        cases H
       rw [if_neg c13] at H
       cases H
      rw [if_neg c12] at H; have az := decide_eq_false c12; have c12b0z := az
      (try rw [af] at c12b0z)
      clear c12; obtain rfl := Option.some.inj H; obtain ⟨bW, bY, bH⟩ := Kd.R_slice ak.o; subst bH
      go_wp2
      go_ret
      exact ⟨_, by rfl, ak.o, HB.o⟩
   rw [if_neg c4] at H
   cases H
  rw [if_neg c3] at H
  cases H
 rw [if_neg c2] at H
 cases H

end Go.Proofs.Ytgmfjcckmapkbaa.PFnExactCountingForm

