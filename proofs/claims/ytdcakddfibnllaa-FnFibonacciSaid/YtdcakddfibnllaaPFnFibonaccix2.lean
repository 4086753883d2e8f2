/- Written by this session's own program (wip/myprint.py): the machine side of one law, some contracts of it typed by hand. -/
import Derived.Test.YtdcakddfibnllaaPFnFibonaccix0
namespace Go.Proofs.Ytdcakddfibnllaa.PFnFibonacci
open Go.RowKit Go.Proofs.YtdcakddfibnllaaW.PrintWords Go.Proofs.YtdcakddfibnllaaW.PrintLast Go.Proofs.YtdcakddfibnllaaW.PrintMore
attribute [local go_sem] max2_int min2_int max_two min_two max_three min_three max_four min_four   -- for this text's walks alone
set_option linter.unusedVariables false
set_option maxHeartbeats 8000000
set_option maxRecDepth 100000
set_option linter.unusedSimpArgs false

/-! ### impl_fibonacci: function 67 -/
def fibL : List Int := [1, 2, 3, 5, 8, 13, 21, 34, 55, 89, 144, 233, 377, 610, 987, 1597, 2584, 4181, 6765, 10946, 17711, 28657, 46368, 75025, 121393, 196418, 317811, 514229, 832040, 1346269, 2178309, 3524578, 5702887, 9227465, 14930352, 24157817, 39088169, 63245986, 102334155, 165580141, 267914296]
def fibK (k : Nat) : Array Value := ((fibL.take k ++ List.replicate (41 - k) 0).map (Value.int .i64)).toArray
def impl_fibonacci.l0 : Nat → List Int → Int → Option (List Int)
 | 0, _, _ => none
 | k + 1, x1, x2 => if x2 ≤ 40 then (if 0 ≤ (wrap64 (x2 - 1)) then (if (wrap64 (x2 - 1)) < (x1.length : Int) then (if 0 ≤ (wrap64 (x2 - 2)) then (if (wrap64 (x2 - 2)) < (x1.length : Int) then (if 0 ≤ x2 then (if x2 < (x1.length : Int) then (impl_fibonacci.l0 k (x1.set (x2 : Int).toNat (wrap64 ((rd x1 (wrap64 (x2 - 1))) + (rd x1 (wrap64 (x2 - 2)))))) (wrap64 (x2 + 1))) else (none)) else (none)) else (none)) else (none)) else (none)) else (none)) else (some x1)
def impl_fibonacci.f (k : Nat)  : Option (List Int) := impl_fibonacci.l0 k (([1, 2, 0, 0, 0, 0, 0, 0, 0, 0, 0, 0, 0, 0, 0, 0, 0, 0, 0, 0, 0, 0, 0, 0, 0, 0, 0, 0, 0, 0, 0, 0, 0, 0, 0, 0, 0, 0, 0, 0, 0] : List Int)) 2
theorem impl_fibonacci.mono_l : ∀ k, (∀ y0 y1, LeO (impl_fibonacci.l0 k y0 y1) (impl_fibonacci.l0 (k + 1) y0 y1))
 | 0 => fun _ _ r h => by simp [impl_fibonacci.l0] at h
 | k + 1 => by
  have ih0 := impl_fibonacci.mono_l k
  ·intro y0 y1
   unfold impl_fibonacci.l0
   with_reducible repeat' first | exact ih0 _ _ | exact LeO.refl _ | exact LeO.none _ | refine LeO.ite ?_ ?_ | refine LeO.bind ?_ (fun _ => ?_)
theorem impl_fibonacci.mono : ∀ k, LeO (impl_fibonacci.f k ) (impl_fibonacci.f (k + 1) ) := by
 intro  k
 have ih0 := impl_fibonacci.mono_l k
 unfold impl_fibonacci.f
 with_reducible repeat' first | exact ih0 _ _ | exact LeO.refl _ | exact LeO.none _ | refine LeO.ite ?_ ?_ | refine LeO.bind ?_ (fun _ => ?_)
def impl_fibonacci.T5 : Bool × List (List Nat × List Nat) := (true, [([], []), ([], []), ([1], [1]), ([2], [2]), ([3], [3]), ([], []), ([5], [5]), ([6], [6]), ([7], [7]), ([4, 8], [4, 8]), ([0, 0, 1, 2, 3, 4, 5, 6, 7, 8, 9], [0]), ([10, 9, 0, 1, 2, 3, 4, 5, 6, 7, 8, 9], [9, 10])])
def impl_fibonacci.B5 : List Nat := [0, 0, 2, 6, 14, 0, 32, 96, 224, 510, 1023, 2047]
theorem impl_fibonacci.tab5 : rtab .any (opsOf Try.f67 5) = impl_fibonacci.T5 := by kernel_rfl
theorem impl_fibonacci.bits5 : waitsOk impl_fibonacci.T5.2 impl_fibonacci.B5 = true := by kernel_rfl
theorem hand_reps {w : World} {base : Nat} {ok : Nat → Prop} {l : List Int} {cs : List Value} (h : Reps ((Kd.int .i64).M w base ok) 1 l cs) : cs = l.map (Value.int .i64) := by
 obtain ⟨hl, hp⟩ := h
 apply List.ext_getElem (by simpa using hl)
 intro j h1 h2
 have hj : j < l.length := by simpa using h2
 have h3 := hp j l[j] (List.getElem?_eq_getElem hj)
 have h4 : (cs.drop (j * 1)).take 1 = [Value.int .i64 l[j]] := h3
 have h5 := congrArg (fun z => z[0]?) h4
 simp only [Nat.mul_one, List.getElem?_take, List.getElem?_drop] at h5
 simp [List.getElem?_eq_getElem h1] at h5
 simpa using h5
theorem hand_made {w : World} {base : Nat} {ok : Nat → Prop} (l : List Int) : Reps ((Kd.int .i64).M w base ok) 1 l (l.map (Value.int .i64)) := by
 refine ⟨by simp, fun j p hp => ?_⟩
 show ((l.map (Value.int .i64)).drop (j * 1)).take 1 = [Value.int .i64 p]
 obtain ⟨hj, rfl⟩ := List.getElem?_eq_some_iff.1 hp
 apply List.ext_getElem?
 intro i
 cases i with
 | zero => simp [List.getElem?_eq_getElem hj]
 | succ i => simp; omega
theorem hand_row {w : World} {e base : Nat} {ok : Nat → Prop} {v : Value} {l : List Int} (hk : ∀ k, v.ownBlock = some k → ok k) (h : w.ownsRow base e 1 v l.length (l.map (Value.int .i64))) : Kd.R (Kd.int .i64) e w base ok v l := ⟨hk, _, h, hand_made l⟩
theorem hand_own {w : World} {e base : Nat} {ok : Nat → Prop} {v : Value} {l : List Int} (h : Kd.R (Kd.int .i64) e w base ok v l) : w.ownsRow base e 1 v l.length (l.map (Value.int .i64)) := by
 obtain ⟨_, cs, ho, hr⟩ := h
 rw [hand_reps hr] at ho
 exact ho
section
variable {P : Program} {ops : Array Oper} {rest : List Oper} {o : Oper} {a : Act} {Q : Exit → Act → World → Prop}
theorem val_event {W : World} (hgd : o.guard = none) {N : Tmp} (_hd : o.dst = some N) (v : Value)
  (hrun : (execOp a.eval o).run P W = .ok (.value v) W) (h : wpList P ops Q rest (a.put o.dst v) W) : wpList P ops Q (o :: rest) a W := Kd.event_run hgd hrun h
theorem index_event {W : World} (hgd : o.guard = none) {N : Tmp} (hd : o.dst = some N) {t : TypeId} {x i : Operand} (ho : o.op = .index t x i) {vx vi v : Value} (hx : a.eval x = vx) (hi : a.eval i = vi)
  (hr : (Instr.index t vx vi).run P W = .ok v W) (h : wpList P ops Q rest (a.put o.dst v) W) : wpList P ops Q (o :: rest) a W := by
 refine val_event hgd hd v ?_ h
 unfold execOp
 simp only [ho, hx, hi, Sem.run_bind, hr, Result.andThen_ok, Sem.run_pure]
theorem store_row_event {W : World} (hgd : o.guard = none) {ty : TypeId} {p : Tmp} {v : Operand} (ho : o.op = .store ty (.tmp p) v) (hN : o.dst = none) (g : Nat) (cs : Array Value) (hx : a.eval (.tmp p) = .pointer (some ⟨g, 0, none⟩)) (hv : a.eval v = .agg cs)
  {t : TypeId} {old : Array Value} (hg : W.heap[g]? = some (.cells old t (0, 0))) (hi : (P.info? ty).map (·.size) = some cs.size) (hsz : old.size = cs.size) (h1 : cs.all (·.oneCell') = true)
  (h : ∀ w', w' = W.setRow g cs → wpList P ops Q rest a w') : wpList P ops Q (o :: rest) a W := by
 refine store_event (w1 := W.setRow g cs) hgd ho hN ?_ h
 unfold execOp
 simp only [ho, hx, hv, Instr.storeAt, Instr.sureAddr, Sem.run_bind, Sem.run_pure, Result.andThen_ok, run_storeVar_row W g t ty old cs hg hi hsz h1]
end
theorem fibK_size (k : Nat) (hk : k ≤ 41) : (fibK k).size = 41 := by
 have : fibL.length = 41 := rfl
 simp [fibK, List.length_take]; omega
theorem fibK_one (k : Nat) : (fibK k).all (·.oneCell') = true := by
 rw [Array.all_eq_true_iff_forall_mem]
 intro v hv
 simp only [fibK, List.mem_toArray, List.mem_map] at hv
 obtain ⟨x, _, rfl⟩ := hv
 rfl
theorem fib_get (k j : Nat) (hj : j < 41) : (fibK k)[j]? = some (.int .i64 (if j < k then fibL.getD j 0 else 0)) := by
 have hl : fibL.length = 41 := rfl
 simp only [fibK, List.getElem?_toArray, List.getElem?_map]
 by_cases h : j < k
 ·rw [List.getElem?_append_left (by simp; omega), List.getElem?_take_of_lt h, if_pos h]
  simp [List.getD_eq_getElem?_getD, List.getElem?_eq_getElem (show j < fibL.length by omega)]
 rw [List.getElem?_append_right (by simp; omega), List.getElem?_replicate, if_neg h, if_pos (by simp; omega)]
 rfl
theorem fib_cell {w : World} {g k : Nat} (h : w.heap[g]? = some (.cells (fibK k) 56 (0, 0))) (j : Nat) (hj : j < 41) : w.cell? ⟨g, j, none⟩ = some (.int .i64 (if j < k then fibL.getD j 0 else 0)) := by
 rw [cell_of_row w g j _ _ _ h, fib_get k j hj]
theorem fib_info (k : Nat) (hk : k ≤ 41) : (Try.prog.info? 56).map (·.size) = some (fibK k).size := by rw [fibK_size k hk]; kernel_rfl
theorem fib_info2 : (Try.prog.info? 56).map (·.size) = some (fibK 2).size := fib_info 2 (by omega)
theorem fib_same : (fibK 0).size = (fibK 2).size := by rw [fibK_size 2 (by omega), fibK_size 0 (by omega)]
theorem fib_row {w : World} {g base : Nat} {l : List Int} {cs : Array Value} (h : w.heap[g]? = some (.cells cs 56 (0, 0))) (hb : base ≤ g) (hc : cs = (l.map (Value.int .i64)).toArray) (hl : l.length = 41) : Kd.R (Kd.int .i64) 56 w base (fun _ => True) (.slice (some ⟨g, 0, none⟩) l.length 41) l :=
 hand_row (fun _ _ => trivial) ⟨by simp, .inr ⟨g, 41, cs, rfl, hb, h, by omega, by simp [maxLen], by rw [hc]; simp [hl], by rw [hc]; simp [List.take_of_length_le]⟩⟩
theorem fib_unrow {w : World} {g base : Nat} {l : List Int} (h : Kd.R (Kd.int .i64) 56 w base (fun _ => True) (.slice (some ⟨g, 0, none⟩) l.length 41) l) (hl : l.length = 41) : w.heap[g]? = some (.cells (l.map (Value.int .i64)).toArray 56 (0, 0)) := by
 rcases (hand_own h).2 with ⟨h0, _⟩ | ⟨g2, cap, cur, hv, hg, hh, hn, hcap, hsz, htake⟩
 ·cases h0
 cases hv
 rw [hh]
 have : cur.toList = l.map (Value.int .i64) := by
  rw [← htake, List.take_of_length_le (by simp; omega)]
 rw [← this]
theorem impl_fibonacci.calls (k : Nat) (r : List Int) (w : World) (h : impl_fibonacci.f k = some r) :
  Calls Try.prog 67 #[] w fun e w' => e = .returned (.agg (r.map (Value.int .i64)).toArray) ∧ r.length = 41 ∧ Below w.heap.size w w' := by
 unfold impl_fibonacci.f at h
 have H := h
 clear h
 obtain ⟨y119, hy119⟩ : ∃ y_ : List Int, y_ = ([1, 2, 0, 0, 0, 0, 0, 0, 0, 0, 0, 0, 0, 0, 0, 0, 0, 0, 0, 0, 0, 0, 0, 0, 0, 0, 0, 0, 0, 0, 0, 0, 0, 0, 0, 0, 0, 0, 0, 0, 0] : List Int) := ⟨_, rfl⟩
 rw [← hy119] at H
 have hyl : y119.length = 41 := by rw [hy119]; rfl
 have hyc : fibK 2 = (y119.map (Value.int .i64)).toArray := by rw [hy119]; rfl
 have Ny := A_ hyl
 have Nc := A_ hyc
 clear hy119 hyl hyc
 have H' := A_ H
 clear H
 have HB := A_ (Below.refl w.heap.size w)
 go_enter Try.func67, Try.ntmps67
 go_wp2_with (first
  | ((with_reducible refine gate_dst (N := 0) rfl ?_); refine box_event ?hg (N := 0) ?hd (cs := fibK 0) (t := 56) ?hr ?_; (case hd | hg => rfl); (case hr => go_simp; rfl); intro g0 hg0 w1 hbox0 hb0; have n0_ := A_ (below_step HB.out hb0); have G0 := A_ (show w.heap.size ≤ g0 by rw [hg0]; exact below_size HB.out); have BK0 := A_ hbox0; clear HB; revert n0_; intro HB; clear hb0 hbox0 hg0)
  | ((with_reducible refine gate_dst (N := 3) rfl ?_); refine val_event ?hg (N := 3) ?hd (.agg (fibK 2)) ?hr ?_; (case hd | hg => rfl); (case hr => go_simp; rfl))
  | ((with_reducible refine gate_dst (N := 1) rfl ?_); refine box_event ?hg (N := 1) ?hd (cs := fibK 0) (t := 56) ?hr ?_; (case hd | hg => rfl); (case hr => go_simp; rfl); intro g1 hg1 w2 hbox1 hb1; have n1_ := A_ (below_step HB.out hb1); have G1 := A_ (show w.heap.size ≤ g1 by rw [hg1]; exact below_size HB.out); have n2_ := A_ (blk_below BK0.out hb1); have BK1 := A_ hbox1; have GN := A_ (show g0 ≠ g1 by have h_ := (Array.getElem?_eq_some_iff.1 BK0.out).1; rw [hg1]; first | omega | (simp; omega)); clear HB BK0; revert n1_ n2_; intro HB BK0; clear hb1 hbox1 hg1)
  | ((with_reducible refine gate_store (t := 56) (p := 1) rfl ?_); go_loud (have e1 := BK1.out); go_loud (have e2 := GN.out); go_loud (have e3 := BK0.out); go_loud (refine store_row_event (ty := 56) (p := 1) rfl rfl rfl g1 (fibK 2) rfl rfl e1 fib_info2 fib_same (fibK_one 2) ?_); intro w3 hw3; go_loud (have n1_ := A_ (show w3.heap[g1]? = some (.cells (fibK 2) 56 (0, 0)) by rw [hw3]; exact setRow_heap _ _ _ _ _ _ BK1.out)); go_loud (have n2_ := A_ (show w3.heap[g0]? = some (.cells (fibK 0) 56 (0, 0)) by rw [hw3, setRow_other _ _ _ _ GN.out]; exact BK0.out)); go_loud (have n3_ := A_ (show Below w.heap.size w w3 by rw [hw3]; exact below_setRow HB.out G1.out _)); clear HB BK0 BK1; revert n1_ n2_ n3_; intro BK1 BK0 HB; clear hw3))
 have HO1 := A_ (fib_row (w := _) BK1.out G1.out Nc.out Ny.out)
 go_loopg [2] k (fun kq v2 w' => ∃ (x1_1 : List Int) (x2_1 : Int), v2 = .int .i64 x2_1 ∧ Aside0 (impl_fibonacci.l0 kq x1_1 x2_1 = some r) ∧ Aside0 (kq ≤ k) ∧ Aside0 (x1_1.length = 41) ∧ Aside0 (Kd.R (Kd.int .i64) 56 w' w.heap.size (fun _ => True) (.slice (some ⟨g1, 0, none⟩) x1_1.length 41) x1_1) ∧ Aside0 (w'.heap[g0]? = some (.cells (fibK 0) 56 (0, 0))) ∧ Aside0 (Below w.heap.size w w'))
 case atStart => exact ⟨y119, 2, (by rfl), H', ⟨Nat.le_refl _⟩, Ny, ⟨HO1.out⟩, ⟨BK0.out⟩, ⟨HB.out⟩⟩
 case round =>
  clear H' BK0 BK1 HB HO1
  obtain ⟨x1_1, x2_1, rfl, HA, HK1, HLEN, HO_1, BK0, HB⟩ := hrel
  cases gk with
  | zero => exact absurd HA.out (by simp [impl_fibonacci.l0])
  | succ k1 =>
   have H := HA.out
   clear HA
   simp only [impl_fibonacci.l0] at H
   by_cases c3 : x2_1 ≤ 40
   ·rw [if_pos c3] at H
    have c3b0 : decide (x2_1 ≤ 40) = true := decide_eq_true c3
    clear c3
    obtain ⟨ji4, hji4⟩ : ∃ j_ : Int, (wrap64 (x2_1 - 1)) = j_ := ⟨_, rfl⟩
    replace H : (if 0 ≤ (ji4) then (if (ji4) < (x1_1.length : Int) then (if 0 ≤ (wrap64 (x2_1 - 2)) then (if (wrap64 (x2_1 - 2)) < (x1_1.length : Int) then (if 0 ≤ x2_1 then (if x2_1 < (x1_1.length : Int) then (impl_fibonacci.l0 k1 (x1_1.set (x2_1 : Int).toNat (wrap64 ((rd x1_1 (ji4)) + (rd x1_1 (wrap64 (x2_1 - 2)))))) (wrap64 (x2_1 + 1))) else (none)) else (none)) else (none)) else (none)) else (none)) else (none)) = some r := by first | (rw [hji4] at H; exact H) | (simp only [hji4] at H ⊢; exact H)
    have hji4w : (IntKind.i64.wrap (x2_1 - 1)) = ji4 := (i64_w _).trans hji4
    by_cases c5 : 0 ≤ (ji4)
    ·rw [if_pos c5] at H
     have c5b0 : decide (0 ≤ (ji4)) = true := decide_eq_true c5
     clear c5
     by_cases c6 : (ji4) < (x1_1.length : Int)
     ·rw [if_pos c6] at H
      have c6b0 : decide ((ji4) < (x1_1.length : Int)) = true := decide_eq_true c6
      clear c6
      obtain ⟨ji7, hji7⟩ : ∃ j_ : Int, (wrap64 (x2_1 - 2)) = j_ := ⟨_, rfl⟩
      replace H : (if 0 ≤ (ji7) then (if (ji7) < (x1_1.length : Int) then (if 0 ≤ x2_1 then (if x2_1 < (x1_1.length : Int) then (impl_fibonacci.l0 k1 (x1_1.set (x2_1 : Int).toNat (wrap64 ((rd x1_1 (ji4)) + (rd x1_1 (ji7))))) (wrap64 (x2_1 + 1))) else (none)) else (none)) else (none)) else (none)) = some r := by first | (rw [hji7] at H; exact H) | (simp only [hji7] at H ⊢; exact H)
      have hji7w : (IntKind.i64.wrap (x2_1 - 2)) = ji7 := (i64_w _).trans hji7
      by_cases c8 : 0 ≤ (ji7)
      ·rw [if_pos c8] at H
       have c8b0 : decide (0 ≤ (ji7)) = true := decide_eq_true c8
       clear c8
       by_cases c9 : (ji7) < (x1_1.length : Int)
       ·rw [if_pos c9] at H
        have c9b0 : decide ((ji7) < (x1_1.length : Int)) = true := decide_eq_true c9
        clear c9
        by_cases c10 : 0 ≤ x2_1
        ·rw [if_pos c10] at H
         have c10b0 : decide (0 ≤ x2_1) = true := decide_eq_true c10
         clear c10
         by_cases c11 : x2_1 < (x1_1.length : Int)
         ·rw [if_pos c11] at H
          have c11b0 : decide (x2_1 < (x1_1.length : Int)) = true := decide_eq_true c11
          clear c11
          obtain ⟨y124, hy124⟩ : ∃ y_ : List Int, y_ = (x1_1.set (x2_1 : Int).toNat (wrap64 ((rd x1_1 (ji4)) + (rd x1_1 (ji7))))) := ⟨_, rfl⟩
          replace H : (impl_fibonacci.l0 k1 y124 (wrap64 (x2_1 + 1))) = some r := by (rw [hy124]; with_reducible exact H)
          have Ny124 := A_ hy124
          clear hy124
          have H' := A_ H
          clear H
          try go_wp2
          have n0_ := A_ (Kd.R_drew HO_1.out)
          have n1_ := A_ (below_drew1 HB.out)
          have nB_ := A_ (blk_drew BK0.out)
          clear BK0
          have BK0 := nB_
          clear nB_
          clear HO_1
          clear HB
          have HO_1 := n0_
          have HB := n1_
          clear n0_ n1_
          have p122 : 0 ≤ ((ji4) : Int) := of_decide_eq_true (by first | (with_reducible assumption) | assumption)
          have q122 : (ji4) < (x1_1.length : Int) := of_decide_eq_true (by first | (with_reducible assumption) | assumption)
          have hlen41 := HLEN.out
          have b41_1 : (ji4 < 41) = True := eq_true (by have := of_decide_eq_true c6b0; omega)
          have b41_2 : (ji7 < 41) = True := eq_true (by have := of_decide_eq_true c9b0; omega)
          have b41_3 : (x2_1 < 41) = True := eq_true (by have := of_decide_eq_true c11b0; omega)
          obtain ⟨ad122, e122, hx122_0⟩ := Kd.at_int (Kd.R_reads' HO_1.out).2.2 (ji4) p122 q122
          cases e122
          replace p122 := eq_true p122
          replace q122 := eq_true q122
          have p123 : 0 ≤ ((ji7) : Int) := of_decide_eq_true (by first | (with_reducible assumption) | assumption)
          have q123 : (ji7) < (x1_1.length : Int) := of_decide_eq_true (by first | (with_reducible assumption) | assumption)
          obtain ⟨ad123, e123, hx123_0⟩ := Kd.at_int (Kd.R_reads' HO_1.out).2.2 (ji7) p123 q123
          cases e123
          replace p123 := eq_true p123
          replace q123 := eq_true q123
          have p12 : 0 ≤ (x2_1 : Int) := of_decide_eq_true (by first | (with_reducible assumption) | assumption)
          have q12 : (x2_1 : Int) < ((x1_1.length : Int) : Int) := of_decide_eq_true (by first | (with_reducible assumption) | assumption)
          obtain ⟨go12, co12, eo12, gb12, gl12, cl12, HG12⟩ := Kd.R_form HO_1.out (by omega)
          (first | cases eo12 | (injection eo12 with ea_ en_ ec_; (first | subst ea_ | (injection ea_ with ea_; subst ea_)); subst ec_; clear en_))
          have GB12 := A_ gb12
          have GG12 := A_ HG12
          clear gb12 gl12 HG12
          (first | simp only [add_plain] at hx122_0 | skip)
          (first | simp only [add_plain] at hx123_0 | skip)
          obtain ⟨hx12_0, hf12_0⟩ := Kd.R_celln 0 HO_1.out (x2_1 : Int) p12 q12
          replace p12 := eq_true p12
          replace q12 := eq_true q12
          have HP15 := Kd.R_putn HO_1.out (x2_1 : Int) (wrap64 ((rd x1_1 (ji4)) + (rd x1_1 (ji7))))
          rw [← Ny124.out] at HP15
          have HQ15 := A_ HP15
          clear HP15
          refine start_ (n := 12) (S := fun w' => w'.cell? ⟨g1, ((ji4)).toNat, none⟩ = some (.int .i64 (rd x1_1 (ji4))) ∧ w'.cell? ⟨g1, ((ji7)).toNat, none⟩ = some (.int .i64 (rd x1_1 (ji7)))) (ds := [11]) #[false, false, false, false, false, false, false, false, false, false, false, false] (by kernel_rfl) rfl rfl ⟨hx122_0, hx123_0⟩ (fun hHeld => ?_); refine with_tabW impl_fibonacci.tab5 impl_fibonacci.bits5 (fun HT_ HW_ => ?_)
          generalize wr.drew = w13 at HO_1 HB BK0 GG12 HQ15 hf12_0 hx122_0 hx123_0 hx12_0 hHeld ⊢
          refine pure_ (i := 0) (N := some 8) (v := ?_) (a' := ?_) #[true, false, false, false, false, false, false, false, false, false, false, false] rfl rfl (any_of HT_.out (by kernel_rfl)) (fun _ _ _ h => h) (Or.inl ⟨by rfl, ?_⟩) ?_ ?_
          rotate_left
          ·intro w'
           go_simp
           with_reducible rfl
          rotate_left
          ·simp only [Act.put, mD, mE, mF, i64_w, i32_w]
           rfl
          refine pure_ (i := 1) (N := some 9) (v := ?_) (a' := ?_) #[true, true, false, false, false, false, false, false, false, false, false, false] rfl rfl (any_of HT_.out (by kernel_rfl)) (fun _ _ _ h => h) (Or.inl ⟨by rfl, ?_⟩) ?_ ?_
          rotate_left
          ·intro w'
           go_simp
           with_reducible rfl
          rotate_left
          ·simp only [Act.put, mD, mE, mF, i64_w, i32_w]
           rfl
          refine pure_ (i := 2) (N := some 10) (v := ?_) (a' := ?_) #[true, true, true, false, false, false, false, false, false, false, false, false] rfl rfl (any_of HT_.out (by kernel_rfl)) (fun _ _ _ h => h) (Or.inl ⟨by rfl, ?_⟩) ?_ ?_
          rotate_left
          ·intro w'
           go_simp
           with_reducible rfl
          rotate_left
          ·simp only [Act.put, mD, mE, mF, i64_w, i32_w]
           rfl
          refine pure_ (i := 3) (N := some 11) (v := ?_) (a' := ?_) #[true, true, true, true, false, false, false, false, false, false, false, false] rfl rfl (any_of HT_.out (by kernel_rfl)) (fun _ _ _ h => h) (Or.inl ⟨by rfl, ?_⟩) ?_ ?_
          rotate_left
          ·intro w'
           go_simp
           with_reducible rfl
          rotate_left
          ·simp only [Act.put, mD, mE, mF, i64_w, i32_w]
           rfl
          refine pure_ (i := 5) (N := some 13) (v := ?_) (a' := ?_) #[true, true, true, true, false, true, false, false, false, false, false, false] rfl rfl (any_of HT_.out (by kernel_rfl)) (fun _ _ _ h => h) (Or.inl ⟨by rfl, ?_⟩) ?_ ?_
          rotate_left
          ·intro w'
           go_simp
           with_reducible rfl
          rotate_left
          ·simp only [Act.put, mD, mE, mF, i64_w, i32_w]
           rfl
          refine pure_ (i := 6) (N := some 14) (v := ?_) (a' := ?_) #[true, true, true, true, false, true, true, false, false, false, false, false] rfl rfl (any_of HT_.out (by kernel_rfl)) (fun _ _ _ h => h) (Or.inl ⟨by rfl, ?_⟩) ?_ ?_
          rotate_left
          ·intro w'
           go_simp
           with_reducible rfl
          rotate_left
          ·simp only [Act.put, mD, mE, mF, i64_w, i32_w]
           rfl
          refine pure_ (i := 7) (N := some 15) (v := ?_) (a' := ?_) #[true, true, true, true, false, true, true, true, false, false, false, false] rfl rfl (any_of HT_.out (by kernel_rfl)) (fun _ _ _ h => h) (Or.inl ⟨by rfl, ?_⟩) ?_ ?_
          rotate_left
          ·intro w'
           go_simp
           with_reducible rfl
          rotate_left
          ·simp only [Act.put, mD, mE, mF, i64_w, i32_w]
           rfl
          refine take_ (i := 4) (N := some 12) (v := ?_) (a' := ?_) #[true, true, true, true, true, true, true, true, false, false, false, false] rfl rfl (take_ofW HT_.out HW_.out (by kernel_rfl)) (fun _ _ _ h => h) (Or.inl ⟨by rfl, ?_⟩) hHeld ?_ ?_
          rotate_left
          ·rintro w' ⟨s0, s1⟩
           go_simp
           with_reducible rfl
          rotate_left
          ·simp only [Act.put, mD, mE, mF, i64_w, i32_w]
           rfl
          refine take_ (i := 8) (N := some 16) (v := ?_) (a' := ?_) #[true, true, true, true, true, true, true, true, true, false, false, false] rfl rfl (take_ofW HT_.out HW_.out (by kernel_rfl)) (fun _ _ _ h => h) (Or.inl ⟨by rfl, ?_⟩) hHeld ?_ ?_
          rotate_left
          ·rintro w' ⟨s0, s1⟩
           go_simp
           with_reducible rfl
          rotate_left
          ·simp only [Act.put, mD, mE, mF, i64_w, i32_w]
           rfl
          refine pure_ (i := 9) (N := some 17) (v := ?_) (a' := ?_) #[true, true, true, true, true, true, true, true, true, true, false, false] rfl rfl (any_of HT_.out (by kernel_rfl)) (fun _ _ _ h => h) (Or.inl ⟨by rfl, ?_⟩) ?_ ?_
          rotate_left
          ·intro w'
           go_simp
           with_reducible rfl
          rotate_left
          ·simp only [Act.put, mD, mE, mF, i64_w, i32_w]
           rfl
          refine pure_ (i := 10) (N := some 18) (v := ?_) (a' := ?_) #[true, true, true, true, true, true, true, true, true, true, true, false] rfl rfl (any_of HT_.out (by kernel_rfl)) (fun _ _ _ h => h) (Or.inl ⟨by rfl, ?_⟩) ?_ ?_
          rotate_left
          ·intro w'
           go_simp
           with_reducible rfl
          rotate_left
          ·simp only [Act.put, mD, mE, mF, i64_w, i32_w]
           rfl
          refine last_ (i := 11) (N := none) #[true, true, true, true, true, true, true, true, true, true, true, true] rfl rfl (one_of HT_.out (by kernel_rfl)) (by decide) (fun K hK => ?_)
          refine skip_ (w1 := ?_) (by rfl) rfl ?_ ?_
          rotate_left
          ·go_simp
           rfl
          refine hK.out _ _ ?_
          clear hK K
          refine done_ (done_of HT_.out (by kernel_rfl)) ?_
          try go_wp2
          (try subst hji4)
          (try subst hji7)
          go_roundg k1
          case measure => have := HK1.out; omega
          case rel =>
           have hy_ : y124.length = x1_1.length := by rw [Ny124.out]; simp
           exact ⟨(y124), (wrap64 (x2_1 + 1)), (by rfl), H', ⟨by have := HK1.out; omega⟩, ⟨hy_.trans HLEN.out⟩, ⟨by rw [hy_]; exact HQ15.out⟩, ⟨by exact (Below.heap_setCell _ _ _ _ GN.out).trans BK0.out⟩, ⟨by repeat (first | (with_reducible first | exact HB.out | apply below_alloc | apply pw_below_drewN | apply below_drew1 | refine below_set ?_ GB12.out) | exact HB.out)⟩⟩
         rw [if_neg c11] at H
         exact absurd H (by simp)
        rw [if_neg c10] at H
        exact absurd H (by simp)
       rw [if_neg c9] at H
       exact absurd H (by simp)
      rw [if_neg c8] at H
      exact absurd H (by simp)
     rw [if_neg c6] at H
     exact absurd H (by simp)
    rw [if_neg c5] at H
    exact absurd H (by simp)
   rw [if_neg c3] at H
   have c3b0 : decide (x2_1 ≤ 40) = false := decide_eq_false c3
   clear c3
   obtain rfl := Option.some.inj H
   have e1 := fib_unrow HO_1.out HLEN.out
   have e0 := BK0.out
   have hsz : ((x1_1.map (Value.int .i64)).toArray).size = 41 := by simp [HLEN.out]
   have hi : (Try.prog.info? 56).map (·.size) = some ((x1_1.map (Value.int .i64)).toArray).size := by rw [hsz]; kernel_rfl
   have hsame : (fibK 0).size = ((x1_1.map (Value.int .i64)).toArray).size := by rw [hsz, fibK_size 0 (by omega)]
   have hone : ((x1_1.map (Value.int .i64)).toArray).all (·.oneCell') = true := by
    rw [Array.all_eq_true_iff_forall_mem]
    intro v hv
    simp only [List.mem_toArray, List.mem_map] at hv
    obtain ⟨x, _, rfl⟩ := hv
    rfl
   go_wp2_with (first
    | ((with_reducible refine gate_dst (N := 19) rfl ?_); refine wpList_load_row rfl 56 (.tmp 1) rfl g1 rfl 56 _ (0, 0) _ ?m1 Try.underlying56 rfl hi ?_; (case m1 => exact e1))
    | ((with_reducible refine gate_store (t := 56) (p := 0) rfl ?_); refine store_row_event (ty := 56) (p := 0) rfl rfl rfl g0 _ rfl rfl (old := fibK 0) (t := 56) ?m2 hi hsame hone ?_; (case m2 => exact e0); intro w9 hw9; have nb9 := A_ (show w9.heap[g0]? = some (.cells (x1_1.map (Value.int .i64)).toArray 56 (0, 0)) by rw [hw9]; exact setRow_heap _ _ _ _ _ _ (by exact e0)); have nB9 := A_ (show Below w.heap.size w w9 by rw [hw9]; exact below_setRow HB.out G0.out _); clear HB; have HB := nB9; clear nB9 hw9))
   refine bodyPost_ret (results_cell_row rfl _ _ g0 56 _ (0, 0) _ rfl nb9.out Try.underlying56 rfl hi) rfl ?_
   exact ⟨rfl, HLEN.out, HB.out⟩
theorem fibRun : impl_fibonacci.f 50 = some ([1, 2, 3, 5, 8, 13, 21, 34, 55, 89, 144, 233, 377, 610, 987, 1597, 2584, 4181, 6765, 10946, 17711, 28657, 46368, 75025, 121393, 196418, 317811, 514229, 832040, 1346269, 2178309, 3524578, 5702887, 9227465, 14930352, 24157817, 39088169, 63245986, 102334155, 165580141, 267914296] : List Int) := by decide +kernel
set_option maxRecDepth 100000 in
theorem fib_at (l : List Int) (i : Int) (hl : l.length = 41) (h0 : 0 ≤ i) (h1 : i < 41) (w : World) : (Instr.index 56 (.agg (l.map (Value.int .i64)).toArray) (.int .i64 i)).run Try.prog w = .ok (.int .i64 (rd l i)) w := by
 have hx : ((l.map (Value.int .i64)).toArray)[i.toNat]? = some (.int .i64 (rd l i)) := by
  obtain ⟨n, rfl⟩ := Int.eq_ofNat_of_zero_le h0
  have hn : n < l.length := by omega
  simp [rd, List.getElem?_eq_getElem hn, List.getD_eq_getElem?_getD]
 unfold Instr.index
 rw [show asIntOf (.int .i64 i) = pure (IntKind.i64, i) from rfl]
 simp only [Sem.run_bind, Sem.run_pure, Result.andThen_ok, run_underlying Try.underlying56, if_pos (And.intro h0 (show i < ((41 : Nat) : Int) by omega))]
 have hz : (sizeOf 3).run Try.prog w = .ok 1 w := Try.sizeOf3 w
 simp only [hz, Result.andThen_ok, Nat.mul_one]
 have ha : (isAgg 3).run Try.prog w = .ok false w := Try.isAgg3 w
 unfold part
 simp only [Sem.run_bind, ha, Result.andThen_ok, Bool.false_eq_true, if_false, hx, Sem.run_pure]
theorem fibOne (l : List Int) : ((l.map (Value.int .i64)).toArray).all (·.oneCell') = true := by
 rw [Array.all_eq_true_iff_forall_mem]
 intro v hv
 simp only [List.mem_toArray, List.mem_map] at hv
 obtain ⟨x, _, rfl⟩ := hv
 rfl
theorem fibInfo (l : List Int) (h : l.length = 41) : (Try.prog.info? 56).map (·.size) = some ((l.map (Value.int .i64)).toArray).size := by
 rw [show ((l.map (Value.int .i64)).toArray).size = 41 by simp [h]]; kernel_rfl
theorem fibSame (l : List Int) (h : l.length = 41) : (fibK 0).size = ((l.map (Value.int .i64)).toArray).size := by
 rw [show ((l.map (Value.int .i64)).toArray).size = 41 by simp [h], fibK_size 0 (by omega)]
theorem fib_apart {w : World} {g base n : Nat} {l : List Int} {u : Value} (h : Kd.R (Kd.int .i64) 56 w base (fun _ => True) (.slice (some ⟨g, 0, none⟩) n 41) l) (hu : ∀ k, u.ownBlock = some k → k < g) : Kd.R (Kd.int .i64) 56 w base (fun k_ => some k_ ≠ u.ownBlock) (.slice (some ⟨g, 0, none⟩) n 41) l :=
 Kd.R_reok rfl h (fun k hk e => by
  have hk' : g = k := by simpa [Value.ownBlock] using hk
  subst hk'
  exact absurd (hu g e.symm) (by omega))
theorem fib_keep {W wS : World} {g e base : Nat} {cs : Array Value} {v : Value} {l : List Int} (hw : wS = W.setRow g cs) (h : Kd.R (Kd.int .i64) e W base (fun k_ => k_ < g) v l) : Kd.R (Kd.int .i64) e wS base (fun k_ => k_ < g) v l := by
 subst hw
 exact Kd.R_move h (fun k hk => setRow_other _ _ _ _ (by omega))
theorem fib_lay {W wS : World} {g : Nat} {cs : Array Value} (hw : wS = W.setRow g cs) (h : W.heap[g]? = some (.cells (fibK 0) 56 (0, 0))) : wS.heap[g]? = some (.cells cs 56 (0, 0)) := by
 subst hw
 exact setRow_heap _ _ _ _ _ _ h
theorem fib_below {W wS w : World} {b g : Nat} {cs : Array Value} (hw : wS = W.setRow g cs) (h : Below b w W) (hg : b ≤ g) : Below b w wS := by
 subst hw
 exact below_setRow h hg _

/-! ### impl_FibonacciNumber: function 48 -/
def impl_FibonacciNumber.f (a0 : Int) : Option (Int) := if a0 < 0 then (some 0) else (if a0 > 40 then (some 0) else ((some (([1, 2, 3, 5, 8, 13, 21, 34, 55, 89, 144, 233, 377, 610, 987, 1597, 2584, 4181, 6765, 10946, 17711, 28657, 46368, 75025, 121393, 196418, 317811, 514229, 832040, 1346269, 2178309, 3524578, 5702887, 9227465, 14930352, 24157817, 39088169, 63245986, 102334155, 165580141, 267914296] : List Int) : List Int)).bind fun y125 => (if 0 ≤ a0 then (if a0 < (y125.length : Int) then (some (rd y125 a0)) else (none)) else (none))))
theorem impl_FibonacciNumber.calls (a0 : Int) (r : Int) (w : World) (h : impl_FibonacciNumber.f a0 = some r) :
  Calls Try.prog 48 #[.int .i64 a0] w fun e w' => e = .returned (.int .i64 r) ∧ Below w.heap.size w w' := by
 have HB := A_ (Below.refl w.heap.size w)
 unfold impl_FibonacciNumber.f at h
 have H := h
 clear h
 by_cases c2 : a0 < 0
 ·rw [if_pos c2] at H
  have c2b0 : decide (a0 < 0) = true := decide_eq_true c2
  clear c2
  obtain rfl := Option.some.inj H
  go_enter Try.func48, Try.ntmps48
  go_wp2
  go_ret
  exact ⟨by rfl, HB.out⟩
 rw [if_neg c2] at H
 have c2b0 : decide (a0 < 0) = false := decide_eq_false c2
 clear c2
 by_cases c3 : a0 > 40
 ·rw [if_pos c3] at H
  have c3b0 : decide (40 < a0) = true := decide_eq_true c3
  clear c3
  obtain rfl := Option.some.inj H
  go_enter Try.func48, Try.ntmps48
  go_wp2
  go_ret
  exact ⟨by rfl, HB.out⟩
 rw [if_neg c3] at H
 have c3b0 : decide (40 < a0) = false := decide_eq_false c3
 clear c3
 obtain ⟨y125, hy125⟩ : ∃ y_ : List Int, y_ = (([1, 2, 3, 5, 8, 13, 21, 34, 55, 89, 144, 233, 377, 610, 987, 1597, 2584, 4181, 6765, 10946, 17711, 28657, 46368, 75025, 121393, 196418, 317811, 514229, 832040, 1346269, 2178309, 3524578, 5702887, 9227465, 14930352, 24157817, 39088169, 63245986, 102334155, 165580141, 267914296] : List Int)) := ⟨_, rfl⟩
 replace H : (if 0 ≤ a0 then (if a0 < (y125.length : Int) then (some (rd y125 a0)) else (none)) else (none)) = some r := by (have H2_ := (Option.bind_some _ _).symm.trans H; rw [hy125]; with_reducible exact H2_)
 have Ny125 := A_ hy125
 clear hy125
 by_cases c4 : 0 ≤ a0
 ·rw [if_pos c4] at H
  have c4b0 : decide (0 ≤ a0) = true := decide_eq_true c4
  clear c4
  by_cases c5 : a0 < (y125.length : Int)
  ·rw [if_pos c5] at H
   have c5b0 : decide (a0 < (y125.length : Int)) = true := decide_eq_true c5
   clear c5
   obtain rfl := Option.some.inj H
   go_enter Try.func48, Try.ntmps48
   have hl41 : (a0 < 41) = True := eq_true (by have := of_decide_eq_true c5b0; rw [Ny125.out] at this; simpa using this)
   have fr_ := fibRun
   rw [← Ny125.out] at fr_
   go_wp2_with (first | ((with_reducible refine gate_callee (f := 67) rfl ?_); refine goesL_ (some 9) rfl rfl Try.func67 (by kernel_rfl) rfl #[] rfl (by (try simp only [mA, mB, mC]); first | done | rfl) ?_; (with_reducible refine (impl_fibonacci.calls 50 y125 _ fr_).mono ?_); rintro e w6 ⟨rfl, hlen_, hb⟩; refine ⟨_, rfl, ?_⟩; have HL_ := A_ hlen_; clear hlen_; have n1_ := A_ (below_step HB.out hb); clear HB; revert n1_; intro HB; clear hb) | ((with_reducible refine gate_dst (N := 11) rfl ?_); refine index_event rfl (N := 11) rfl (t := 56) rfl rfl rfl (fib_at y125 a0 HL_.out (of_decide_eq_true c4b0) (of_eq_true hl41) _) ?_))
   go_ret
   exact ⟨by rfl, HB.out⟩
  rw [if_neg c5] at H
  exact absurd H (by simp)
 rw [if_neg c4] at H
 exact absurd H (by simp)

/-! ### impl_hasForm: function 61 -/
def impl_hasForm.f (a0 : Int) : Option (Bool) := if a0 ≥ 0 then ((impl_FibonacciNumber.f 40).bind fun t129 => (some (decide (a0 < t129)))) else (some false)
theorem impl_hasForm.calls (a0 : Int) (r : Bool) (w : World) (h : impl_hasForm.f a0 = some r) :
  Calls Try.prog 61 #[.int .i64 a0] w fun e w' => e = .returned (.bool r) ∧ Below w.heap.size w w' := by
 have HB := A_ (Below.refl w.heap.size w)
 unfold impl_hasForm.f at h
 have H := h
 clear h
 by_cases c2 : a0 ≥ 0
 ·rw [if_pos c2] at H
  have c2b0 : decide (0 ≤ a0) = true := decide_eq_true c2
  clear c2
  replace H := Option.bind_eq_some_iff.mp H
  obtain ⟨t129, A30, H⟩ := H
  have A3 := A_ A30
  clear A30
  obtain rfl := Option.some.inj H
  go_enter Try.func61, Try.ntmps61
  go_wp2_with (first | (go_at_call 48; (with_reducible refine (impl_FibonacciNumber.calls 40 t129 _ A3.out).mono ?_); rintro e w4 ⟨rfl, hb⟩; have n0_ := A_ (below_step HB.out hb); clear HB; revert n0_; intro HB; clear hb; (try clear hi)))
  go_ret
  exact ⟨by rfl, HB.out⟩
 rw [if_neg c2] at H
 have c2b0 : decide (0 ≤ a0) = false := decide_eq_false c2
 clear c2
 obtain rfl := Option.some.inj H
 go_enter Try.func61, Try.ntmps61
 go_wp2
 go_ret
 exact ⟨by rfl, HB.out⟩

/-! ### impl_ZeckendorfOf: function 32 -/
def impl_ZeckendorfOf.l0 : Nat → Int → List Int → List Int → Int → Option (List Int)
 | 0, _, _, _, _ => none
 | k + 1, x0, x3, x4, x5 => if x5 ≥ 0 then (if 0 ≤ x5 then (if x5 < (x4.length : Int) then (if x0 ≥ (rd x4 x5) then (if x3.length < 17592186044416 then (impl_ZeckendorfOf.l0 k (wrap64 (x0 - (rd x4 x5))) (x3 ++ [1]) x4 (wrap64 (x5 - 1))) else (none)) else (if (x3.length : Int) > 0 then (if x3.length < 17592186044416 then (impl_ZeckendorfOf.l0 k x0 (x3 ++ [0]) x4 (wrap64 (x5 - 1))) else (none)) else (impl_ZeckendorfOf.l0 k x0 x3 x4 (wrap64 (x5 - 1))))) else (none)) else (none)) else (some x3)
def impl_ZeckendorfOf.f (k : Nat) (a0 : Int) : Option (List Int) := (some (([] : List Int) : List Int)).bind fun y130 => ((impl_hasForm.f a0).bind fun t133 => (if t133 = true then (impl_ZeckendorfOf.l0 k a0 y130 (([1, 2, 3, 5, 8, 13, 21, 34, 55, 89, 144, 233, 377, 610, 987, 1597, 2584, 4181, 6765, 10946, 17711, 28657, 46368, 75025, 121393, 196418, 317811, 514229, 832040, 1346269, 2178309, 3524578, 5702887, 9227465, 14930352, 24157817, 39088169, 63245986, 102334155, 165580141, 267914296] : List Int)) 39) else (some y130)))
theorem impl_ZeckendorfOf.mono_l : ∀ k, (∀ y0 y1 y2 y3, LeO (impl_ZeckendorfOf.l0 k y0 y1 y2 y3) (impl_ZeckendorfOf.l0 (k + 1) y0 y1 y2 y3))
 | 0 => fun _ _ _ _ r h => by simp [impl_ZeckendorfOf.l0] at h
 | k + 1 => by
  have ih0 := impl_ZeckendorfOf.mono_l k
  ·intro y0 y1 y2 y3
   unfold impl_ZeckendorfOf.l0
   with_reducible repeat' first | exact ih0 _ _ _ _ | exact LeO.refl _ | exact LeO.none _ | refine LeO.ite ?_ ?_ | refine LeO.bind ?_ (fun _ => ?_)
theorem impl_ZeckendorfOf.mono : ∀ a0 k, LeO (impl_ZeckendorfOf.f k a0) (impl_ZeckendorfOf.f (k + 1) a0) := by
 intro a0 k
 have ih0 := impl_ZeckendorfOf.mono_l k
 unfold impl_ZeckendorfOf.f
 with_reducible repeat' first | exact ih0 _ _ _ _ | exact LeO.refl _ | exact LeO.none _ | refine LeO.ite ?_ ?_ | refine LeO.bind ?_ (fun _ => ?_)
theorem impl_ZeckendorfOf.calls (k : Nat) (a0 : Int) (r : List Int) (w : World) (h : impl_ZeckendorfOf.f k a0 = some r) :
  Calls Try.prog 32 #[.int .i64 a0] w fun e w' => ∃ v0_ : Value, e = .returned (v0_) ∧ Kd.R (Kd.int .i64) 3 w' w.heap.size (fun _ => True) v0_ r ∧ Below w.heap.size w w' := by
 have HB := A_ (Below.refl w.heap.size w)
 unfold impl_ZeckendorfOf.f at h
 have H := h
 clear h
 obtain ⟨y130, hy130⟩ : ∃ y_ : List Int, y_ = (([] : List Int)) := ⟨_, rfl⟩
 replace H : ((impl_hasForm.f a0).bind fun t133 => (if t133 = true then (impl_ZeckendorfOf.l0 k a0 y130 (([1, 2, 3, 5, 8, 13, 21, 34, 55, 89, 144, 233, 377, 610, 987, 1597, 2584, 4181, 6765, 10946, 17711, 28657, 46368, 75025, 121393, 196418, 317811, 514229, 832040, 1346269, 2178309, 3524578, 5702887, 9227465, 14930352, 24157817, 39088169, 63245986, 102334155, 165580141, 267914296] : List Int)) 39) else (some y130))) = some r := by (have H2_ := (Option.bind_some _ _).symm.trans H; rw [hy130]; with_reducible exact H2_)
 have Ny130 := A_ hy130
 clear hy130
 replace H := Option.bind_eq_some_iff.mp H
 obtain ⟨t133, A20, H⟩ := H
 have A2 := A_ A20
 clear A20
 by_cases c3 : t133 = true
 ·subst c3
  rw [if_pos rfl] at H
  obtain ⟨y134, hy134⟩ : ∃ y_ : List Int, y_ = (([1, 2, 3, 5, 8, 13, 21, 34, 55, 89, 144, 233, 377, 610, 987, 1597, 2584, 4181, 6765, 10946, 17711, 28657, 46368, 75025, 121393, 196418, 317811, 514229, 832040, 1346269, 2178309, 3524578, 5702887, 9227465, 14930352, 24157817, 39088169, 63245986, 102334155, 165580141, 267914296] : List Int)) := ⟨_, rfl⟩
  replace H : (impl_ZeckendorfOf.l0 k a0 y130 y134 39) = some r := by (rw [hy134]; with_reducible exact H)
  have Ny134 := A_ hy134
  clear hy134
  have H' := A_ H
  clear H
  go_enter Try.func32, Try.ntmps32
  have FR0_ := fibRun
  rw [← Ny134.out] at FR0_
  have FR_ := A_ FR0_
  have YL_ := A_ (show y134.length = 41 by rw [Ny134.out]; rfl)
  clear FR0_
  go_wp2_with (first | ((with_reducible refine gate_dst (N := 6) rfl ?_); refine Kd.R_lit (Kd.int .i64) _ 3 ?hg (N := 6) ?hd (xs := ([] : List Int)) (inner := []) (ok := fun _ => True) (okp := fun _ => True) ?hr ?hp (fun _ hk => hk) trivial (Below.refl _ _) (Nat.le_refl _) (by simp) ?_; (case hd | hg => rfl); (case hr => go_simp; done); (case hp => exact (Reps.none _ _)); intro v131 w4 ho5 hb hg_ hnew_; clear hg_ hnew_; (first | rw [← Ny130.out] at ho5 | (simp only [Int.reduceToNat] at ho5; rw [← Ny130.out] at ho5)); have n0_ := A_ (Kd.R_lower ho5 (below_size HB.out)); have n1_ := A_ (below_step HB.out hb); clear HB; revert n0_ n1_; intro HO132 HB; clear hb ho5) | ((with_reducible refine gate_callee (f := 61) rfl ?_); refine goesL_ (some 8) rfl rfl Try.func61 (by kernel_rfl) rfl #[.int .i64 a0] rfl (by (try simp only [mA, mB, mC]); first | done | rfl | (simp only [List.length_drop, List.length_take]; rfl)) ?_; (with_reducible refine (impl_hasForm.calls a0 true _ A2.out).mono ?_); rintro e w6 ⟨rfl, hb⟩; refine ⟨_, rfl, ?_⟩; have n0_ := A_ (Kd.R_below HO132.out hb); have n1_ := A_ (below_step HB.out hb); clear HO132 HB; revert n0_ n1_; intro HO132 HB; clear hb; (try clear hi)) | ((with_reducible refine gate_callee (f := 67) rfl ?_); refine goesL_ (some 11) rfl rfl Try.func67 (by kernel_rfl) rfl #[] rfl (by (try simp only [mA, mB, mC]); first | done | rfl) ?_; (with_reducible refine (impl_fibonacci.calls 50 y134 _ FR_.out).mono ?_); rintro e w6 ⟨rfl, hlen_, hb⟩; refine ⟨_, rfl, ?_⟩; have n0_ := A_ (Kd.R_below HO132.out hb); have n1_ := A_ (below_step HB.out hb); clear HO132; revert n0_; intro HO132; clear HB; revert n1_; intro HB; clear hb hlen_) | ((with_reducible refine gate_dst (N := 4) rfl ?_); refine box_event ?hg (N := 4) ?hd (cs := fibK 0) (t := 56) ?hr ?_; (case hd | hg => rfl); (case hr => go_simp; rfl); intro gF hgF wF hboxF hbF; have nB_ := A_ (below_step HB.out hbF); have GF := A_ (show w.heap.size ≤ gF by rw [hgF]; exact below_size HB.out); have nP_ := A_ (Kd.R_mono (ok' := fun k_ => k_ < gF) (Kd.R_old HO132.out hbF) (fun k_ hk => by rw [hgF]; exact hk.2)); clear HO132; have HO132 := nP_; clear nP_; have BKF := A_ hboxF; clear HB; have HB := nB_; clear nB_ hbF hboxF hgF) | ((with_reducible refine gate_store (t := 56) (p := 4) rfl ?_); refine store_row_event (ty := 56) (p := 4) rfl rfl rfl gF ((y134.map (Value.int .i64)).toArray) rfl rfl (old := fibK 0) (t := 56) ?m2 (fibInfo y134 YL_.out) (fibSame y134 YL_.out) (fibOne y134) ?_; (case m2 => exact BKF.out); intro wS hwS; have nP_ := A_ (fib_keep hwS HO132.out); clear HO132; have HO132 := nP_; clear nP_; have nH_ := A_ (fib_row (base := w.heap.size) (l := y134) (fib_lay hwS BKF.out) GF.out rfl YL_.out); have HO136 := nH_; clear nH_; have nB_ := A_ (fib_below hwS HB.out GF.out); clear HB; have HB := nB_; clear nB_ hwS))
  go_loopg [0, 3, 5] k (fun kq v0 v3 v5 w' => ∃ (x0_1 : Int) (x3_1 : List Int) (x5_1 : Int), v0 = .int .i64 x0_1 ∧ v5 = .int .i64 x5_1 ∧ Aside0 (impl_ZeckendorfOf.l0 kq x0_1 x3_1 y134 x5_1 = some r) ∧ Aside0 (kq ≤ k) ∧ Aside0 (Kd.R (Kd.int .i64) 3 w' w.heap.size (fun k_ => some k_ ≠ (.slice (some ⟨gF, 0, none⟩) y134.length 41 : Value).ownBlock) v3 x3_1) ∧ Aside0 (Kd.R (Kd.int .i64) 56 w' w.heap.size (fun k_ => some k_ ≠ (v3 : Value).ownBlock) (.slice (some ⟨gF, 0, none⟩) y134.length 41) y134) ∧ Aside0 (Below w.heap.size w w'))
  case atStart => exact ⟨(a0), (y130), (39), (by rfl), (by rfl), H', ⟨Nat.le_refl _⟩, ⟨by exact Kd.R_mono HO132.out (fun k_ hk e_ => by have h_ : k_ < gF := hk; have h2_ : k_ = gF := (by simpa [Value.ownBlock] using e_); omega)⟩, ⟨by exact fib_apart HO136.out (fun k_ hk => HO132.out.1 k_ hk)⟩, ⟨HB.out⟩⟩
  case round =>
   clear H'
   obtain ⟨x0_1, x3_1, x5_1, rfl, rfl, HA, HK1, HO_3, HO_4, HB⟩ := hrel
   cases gk with
   | zero => exact absurd HA.out (by simp [impl_ZeckendorfOf.l0])
   | succ k1 =>
    have H := HA.out
    clear HA
    simp only [impl_ZeckendorfOf.l0] at H
    by_cases c9 : x5_1 ≥ 0
    ·rw [if_pos c9] at H
     have c9b0 : decide (0 ≤ x5_1) = true := decide_eq_true c9
     clear c9
     by_cases c10 : 0 ≤ x5_1
     ·rw [if_pos c10] at H
      have c10b0 : decide (0 ≤ x5_1) = true := decide_eq_true c10
      clear c10
      by_cases c11 : x5_1 < (y134.length : Int)
      ·rw [if_pos c11] at H
       have c11b0 : decide (x5_1 < (y134.length : Int)) = true := decide_eq_true c11
       clear c11
       by_cases c12 : x0_1 ≥ (rd y134 x5_1)
       ·rw [if_pos c12] at H
        have c12b0 : decide ((rd y134 x5_1) ≤ x0_1) = true := decide_eq_true c12
        clear c12
        by_cases c13 : x3_1.length < 17592186044416
        ·rw [if_pos c13] at H
         have LMc13 := A_ c13
         clear c13
         obtain ⟨y139, hy139⟩ : ∃ y_ : List Int, y_ = (x3_1 ++ [1]) := ⟨_, rfl⟩
         replace H : (impl_ZeckendorfOf.l0 k1 (wrap64 (x0_1 - (rd y134 x5_1))) y139 y134 (wrap64 (x5_1 - 1))) = some r := by (rw [hy139]; with_reducible exact H)
         have Ny139 := A_ hy139
         clear hy139
         have H' := A_ H
         clear H
         have p137 : 0 ≤ (x5_1 : Int) := of_decide_eq_true (by first | (with_reducible assumption) | assumption)
         have q137 : x5_1 < (y134.length : Int) := of_decide_eq_true (by first | (with_reducible assumption) | assumption)
         obtain ⟨ad137, e137, hx137_0⟩ := Kd.at_int (Kd.R_reads' HO_4.out).2.2 x5_1 p137 q137
         cases e137
         have b41_137 : (x5_1 < 41) = True := eq_true (by have h_ := YL_.out; have h2_ := q137; omega)
         (first | simp only [add_plain] at hx137_0 | skip)
         replace p137 := eq_true p137
         replace q137 := eq_true q137
         have p138 : 0 ≤ (x5_1 : Int) := of_decide_eq_true (by first | (with_reducible assumption) | assumption)
         have q138 : x5_1 < (y134.length : Int) := of_decide_eq_true (by first | (with_reducible assumption) | assumption)
         obtain ⟨ad138, e138, hx138_0⟩ := Kd.at_int (Kd.R_reads' HO_4.out).2.2 x5_1 p138 q138
         cases e138
         have b41_138 : (x5_1 < 41) = True := eq_true (by have h_ := YL_.out; have h2_ := q138; omega)
         (first | simp only [add_plain] at hx138_0 | skip)
         replace p138 := eq_true p138
         replace q138 := eq_true q138
         go_wp2_with (first | ((with_reducible refine gate_builtin (b := .append) (xs := #[.tmp 27, .tmp 28]) rfl ?_); at_builtin; refine Kd.R_append (Kd.int .i64) (w0 := w) w.heap.size rfl (.tmp 27) (.tmp 28) 24 3 (.int .i64 0) 8 rfl Try.underlying24 info3 rfl (by decide) (by omega) u3 x3_1 1 [.int .i64 1] (fun k_ => some k_ ≠ (.slice (some ⟨gF, 0, none⟩) y134.length 41 : Value).ownBlock) (fun _ => False) rfl rfl ?aP (fun _ hk => hk.elim) ?aF ?aO ?aB ?aS ?aL ?_; (case aP => exact rfl); (case aB => exact HB.out); (case aF => exact (fun k_ hk => Kd.fresh' (Kd.R_lt HO_4.out) k_ hk)); (case aO => exact HO_3.out); (case aS => exact (below_size HB.out)); (case aL => have := LMc13.out; omega); intro v140 w15 ho hb hg hat; rw [← Ny139.out] at ho; have n0_ := A_ (Kd.R_after (ok := (fun _ => True)) (by exact Kd.R_mono HO_4.out (fun _ hk => ⟨trivial, hk⟩)) hg hat); have n1_ := A_ (hb); have n2_ := A_ (ho); clear HO_4 HB HO_3; revert n0_ n1_ n2_; intro HO_4 HB HO141; clear ho hb hg hat))
         go_roundg k1
         case measure => have := HK1.out; omega
         case rel => exact ⟨(wrap64 (x0_1 - (rd y134 x5_1))), (y139), (wrap64 (x5_1 - 1)), (by rfl), (by rfl), H', ⟨by have := HK1.out; omega⟩, ⟨HO141.out⟩, ⟨by exact Kd.R_mono HO_4.out (fun _ hk => hk.2)⟩, ⟨HB.out⟩⟩
        rw [if_neg c13] at H
        exact absurd H (by simp)
       rw [if_neg c12] at H
       have c12b0 : decide ((rd y134 x5_1) ≤ x0_1) = false := decide_eq_false c12
       clear c12
       by_cases c16 : (x3_1.length : Int) > 0
       ·rw [if_pos c16] at H
        have c16b0 : decide (0 < (x3_1.length : Int)) = true := decide_eq_true c16
        have c16b1 : decide (0 < x3_1.length) = true := decide_eq_true (by omega)
        clear c16
        by_cases c17 : x3_1.length < 17592186044416
        ·rw [if_pos c17] at H
         have LMc17 := A_ c17
         clear c17
         obtain ⟨y142, hy142⟩ : ∃ y_ : List Int, y_ = (x3_1 ++ [0]) := ⟨_, rfl⟩
         replace H : (impl_ZeckendorfOf.l0 k1 x0_1 y142 y134 (wrap64 (x5_1 - 1))) = some r := by (rw [hy142]; with_reducible exact H)
         have Ny142 := A_ hy142
         clear hy142
         have H' := A_ H
         clear H
         have p137 : 0 ≤ (x5_1 : Int) := of_decide_eq_true (by first | (with_reducible assumption) | assumption)
         have q137 : x5_1 < (y134.length : Int) := of_decide_eq_true (by first | (with_reducible assumption) | assumption)
         obtain ⟨ad137, e137, hx137_0⟩ := Kd.at_int (Kd.R_reads' HO_4.out).2.2 x5_1 p137 q137
         cases e137
         have b41_137 : (x5_1 < 41) = True := eq_true (by have h_ := YL_.out; have h2_ := q137; omega)
         (first | simp only [add_plain] at hx137_0 | skip)
         replace p137 := eq_true p137
         replace q137 := eq_true q137
         obtain ⟨Ao19, co19, eo19⟩ := Kd.R_slice HO_3.out
         subst eo19
         go_wp2_with (first | ((with_reducible refine gate_builtin (b := .append) (xs := #[.tmp 34, .tmp 35]) rfl ?_); at_builtin; refine Kd.R_append (Kd.int .i64) (w0 := w) w.heap.size rfl (.tmp 34) (.tmp 35) 24 3 (.int .i64 0) 8 rfl Try.underlying24 info3 rfl (by decide) (by omega) (.slice Ao19 x3_1.length co19) x3_1 0 [.int .i64 0] (fun k_ => some k_ ≠ (.slice (some ⟨gF, 0, none⟩) y134.length 41 : Value).ownBlock) (fun _ => False) rfl rfl ?aP (fun _ hk => hk.elim) ?aF ?aO ?aB ?aS ?aL ?_; (case aP => exact rfl); (case aB => exact HB.out); (case aF => exact (fun k_ hk => Kd.fresh' (Kd.R_lt HO_4.out) k_ hk)); (case aO => exact HO_3.out); (case aS => exact (below_size HB.out)); (case aL => have := LMc17.out; omega); intro v143 w20 ho hb hg hat; rw [← Ny142.out] at ho; have n0_ := A_ (Kd.R_after (ok := (fun _ => True)) (by exact Kd.R_mono HO_4.out (fun _ hk => ⟨trivial, hk⟩)) hg hat); have n1_ := A_ (hb); have n2_ := A_ (ho); clear HO_4 HB HO_3; revert n0_ n1_ n2_; intro HO_4 HB HO144; clear ho hb hg hat))
         go_roundg k1
         case measure => have := HK1.out; omega
         case rel => exact ⟨(x0_1), (y142), (wrap64 (x5_1 - 1)), (by rfl), (by rfl), H', ⟨by have := HK1.out; omega⟩, ⟨HO144.out⟩, ⟨by exact Kd.R_mono HO_4.out (fun _ hk => hk.2)⟩, ⟨HB.out⟩⟩
        rw [if_neg c17] at H
        exact absurd H (by simp)
       rw [if_neg c16] at H
       have c16b0 : decide (0 < (x3_1.length : Int)) = false := decide_eq_false c16
       have c16b1 : decide (0 < x3_1.length) = false := decide_eq_false (by omega)
       clear c16
       have H' := A_ H
       clear H
       have p137 : 0 ≤ (x5_1 : Int) := of_decide_eq_true (by first | (with_reducible assumption) | assumption)
       have q137 : x5_1 < (y134.length : Int) := of_decide_eq_true (by first | (with_reducible assumption) | assumption)
       obtain ⟨ad137, e137, hx137_0⟩ := Kd.at_int (Kd.R_reads' HO_4.out).2.2 x5_1 p137 q137
       cases e137
       have b41_137 : (x5_1 < 41) = True := eq_true (by have h_ := YL_.out; have h2_ := q137; omega)
       (first | simp only [add_plain] at hx137_0 | skip)
       replace p137 := eq_true p137
       replace q137 := eq_true q137
       obtain ⟨Ao22, co22, eo22⟩ := Kd.R_slice HO_3.out
       subst eo22
       go_wp2
       go_roundg k1
       case measure => have := HK1.out; omega
       case rel => exact ⟨(x0_1), (x3_1), (wrap64 (x5_1 - 1)), (by rfl), (by rfl), H', ⟨by have := HK1.out; omega⟩, ⟨HO_3.out⟩, ⟨HO_4.out⟩, ⟨HB.out⟩⟩
      rw [if_neg c11] at H
      exact absurd H (by simp)
     rw [if_neg c10] at H
     exact absurd H (by simp)
    rw [if_neg c9] at H
    have c9b0 : decide (0 ≤ x5_1) = false := decide_eq_false c9
    clear c9
    obtain rfl := Option.some.inj H
    go_wp2
    go_ret
    exact ⟨_, by rfl, by exact Kd.R_mono HO_3.out (fun _ hk => trivial), HB.out⟩
 replace c3 := Bool.eq_false_iff.mpr c3
 subst c3
 rw [if_neg (show ¬ (false = true) by decide)] at H
 obtain rfl := Option.some.inj H
 go_enter Try.func32, Try.ntmps32
 go_wp2_with (first | ((with_reducible refine gate_dst (N := 6) rfl ?_); refine Kd.R_lit (Kd.int .i64) _ 3 ?hg (N := 6) ?hd (xs := ([] : List Int)) (inner := []) (ok := fun _ => True) (okp := fun _ => True) ?hr ?hp (fun _ hk => hk) trivial (Below.refl _ _) (Nat.le_refl _) (by simp) ?_; (case hd | hg => rfl); (case hr => go_simp; done); (case hp => exact (Reps.none _ _)); intro v131 w23 ho24 hb hg_ hnew_; clear hg_ hnew_; (first | rw [← Ny130.out] at ho24 | (simp only [Int.reduceToNat] at ho24; rw [← Ny130.out] at ho24)); have n0_ := A_ (Kd.R_lower ho24 (below_size HB.out)); have n1_ := A_ (below_step HB.out hb); clear HB; revert n0_ n1_; intro HO132 HB; clear hb ho24) | ((with_reducible refine gate_callee (f := 61) rfl ?_); refine goesL_ (some 8) rfl rfl Try.func61 (by kernel_rfl) rfl #[.int .i64 a0] rfl (by (try simp only [mA, mB, mC]); first | done | rfl | (simp only [List.length_drop, List.length_take]; rfl)) ?_; (with_reducible refine (impl_hasForm.calls a0 false _ A2.out).mono ?_); rintro e w25 ⟨rfl, hb⟩; refine ⟨_, rfl, ?_⟩; have n0_ := A_ (Kd.R_below HO132.out hb); have n1_ := A_ (below_step HB.out hb); clear HO132 HB; revert n0_ n1_; intro HO132 HB; clear hb; (try clear hi)))
 go_ret
 exact ⟨_, by rfl, HO132.out, HB.out⟩

/-! ### impl_FibonacciLetter: function 13 -/
def impl_FibonacciLetter.f (k : Nat) (a0 : Int) : Option (Int) := (impl_hasForm.f a0).bind fun t145 => (if t145 = true then ((impl_ZeckendorfOf.f k a0).bind fun t146 => (if (t146.length : Int) = 0 then (some 0) else (if 0 ≤ (wrap64 ((t146.length : Int) - 1)) then (if (wrap64 ((t146.length : Int) - 1)) < (t146.length : Int) then (some (rd t146 (wrap64 ((t146.length : Int) - 1)))) else (none)) else (none)))) else (some (-1)))
theorem impl_FibonacciLetter.mono : ∀ a0 k, LeO (impl_FibonacciLetter.f k a0) (impl_FibonacciLetter.f (k + 1) a0) := by
 intro a0 k
 unfold impl_FibonacciLetter.f
 with_reducible repeat' first | exact impl_ZeckendorfOf.mono _ _ | exact LeO.refl _ | exact LeO.none _ | refine LeO.ite ?_ ?_ | refine LeO.bind ?_ (fun _ => ?_)
theorem impl_FibonacciLetter.calls (k : Nat) (a0 : Int) (r : Int) (w : World) (h : impl_FibonacciLetter.f k a0 = some r) :
  Calls Try.prog 13 #[.int .i64 a0] w fun e w' => e = .returned (.int .i64 r) ∧ Below w.heap.size w w' := by
 have HB := A_ (Below.refl w.heap.size w)
 unfold impl_FibonacciLetter.f at h
 have H := h
 clear h
 replace H := Option.bind_eq_some_iff.mp H
 obtain ⟨t145, A20, H⟩ := H
 have A2 := A_ A20
 clear A20
 by_cases c3 : t145 = true
 ·subst c3
  rw [if_pos rfl] at H
  replace H := Option.bind_eq_some_iff.mp H
  obtain ⟨t146, A40, H⟩ := H
  have A4 := A_ A40
  clear A40
  by_cases c5 : (t146.length : Int) = 0
  ·rw [if_pos c5] at H
   have c5b0 : ((t146.length : Int) == 0) = true := beq_iff_eq.mpr c5
   have c5b1 : ((t146.length : Int) != 0) = false := bne_eq_false_iff_eq.mpr c5
   clear c5
   obtain rfl := Option.some.inj H
   go_enter Try.func13, Try.ntmps13
   go_wp2_with (first | ((with_reducible refine gate_callee (f := 61) rfl ?_); refine goesL_ (some 5) rfl rfl Try.func61 (by kernel_rfl) rfl #[.int .i64 a0] rfl (by (try simp only [mA, mB, mC]); first | done | rfl | (simp only [List.length_drop, List.length_take]; rfl)) ?_; (with_reducible refine (impl_hasForm.calls a0 true _ A2.out).mono ?_); rintro e w6 ⟨rfl, hb⟩; refine ⟨_, rfl, ?_⟩; have n0_ := A_ (below_step HB.out hb); clear HB; revert n0_; intro HB; clear hb; (try clear hi)) | ((with_reducible refine gate_callee (f := 32) rfl ?_); refine goesL_ (some 8) rfl rfl Try.func32 (by kernel_rfl) rfl #[.int .i64 a0] rfl (by (try simp only [mA, mB, mC]); first | done | rfl | (simp only [List.length_drop, List.length_take]; rfl)) ?_; (with_reducible refine (impl_ZeckendorfOf.calls k a0 t146 _ A4.out).mono ?_); rintro e w7 ⟨v147, rfl, ho0, hb⟩; refine ⟨_, rfl, ?_⟩; have n0_ := A_ (Kd.R_lower ho0 (below_size HB.out)); have n1_ := A_ (below_step HB.out hb); clear HB; revert n0_ n1_; intro HO148 HB; clear hb ho0; obtain ⟨Ao8, co8, eo8⟩ := Kd.R_slice HO148.out; subst eo8))
   go_ret
   exact ⟨by rfl, HB.out⟩
  rw [if_neg c5] at H
  have c5b0 : ((t146.length : Int) == 0) = false := beq_eq_false_iff_ne.mpr c5
  have c5b1 : ((t146.length : Int) != 0) = true := bne_iff_ne.mpr c5
  have c5b2 : ¬ (t146 = []) := fun h_ => c5 (by rw [h_]; rfl)
  obtain ⟨ji9, hji9⟩ : ∃ j_ : Int, (wrap64 ((t146.length : Int) - 1)) = j_ := ⟨_, rfl⟩
  replace H : (if 0 ≤ (ji9) then (if (ji9) < (t146.length : Int) then (some (rd t146 (ji9))) else (none)) else (none)) = some r := by first | (rw [hji9] at H; exact H) | (simp only [hji9] at H ⊢; exact H)
  (try rw [hji9] at A2)
  (try rw [hji9] at A4)
  have hji9w : (IntKind.i64.wrap ((t146.length : Int) - 1)) = ji9 := (i64_w _).trans hji9
  by_cases c10 : 0 ≤ (ji9)
  ·rw [if_pos c10] at H
   have c10b0 : decide (0 ≤ (ji9)) = true := decide_eq_true c10
   clear c10
   by_cases c11 : (ji9) < (t146.length : Int)
   ·rw [if_pos c11] at H
    have c11b0 : decide ((ji9) < (t146.length : Int)) = true := decide_eq_true c11
    clear c11
    obtain rfl := Option.some.inj H
    go_enter Try.func13, Try.ntmps13
    go_wp2_with (first | ((with_reducible refine gate_callee (f := 61) rfl ?_); refine goesL_ (some 5) rfl rfl Try.func61 (by kernel_rfl) rfl #[.int .i64 a0] rfl (by (try simp only [mA, mB, mC]); first | done | rfl | (simp only [List.length_drop, List.length_take]; rfl)) ?_; (with_reducible refine (impl_hasForm.calls a0 true _ A2.out).mono ?_); rintro e w12 ⟨rfl, hb⟩; refine ⟨_, rfl, ?_⟩; have n0_ := A_ (below_step HB.out hb); clear HB; revert n0_; intro HB; clear hb; (try clear hi)) | ((with_reducible refine gate_callee (f := 32) rfl ?_); refine goesL_ (some 8) rfl rfl Try.func32 (by kernel_rfl) rfl #[.int .i64 a0] rfl (by (try simp only [mA, mB, mC]); first | done | rfl | (simp only [List.length_drop, List.length_take]; rfl)) ?_; (with_reducible refine (impl_ZeckendorfOf.calls k a0 t146 _ A4.out).mono ?_); rintro e w13 ⟨v147, rfl, ho0, hb⟩; refine ⟨_, rfl, ?_⟩; have n0_ := A_ (Kd.R_lower ho0 (below_size HB.out)); have n1_ := A_ (below_step HB.out hb); clear HB; revert n0_ n1_; intro HO148 HB; clear hb ho0; obtain ⟨Ao14, co14, eo14⟩ := Kd.R_slice HO148.out; subst eo14; have p149 : 0 ≤ ((ji9) : Int) := of_decide_eq_true (by first | (with_reducible assumption) | assumption); have q149 : (ji9) < (t146.length : Int) := of_decide_eq_true (by first | (with_reducible assumption) | assumption); obtain ⟨ad149, e149, hx149_0⟩ := Kd.at_int (Kd.R_reads' HO148.out).2.2 (ji9) p149 q149; cases e149; replace p149 := eq_true p149; replace q149 := eq_true q149))
    go_ret
    exact ⟨by first | rfl | (simp [errW_none, errW_some] <;> rfl) | (simp only [← hji9]; first | rfl | (simp [errW_none, errW_some] <;> rfl)) | (simp [*, errW_none, errW_some] <;> rfl), HB.out⟩
   rw [if_neg c11] at H
   exact absurd H (by simp)
  rw [if_neg c10] at H
  exact absurd H (by simp)
 replace c3 := Bool.eq_false_iff.mpr c3
 subst c3
 rw [if_neg (show ¬ (false = true) by decide)] at H
 obtain rfl := Option.some.inj H
 go_enter Try.func13, Try.ntmps13
 go_wp2_with (first | ((with_reducible refine gate_callee (f := 61) rfl ?_); refine goesL_ (some 5) rfl rfl Try.func61 (by kernel_rfl) rfl #[.int .i64 a0] rfl (by (try simp only [mA, mB, mC]); first | done | rfl | (simp only [List.length_drop, List.length_take]; rfl)) ?_; (with_reducible refine (impl_hasForm.calls a0 false _ A2.out).mono ?_); rintro e w15 ⟨rfl, hb⟩; refine ⟨_, rfl, ?_⟩; have n0_ := A_ (below_step HB.out hb); clear HB; revert n0_; intro HB; clear hb; (try clear hi)))
 go_ret
 exact ⟨by rfl, HB.out⟩

end Go.Proofs.Ytdcakddfibnllaa.PFnFibonacci
