/- Written by this session's own program (wip/myprint.py): the machine side of one law, some contracts of it typed by hand. -/
import Derived.Test.YtdcakddfibnllaaPFnFibonaccix0
import Derived.Test.YtdcakddfibnllaaPFnFibonaccix3
namespace Go.Proofs.Ytdcakddfibnllaa.PFnFibonacci
open Go.RowKit Go.Proofs.YtdcakddfibnllaaW.PrintWords Go.Proofs.YtdcakddfibnllaaW.PrintLast Go.Proofs.YtdcakddfibnllaaW.PrintMore
attribute [local go_sem] max2_int min2_int max_two min_two max_three min_three max_four min_four   -- for this text's walks alone
set_option linter.unusedVariables false
set_option linter.unusedSimpArgs false

/-! ### slices.ContainsFunc at the closures of vanishing and IsGrowing: '!gone[x]', gone in a variable in memory -/
def GoneAt (w : World) (bo b : Nat) (out : List Bool) : Prop :=
 w.cell? ⟨bo, 0, none⟩ = some (.slice (some ⟨b, 0, none⟩) out.length out.length) ∧ ∀ j, j < out.length → w.cell? ⟨b, j, none⟩ = some (.bool (out.getD j false))
theorem GoneAt.drewN {w : World} {bo b : Nat} {out : List Bool} (h : GoneAt w bo b out) (q : Nat) : GoneAt (w.drewN q) bo b out := h
set_option maxHeartbeats 2000000 in
theorem hand_pred104 (bo b : Nat) (out : List Bool) (x : Int) (w : World) (hg : GoneAt w bo b out) (h0 : 0 ≤ x) (h1 : x < (out.length : Int)) :
  Calls Try.prog 104 #[.int .i64 x, .pointer (some ⟨bo, 0, none⟩)] w fun e w' => e = .returned (.bool (!(out.getD x.toNat false))) ∧ Drawn0 w w' := by
 obtain ⟨n, rfl⟩ := Int.eq_ofNat_of_zero_le h0
 have hc := hg.1
 have hx := hg.2 n (by omega)
 clear hg
 rw [show (Int.toNat (n : Int)) = n from rfl]
 have p1 : (0 ≤ (n : Int)) = True := eq_true h0
 have q1 : ((n : Int) < (out.length : Int)) = True := eq_true h1
 go_enter Try.func104, Try.ntmps104
 go_wp2
 go_ret
 exact ⟨rfl, by repeat (first | exact Drawn0.refl _ | apply Drawn0.step)⟩
set_option maxHeartbeats 2000000 in
theorem hand_pred97 (bo b : Nat) (out : List Bool) (x : Int) (w : World) (hg : GoneAt w bo b out) (h0 : 0 ≤ x) (h1 : x < (out.length : Int)) :
  Calls Try.prog 97 #[.int .i64 x, .pointer (some ⟨bo, 0, none⟩)] w fun e w' => e = .returned (.bool (!(out.getD x.toNat false))) ∧ Drawn0 w w' := by
 obtain ⟨n, rfl⟩ := Int.eq_ofNat_of_zero_le h0
 have hc := hg.1
 have hx := hg.2 n (by omega)
 clear hg
 rw [show (Int.toNat (n : Int)) = n from rfl]
 have p1 : (0 ≤ (n : Int)) = True := eq_true h0
 have q1 : ((n : Int) < (out.length : Int)) = True := eq_true h1
 go_enter Try.func97, Try.ntmps97
 go_wp2
 go_ret
 exact ⟨rfl, by repeat (first | exact Drawn0.refl _ | apply Drawn0.step)⟩
def handOk (n : Nat) (l : List Int) : Prop := ∀ y ∈ l, 0 ≤ y ∧ y < (n : Int)
def handAny (out : List Bool) (l : List Int) : Bool := l.any fun y => !(out.getD y.toNat false)
def Asks (g bo : Nat) (b : Nat) (out : List Bool) : Prop := ∀ (x : Int) (w : World), GoneAt w bo b out → 0 ≤ x → x < (out.length : Int) →
 Calls Try.prog g #[.int .i64 x, .pointer (some ⟨bo, 0, none⟩)] w fun e w' => e = .returned (.bool (!(out.getD x.toNat false))) ∧ Drawn0 w w'
theorem hand_idx_ge {out : List Bool} {l : List Int} {i : Nat} (hi : i ≤ l.length) (h : ∀ j, j < i → out.getD (l.getD j 0).toNat false = true) (h2 : i = l.length) : handAny out l = false := by
 unfold handAny
 rw [List.any_eq_false]
 intro y hy
 obtain ⟨j, hj, rfl⟩ := List.getElem_of_mem hy
 have := h j (by omega)
 simp [List.getD_eq_getElem?_getD, List.getElem?_eq_getElem hj] at this ⊢
 exact this
theorem hand_idx_hit {out : List Bool} {l : List Int} {i : Nat} (hi : i < l.length) (h : out.getD (l.getD i 0).toNat false = false) : handAny out l = true := by
 unfold handAny
 rw [List.any_eq_true]
 refine ⟨l[i], List.getElem_mem hi, ?_⟩
 simp [List.getD_eq_getElem?_getD, List.getElem?_eq_getElem hi] at h ⊢
 exact h
theorem hand_rd_mem {l : List Int} {i : Nat} (h : i < l.length) : rd l (i : Int) ∈ l := by
 simp [rd, List.getD_eq_getElem?_getD, List.getElem?_eq_getElem h]
set_option maxHeartbeats 4000000 in
theorem hand_index (g bo b : Nat) (out : List Bool) (ask : Asks g bo b out) (eg : ∀ args w, (callFunc g args).run Try.prog w = .ok (.enter g args) w)
  (A0 : Option Addr) (c0 : Nat) (l0 : List Int) (w : World) (hr0 : Kd.C (Kd.int .i64) w A0 l0.length l0) (hg : GoneAt w bo b out) (hok : handOk out.length l0) (hsz : l0.length ≤ 4611686018427387904) :
  Calls Try.prog 105 #[.slice A0 l0.length c0, .func (.func g) #[] #[.pointer (some ⟨bo, 0, none⟩)]] w fun e w' => (∃ i : Int, e = .returned (.int .i64 i) ∧ (0 ≤ i ↔ handAny out l0 = true)) ∧ Drawn0 w w' := by
 have HR0 := A_ hr0
 have HG := A_ hg
 have HO := A_ hok
 have HA := A_ ask
 have EG := A_ eg
 clear hr0 hg hok ask
 go_enter Try.func105, Try.ntmps105
 go_wp2
 go_loopg [5, 8] (l0.length + 1) (fun kq v5 v8 w' => ∃ (i : Nat), i ≤ l0.length ∧ l0.length + 1 - i ≤ kq ∧ v8 = .int .i64 (i : Int) ∧ Aside0 (∀ j, j < i → out.getD (l0.getD j 0).toNat false = true) ∧ Drawn0 w w')
 case atStart => exact ⟨0, by omega, by omega, rfl, ⟨fun j hj => absurd hj (Nat.not_lt_zero _)⟩, by repeat (first | exact Drawn0.refl _ | apply Drawn0.step)⟩
 case round =>
  obtain ⟨i, hi, hk, rfl, HM, ⟨m1, rfl⟩⟩ := hrel
  by_cases hlt : i < l0.length
  ·have c3b0 : decide ((i : Int) < (l0.length : Int)) = true := decide_eq_true (by omega)
   obtain ⟨ad, e, hx⟩ := Kd.at_int HR0.out (i : Int) (by omega) (by omega)
   cases e
   rw [Int.toNat_natCast] at hx
   have hm := HO.out _ (hand_rd_mem hlt)
   have p1 : (0 ≤ (i : Int)) = True := eq_true (by omega)
   have q1 : ((i : Int) < (l0.length : Int)) = True := eq_true (by omega)
   have CA := fun q => HA.out (rd l0 (i : Int)) (w.drewN q) (HG.out.drewN q) hm.1 hm.2
   have CD := A_ (show l0.getD i 0 = rd l0 (i : Int) by simp [rd])
   clear hm
   cases hq : out.getD (rd l0 (i : Int)).toNat false with
   | true =>
    rw [hq] at CA
    have HQ := A_ hq
    clear hq
    replace CA := A_ CA
    go_wp2
    refine (CA.out _).mono ?_
    rintro e w' ⟨rfl, ⟨nd, rfl⟩⟩
    go_wp2
    go_roundg (l0.length + 1 - (i + 1))
    case measure => omega
    case rel =>
     refine ⟨i + 1, by omega, by omega, by go_num, ⟨fun j hj => ?_⟩, by repeat (first | exact Drawn0.refl _ | apply Drawn0.step)⟩
     by_cases e : j = i
     ·subst e; rw [CD.out]; exact HQ.out
     ·exact HM.out j (by omega)
   | false =>
    rw [hq] at CA
    have HQ := A_ hq
    clear hq
    replace CA := A_ CA
    go_wp2
    refine (CA.out _).mono ?_
    rintro e w' ⟨rfl, ⟨nd, rfl⟩⟩
    go_wp2
    go_ret
    refine ⟨⟨(i : Int), rfl, ?_⟩, by repeat (first | exact Drawn0.refl _ | apply Drawn0.step)⟩
    rw [hand_idx_hit hlt (by rw [CD.out]; exact HQ.out)]
    simp
  ·have c3b0 : decide ((i : Int) < (l0.length : Int)) = false := decide_eq_false (by omega)
   go_wp2
   go_ret
   refine ⟨⟨-1, rfl, ?_⟩, by repeat (first | exact Drawn0.refl _ | apply Drawn0.step)⟩
   rw [hand_idx_ge hi HM.out (by omega)]
   simp
set_option maxHeartbeats 4000000 in
theorem hand_contains (g bo b : Nat) (out : List Bool) (ask : Asks g bo b out) (eg : ∀ args w, (callFunc g args).run Try.prog w = .ok (.enter g args) w)
  (A0 : Option Addr) (c0 : Nat) (l0 : List Int) (w : World) (hr0 : Kd.C (Kd.int .i64) w A0 l0.length l0) (hg : GoneAt w bo b out) (hok : handOk out.length l0) (hsz : l0.length ≤ 4611686018427387904) :
  Calls Try.prog 96 #[.slice A0 l0.length c0, .func (.func g) #[] #[.pointer (some ⟨bo, 0, none⟩)]] w fun e w' => e = .returned (.bool (handAny out l0)) ∧ Drawn0 w w' := by
 have HC := fun W (h1 : Kd.C (Kd.int .i64) W A0 l0.length l0) (h2 : GoneAt W bo b out) => hand_index g bo b out ask eg A0 c0 l0 W h1 h2 hok hsz
 have HR0 := A_ hr0
 have HG := A_ hg
 have HC_ := A_ HC
 clear hr0 hg hok ask HC
 go_enter Try.func96, Try.ntmps96
 go_wp2_with (first | (go_at_call 105; (with_reducible refine (HC_.out _ ?side1 ?side2).mono ?_); (case side1 => repeat (first | exact HR0.out | (with_reducible refine Kd.C_drewN ?_ _) | (with_reducible refine Kd.C_drew ?_))); (case side2 => exact HG.out); rintro e w' ⟨⟨i, rfl, hi⟩, ⟨nd, rfl⟩⟩))
 go_ret
 refine ⟨?_, by repeat (first | exact Drawn0.refl _ | apply Drawn0.step)⟩
 cases hq : handAny out l0 with
 | true => rw [hq] at hi; simp [hi]
 | false => rw [hq] at hi; simp at hi; simp [hi]
theorem hand_enters {f : FuncId} {fn : Func} {c : Code} (hf : Try.prog.funcs[f]? = some fn) (hname : (fn.name == "runtime.NumGoroutine") = false) (hb : fn.body = some c) : ∀ args w, (callFunc f args).run Try.prog w = .ok (.enter f args) w := by
 intro args w
 have h1 : fn.name ≠ "runtime.NumGoroutine" := by simpa using hname
 simp [callFunc, hf, h1, hb, mark]
/-! ### impl_vanishing: function 95 -/
def vanIn (l0 : List (List Int)) : Nat → Nat → List Bool → List Bool
 | 0, _, out => out
 | d + 1, x, out => vanIn l0 d (x + 1) (if handAny out (rd_L1 l0 (x : Int)) = true then out else out.set x true)
def vanOut (l0 : List (List Int)) : Nat → List Bool → List Bool
 | 0, out => out
 | d + 1, out => vanOut l0 d (vanIn l0 l0.length 0 out)
def vanOk (l0 : List (List Int)) : Bool := decide (l0.length ≤ 16) && l0.all fun r => decide (r.length ≤ 1000) && r.all fun y => decide (0 ≤ y) && decide (y < (l0.length : Int))
def impl_vanishing.f (l0 : List (List Int)) : Option (List Bool) := if vanOk l0 = true then some (vanOut l0 l0.length (List.replicate l0.length false)) else none
theorem vanOk_row {l0 : List (List Int)} (h : vanOk l0 = true) (x : Nat) (hx : x < l0.length) : handOk l0.length (rd_L1 l0 (x : Int)) ∧ (rd_L1 l0 (x : Int)).length ≤ 1000 := by
 simp only [vanOk, Bool.and_eq_true, decide_eq_true_eq, List.all_eq_true] at h
 have hm : rd_L1 l0 (x : Int) ∈ l0 := by simp [rd_L1, List.getD_eq_getElem?_getD, List.getElem?_eq_getElem hx]
 have := h.2 _ hm
 exact ⟨fun y hy => this.2 y hy, this.1⟩
theorem hand_made_event {P : Program} {ops : Array Oper} {rest : List Oper} {o : Oper} {a : Act} {Q : Exit → Act → World → Prop} {W : World} (hgd : o.guard = none) {N : Tmp} (_hd : o.dst = some N) {cs : Array Value} {t : TypeId} (vf : Nat → Value)
  (hrun : (execOp a.eval o).run P W = .ok (.value (vf W.heap.size)) (W.alloc (.cells cs t (0, 0))))
  (h : ∀ g, g = W.heap.size → ∀ w1, w1.heap[g]? = some (.cells cs t (0, 0)) → Below W.heap.size W w1 → wpList P ops Q rest (a.put o.dst (vf g)) w1) : wpList P ops Q (o :: rest) a W :=
 Kd.event_run hgd hrun (h _ rfl _ (blk_new W _) (below_alloc (Below.refl _ _) _))
theorem hand_bools_made (n : Nat) : madeCells #[Value.bool false] n = ((List.replicate n false).map Value.bool).toArray := by
 apply Array.ext
 ·simp [madeCells]
 ·intro i h1 h2
  simp [madeCells, Nat.mod_one]
theorem hand_gone {w : World} {bo b : Nat} {out : List Bool} {n : Nat} (h1 : w.heap[bo]? = some (.cells #[.slice (some ⟨b, 0, none⟩) n n] 77 (0, 0))) (h2 : w.heap[b]? = some (.cells ((out.map Value.bool).toArray) 4 (0, 0))) (hn : out.length = n) : GoneAt w bo b out := by
 subst hn
 refine ⟨(blk_cell h1 0).trans rfl, fun j hj => (blk_cell h2 j).trans ?_⟩
 simp [List.getD_eq_getElem?_getD, List.getElem?_eq_getElem hj]
set_option maxHeartbeats 8000000 in
set_option maxRecDepth 100000 in
theorem impl_vanishing.calls (A0_0 : Option Addr) (c0_0 : Nat) (l0_0 : List (List Int)) (r : List Bool) (w : World) (hr0_0 : Kd.C (Kd.slice 3 (Kd.int .i64)) w A0_0 l0_0.length l0_0) (hc0_0 : l0_0.length ≤ c0_0) (h : impl_vanishing.f l0_0 = some r) :
  Calls Try.prog 95 #[.agg #[.slice A0_0 l0_0.length c0_0]] w fun e w' => (∃ b, e = .returned (.slice (some ⟨b, 0, none⟩) r.length r.length) ∧ w.heap.size ≤ b ∧ w'.heap[b]? = some (.cells ((r.map Value.bool).toArray) 4 (0, 0))) ∧ r.length = l0_0.length ∧ Below w.heap.size w w' := by
 have hu46 := Try.underlying46
 have HR0_0 := A_ hr0_0
 have HC0_0 := A_ hc0_0
 clear hr0_0 hc0_0
 have HB := A_ (Below.refl w.heap.size w)
 have HV := A_ (show vanOk l0_0 = true by
  unfold impl_vanishing.f at h
  split at h
  ·assumption
  ·cases h)
 have hlen : l0_0.length ≤ 16 := by
  have h_ := HV.out
  simp only [vanOk, Bool.and_eq_true, decide_eq_true_eq] at h_
  exact h_.1
 have HF := A_ (show vanOut l0_0 l0_0.length (List.replicate l0_0.length false) = r by
  unfold impl_vanishing.f at h
  rw [if_pos HV.out] at h
  exact Option.some.inj h)
 clear h
 have hmk := fun W => print_make_of (P := Try.prog) 77 4 (.bool false) 1 Try.underlying77 (by kernel_rfl) rfl (by omega) l0_0.length (by omega) W
 rw [hand_bools_made] at hmk
 go_enter Try.func95, Try.ntmps95
 go_wp2_with (first
  | ((with_reducible refine gate_dst (N := 1) rfl ?_); refine box_event ?hg (N := 1) ?hd (cs := #[.slice A0_0 l0_0.length c0_0]) (t := 46) ?hr ?_; (case hd | hg => rfl); (case hr => go_simp; done); intro gb hg w3 hbox hb; have n0_ := A_ (below_step HB.out hb); have BKB := A_ (hbox); have GE := A_ ((by rw [hg]; exact (below_size HB.out) : w.heap.size ≤ gb)); clear HB; revert n0_; intro HB; clear hb hbox hg; have hcz := (blk_cell BKB.out 0).trans rfl; have hfz := blk_frozen BKB.out 0)
  | ((with_reducible refine gate_dst (N := 9) rfl ?_); refine hand_made_event ?hg (N := 9) ?hd (cs := ((List.replicate l0_0.length false).map Value.bool).toArray) (t := 4) (fun g_ => .slice (some ⟨g_, 0, none⟩) l0_0.length l0_0.length) ?hr ?_; (case hd | hg => rfl); (case hr => go_simp; done); intro gm hg w4 hbox hb; have nA_ := A_ (blk_below BKB.out hb); clear BKB; have BKB := nA_; clear nA_; have n0_ := A_ (below_step HB.out hb); have BKM := A_ hbox; have GM := A_ ((by rw [hg]; exact (below_size HB.out) : w.heap.size ≤ gm)); clear HB; revert n0_; intro HB; clear hb hbox hg)
  | ((with_reducible refine gate_dst (N := 3) rfl ?_); refine box_event ?hg (N := 3) ?hd (cs := #[.slice none 0 0]) (t := 77) ?hr ?_; (case hd | hg => rfl); (case hr => go_simp; done); intro gv hg w5 hbox hb; have nA_ := A_ (blk_below BKB.out hb); clear BKB; have BKB := nA_; clear nA_; have nA_ := A_ (blk_below BKM.out hb); clear BKM; have BKM := nA_; clear nA_; have n0_ := A_ (below_step HB.out hb); have BKV := A_ hbox; have GV := A_ ((by rw [hg]; exact (below_size HB.out) : w.heap.size ≤ gv)); clear HB; revert n0_; intro HB; clear hb hbox hg; have hcv := (blk_cell BKV.out 0).trans rfl; have hfv := blk_frozen BKV.out 0)
  | ((with_reducible refine gate_store (t := 77) (p := 3) rfl ?_); refine store_event ?hg ?ho ?hN (t := 77) (p := 3) (v := ?vo) (w1 := ?w1) ?hr ?_; (case ho => rfl); (case hg => rfl); (case hN => rfl); (case hr => go_simp; rfl); intro w6 hw6; have nV_ := A_ (show w6.heap[gv]? = some (.cells #[.slice (some ⟨gm, 0, none⟩) l0_0.length l0_0.length] 77 (0, 0)) by rw [hw6]; exact blk_set BKV.out 0 _); have nB_ := A_ (show w6.heap[gb]? = some (.cells #[.slice A0_0 l0_0.length c0_0] 46 (0, 0)) by rw [hw6]; exact blk_far BKB.out (blk_ne BKB.out BKV.out (by decide)) _); have nM_ := A_ (show w6.heap[gm]? = some (.cells (((List.replicate l0_0.length false).map Value.bool).toArray) 4 (0, 0)) by rw [hw6]; exact blk_far BKM.out (blk_ne BKM.out BKV.out (by decide)) _); have n0_ := A_ (show Below w.heap.size w w6 by rw [hw6]; exact below_set HB.out GV.out); clear BKV BKB BKM HB hcv hfv hcz hfz hw6; have BKV := nV_; have BKB := nB_; have BKM := nM_; revert n0_; intro HB; clear nV_ nB_ nM_; have hcz : w6.cell? ⟨gb, 0, none⟩ = some (.slice A0_0 l0_0.length c0_0) := (blk_cell BKB.out 0).trans rfl; have hfz := blk_frozen BKB.out 0)
  )
 clear hmk hcz hfz
 go_loopg [13] (l0_0.length + 1) (fun kq v13 w' => ∃ (i : Nat) (out : List Bool), v13 = .int .i64 (i : Int) ∧ i ≤ l0_0.length ∧ l0_0.length + 1 - i ≤ kq ∧ out.length = l0_0.length ∧ Aside0 (vanOut l0_0 (l0_0.length - i) out = r) ∧ Aside0 (w'.heap[gb]? = some (.cells #[.slice A0_0 l0_0.length c0_0] 46 (0, 0))) ∧ Aside0 (w'.heap[gv]? = some (.cells #[.slice (some ⟨gm, 0, none⟩) l0_0.length l0_0.length] 77 (0, 0))) ∧ Aside0 (w'.heap[gm]? = some (.cells ((out.map Value.bool).toArray) 4 (0, 0))) ∧ Aside0 (Below w.heap.size w w'))
 case atStart => exact ⟨0, List.replicate l0_0.length false, rfl, by omega, by omega, by simp, HF, ⟨BKB.out⟩, ⟨BKV.out⟩, ⟨BKM.out⟩, ⟨HB.out⟩⟩
 case round =>
  clear HF BKB BKV BKM HB
  obtain ⟨i, out, rfl, hi, hk, hol, HF, BKB, BKV, BKM, HB⟩ := hrel
  by_cases hlt : i < l0_0.length
  ·have c3b0 : decide ((i : Int) < (l0_0.length : Int)) = true := decide_eq_true (by omega)
   have hcz : wr.cell? ⟨gb, 0, none⟩ = some (.slice A0_0 l0_0.length c0_0) := (blk_cell BKB.out 0).trans rfl
   have hfz := blk_frozen BKB.out 0
   obtain ⟨d, hd⟩ : ∃ d, l0_0.length - i = d + 1 := ⟨l0_0.length - i - 1, by omega⟩
   rw [hd] at HF
   have HF2 := A_ (show vanOut l0_0 d (vanIn l0_0 l0_0.length 0 out) = r from HF.out)
   clear HF
   go_wp2
   clear hcz hfz
   go_loopg [18] (l0_0.length + 1) (fun kq v18 w' => ∃ (x : Nat) (out : List Bool), v18 = .int .i64 (x : Int) ∧ x ≤ l0_0.length ∧ l0_0.length + 1 - x ≤ kq ∧ out.length = l0_0.length ∧ Aside0 (vanOut l0_0 d (vanIn l0_0 (l0_0.length - x) x out) = r) ∧ Aside0 (w'.heap[gb]? = some (.cells #[.slice A0_0 l0_0.length c0_0] 46 (0, 0))) ∧ Aside0 (w'.heap[gv]? = some (.cells #[.slice (some ⟨gm, 0, none⟩) l0_0.length l0_0.length] 77 (0, 0))) ∧ Aside0 (w'.heap[gm]? = some (.cells ((out.map Value.bool).toArray) 4 (0, 0))) ∧ Aside0 (Below w.heap.size w w'))
   case atStart => exact ⟨0, out, rfl, by omega, by omega, hol, HF2, ⟨BKB.out⟩, ⟨BKV.out⟩, ⟨BKM.out⟩, ⟨HB.out⟩⟩
   case round =>
    clear HF2 BKB BKV BKM HB c3b0
    obtain ⟨x, out, rfl, hx, hkx, hol, HF2, BKB, BKV, BKM, HB⟩ := hrel
    by_cases hlx : x < l0_0.length
    ·have c3b0 : decide ((x : Int) < (l0_0.length : Int)) = true := decide_eq_true (by omega)
     have hrow := vanOk_row HV.out x hlx
     obtain ⟨ad, A1, c1, e1, hx1, hl1, hi1⟩ := at_L1 HR0_0.out (x : Int) (by omega) (by omega)
     cases e1
     rw [Int.toNat_natCast] at hx1
     replace hx1 := (HB.out.cell (World.block_lt_of_cell? w _ hx1)).trans hx1
     have HR1 := A_ hi1
     have HG := A_ (hand_gone BKV.out BKM.out hol)
     have HRO := A_ hrow
     clear hi1 hrow
     have p1 : (0 ≤ (x : Int)) = True := eq_true (by omega)
     have q1 : ((x : Int) < (l0_0.length : Int)) = True := eq_true (by omega)
     obtain ⟨d2, hd2⟩ : ∃ d2, l0_0.length - x = d2 + 1 := ⟨l0_0.length - x - 1, by omega⟩
     rw [hd2] at HF2
     have CC := A_ (fun W h1 h2 => hand_contains 104 gv gm out (hand_pred104 gv gm out) (hand_enters Try.func104 (by kernel_rfl) rfl) A1 c1 (rd_L1 l0_0 (x : Int)) W h1 h2 (by rw [hol]; exact HRO.out.1) (by have h_ := HRO.out.2; omega))
     cases hq : handAny out (rd_L1 l0_0 (x : Int)) with
     | true =>
      have HF3 := A_ (show vanOut l0_0 d (vanIn l0_0 d2 (x + 1) out) = r by have h_ := HF2.out; simp only [vanIn, hq, if_true] at h_; exact h_)
      rw [hq] at CC
      clear HF2 hq
      go_wp2_with (first | (go_at_call 96; (with_reducible refine (CC.out _ ?side1 ?side2).mono ?_); (case side1 => repeat (first | exact (Kd.C_below HR1.out HB.out) | (with_reducible refine Kd.C_alloc ?_ _) | (with_reducible refine Kd.C_drewN ?_ _) | (with_reducible refine Kd.C_drew ?_))); (case side2 => exact HG.out); rintro e w' ⟨rfl, ⟨nd, rfl⟩⟩))
      go_roundg (l0_0.length + 1 - (x + 1))
      case measure => omega
      case rel => exact ⟨x + 1, out, by go_num, by omega, by omega, hol, ⟨by rw [show l0_0.length - (x + 1) = d2 by omega]; exact HF3.out⟩, ⟨by (with_reducible repeat (first | refine blk_drewN ?_ _ | refine blk_drew ?_)); exact BKB.out⟩, ⟨by (with_reducible repeat (first | refine blk_drewN ?_ _ | refine blk_drew ?_)); exact BKV.out⟩, ⟨by (with_reducible repeat (first | refine blk_drewN ?_ _ | refine blk_drew ?_)); exact BKM.out⟩, ⟨by repeat (first | (with_reducible first | exact HB.out | apply below_alloc | apply pw_below_drewN | apply below_drew1) | exact HB.out)⟩⟩
     | false =>
      have HF3 := A_ (show vanOut l0_0 d (vanIn l0_0 d2 (x + 1) (out.set x true)) = r by have h_ := HF2.out; simp only [vanIn, hq] at h_; exact h_)
      rw [hq] at CC
      clear HF2 hq
      have hcv : wr.cell? ⟨gv, 0, none⟩ = some (.slice (some ⟨gm, 0, none⟩) l0_0.length l0_0.length) := (blk_cell BKV.out 0).trans rfl
      have hfv := blk_frozen BKV.out 0
      have hcm : wr.cell? ⟨gm, x, none⟩ = some (.bool (out.getD x false)) := (blk_cell BKM.out x).trans (by simp [List.getD_eq_getElem?_getD, List.getElem?_eq_getElem (show x < out.length by omega)])
      have hfm := blk_frozen BKM.out x
      go_wp2_with (first | (go_at_call 96; (with_reducible refine (CC.out _ ?side1 ?side2).mono ?_); (case side1 => repeat (first | exact (Kd.C_below HR1.out HB.out) | (with_reducible refine Kd.C_alloc ?_ _) | (with_reducible refine Kd.C_drewN ?_ _) | (with_reducible refine Kd.C_drew ?_))); (case side2 => exact HG.out); rintro e w' ⟨rfl, ⟨nd, rfl⟩⟩))
      go_roundg (l0_0.length + 1 - (x + 1))
      case measure => omega
      case rel =>
       refine ⟨x + 1, out.set x true, by go_num, by omega, by omega, by simpa using hol, ⟨by rw [show l0_0.length - (x + 1) = d2 by omega]; exact HF3.out⟩, ⟨?_⟩, ⟨?_⟩, ⟨?_⟩, ⟨?_⟩⟩
       ·(with_reducible repeat (first | refine blk_drewN ?_ _ | refine blk_drew ?_))
        exact blk_far (by (with_reducible repeat (first | refine blk_drewN ?_ _ | refine blk_drew ?_)); exact BKB.out) (blk_ne BKB.out BKM.out (by decide)) _
       ·(with_reducible repeat (first | refine blk_drewN ?_ _ | refine blk_drew ?_))
        exact blk_far (by (with_reducible repeat (first | refine blk_drewN ?_ _ | refine blk_drew ?_)); exact BKV.out) (blk_ne BKV.out BKM.out (by decide)) _
       ·(with_reducible repeat (first | refine blk_drewN ?_ _ | refine blk_drew ?_))
        refine Eq.trans (blk_set (by (with_reducible repeat (first | refine blk_drewN ?_ _ | refine blk_drew ?_)); exact BKM.out) x (.bool true)) ?_
        simp
       ·repeat (first | (with_reducible first | exact HB.out | apply below_alloc | apply pw_below_drewN | apply below_drew1 | refine below_set ?_ GM.out) | exact HB.out)
    ·have c3b0 : decide ((x : Int) < (l0_0.length : Int)) = false := decide_eq_false (by omega)
     rw [show l0_0.length - x = 0 by omega] at HF2
     go_wp2
     go_roundg (l0_0.length + 1 - (i + 1))
     case measure => omega
     case rel => exact ⟨i + 1, out, by go_num, by omega, by omega, hol, ⟨by rw [show l0_0.length - (i + 1) = d by omega]; exact HF2.out⟩, ⟨BKB.out⟩, ⟨BKV.out⟩, ⟨BKM.out⟩, ⟨HB.out⟩⟩
  ·have c3b0 : decide ((i : Int) < (l0_0.length : Int)) = false := decide_eq_false (by omega)
   have hcv : wr.cell? ⟨gv, 0, none⟩ = some (.slice (some ⟨gm, 0, none⟩) l0_0.length l0_0.length) := (blk_cell BKV.out 0).trans rfl
   have hfv := blk_frozen BKV.out 0
   rw [show l0_0.length - i = 0 by omega] at HF
   go_wp2
   go_ret
   have hr_ : out = r := HF.out
   subst hr_
   exact ⟨⟨gm, by simp [hol], GM.out, BKM.out⟩, hol, HB.out⟩
/-! ### impl_IsGrowing: function 87 -/
theorem hand_asks97 (bo b : Nat) (out : List Bool) : Asks 97 bo b out := hand_pred97 bo b out
def impl_IsGrowing.f (k : Nat) (l0_0 : List (List Int)) (a1 : Int) : Option Bool := (impl_IsMorphism.f k l0_0).bind fun t => (if t = true then (if a1 < 0 then (some false) else (if a1 ≥ (l0_0.length : Int) then (some false) else (if ((rd_L1 l0_0 a1).length : Int) < 2 then (some false) else (if (rd (rd_L1 l0_0 a1) 0) = a1 then ((impl_vanishing.f l0_0).bind fun t2 => (some (handAny t2 ((rd_L1 l0_0 a1).drop 1)))) else (some false))))) else (some false))
theorem impl_IsGrowing.mono : ∀ a0 a1 k, LeO (impl_IsGrowing.f k a0 a1) (impl_IsGrowing.f (k + 1) a0 a1) := by
 intro a0 a1 k
 unfold impl_IsGrowing.f
 exact LeO.bind (impl_IsMorphism.mono _ _) (fun _ => LeO.refl _)
set_option maxHeartbeats 8000000 in
set_option maxRecDepth 100000 in
theorem impl_IsGrowing.calls (k : Nat) (A0_0 : Option Addr) (c0_0 : Nat) (l0_0 : List (List Int)) (a1 : Int) (r : Bool) (w : World) (hr0_0 : Kd.C (Kd.slice 3 (Kd.int .i64)) w A0_0 l0_0.length l0_0) (hc0_0 : l0_0.length ≤ c0_0) (h : impl_IsGrowing.f k l0_0 a1 = some r) :
  Calls Try.prog 87 #[.agg #[.slice A0_0 l0_0.length c0_0], .int .i64 a1] w fun e w' => e = .returned (.bool r) ∧ Below w.heap.size w w' := by
 have hu46 := Try.underlying46
 have HR0_0 := A_ hr0_0
 have HC0_0 := A_ hc0_0
 clear hr0_0 hc0_0
 have HB := A_ (Below.refl w.heap.size w)
 unfold impl_IsGrowing.f at h
 obtain ⟨t, hm, h⟩ := Option.bind_eq_some_iff.mp h
 cases t with
 | false =>
  have AM := A_ hm
  rw [if_neg (by simp)] at h
  obtain rfl := Option.some.inj h
  clear hm h
  go_enter Try.func87, Try.ntmps87
  go_wp2_with (first | ((with_reducible refine gate_dst (N := 2) rfl ?_); refine box_event ?hg (N := 2) ?hd (cs := #[.slice A0_0 l0_0.length c0_0]) (t := 46) ?hr ?_; (case hd | hg => rfl); (case hr => go_simp; done); intro gb hg w3 hbox hb; have n0_ := A_ (below_step HB.out hb); have BKB := A_ (hbox); clear HB; revert n0_; intro HB; clear hb hbox hg; have hcz : w3.cell? ⟨gb, 0, none⟩ = some (.slice A0_0 l0_0.length c0_0) := (blk_cell BKB.out 0).trans rfl; have hfz := blk_frozen BKB.out 0) | ((with_reducible refine gate_callee (f := 94) rfl ?_); refine goesL_ (some 8) rfl rfl Try.func94 (by kernel_rfl) rfl #[.agg #[.slice A0_0 l0_0.length c0_0]] rfl (by (try simp only [List.map_toArray, List.map_cons, List.map_nil]); first | done | rfl | (simp only [List.length_drop, List.length_take]; rfl)) ?_; (with_reducible refine (impl_IsMorphism.calls k _ _ l0_0 false _ ?side1 ?side2 AM.out).mono ?_); (case side1 => repeat (first | exact (Kd.C_below HR0_0.out HB.out) | (with_reducible refine Kd.C_alloc ?_ _) | (with_reducible refine Kd.C_drewN ?_ _) | (with_reducible refine Kd.C_drew ?_))); (case side2 => exact HC0_0.out); rintro e w4 ⟨rfl, hb⟩; refine ⟨_, rfl, ?_⟩; have n1_ := A_ (below_step HB.out hb); have n2_ := A_ (blk_below BKB.out hb); clear HB BKB hcz hfz; revert n1_ n2_; intro HB BKB; clear hb; have hcz : w4.cell? ⟨gb, 0, none⟩ = some (.slice A0_0 l0_0.length c0_0) := (blk_cell BKB.out 0).trans rfl; have hfz := blk_frozen BKB.out 0))
  go_ret
  exact ⟨by rfl, HB.out⟩
 | true =>
  have AM := A_ hm
  rw [if_pos rfl] at h
  clear hm
  by_cases c1 : a1 < 0
  ·rw [if_pos c1] at h
   obtain rfl := Option.some.inj h
   have c1b : decide (a1 < 0) = true := decide_eq_true c1
   clear h c1
   go_enter Try.func87, Try.ntmps87
   go_wp2_with (first | ((with_reducible refine gate_dst (N := 2) rfl ?_); refine box_event ?hg (N := 2) ?hd (cs := #[.slice A0_0 l0_0.length c0_0]) (t := 46) ?hr ?_; (case hd | hg => rfl); (case hr => go_simp; done); intro gb hg w3 hbox hb; have n0_ := A_ (below_step HB.out hb); have BKB := A_ (hbox); clear HB; revert n0_; intro HB; clear hb hbox hg; have hcz : w3.cell? ⟨gb, 0, none⟩ = some (.slice A0_0 l0_0.length c0_0) := (blk_cell BKB.out 0).trans rfl; have hfz := blk_frozen BKB.out 0) | ((with_reducible refine gate_callee (f := 94) rfl ?_); refine goesL_ (some 8) rfl rfl Try.func94 (by kernel_rfl) rfl #[.agg #[.slice A0_0 l0_0.length c0_0]] rfl (by (try simp only [List.map_toArray, List.map_cons, List.map_nil]); first | done | rfl | (simp only [List.length_drop, List.length_take]; rfl)) ?_; (with_reducible refine (impl_IsMorphism.calls k _ _ l0_0 true _ ?side1 ?side2 AM.out).mono ?_); (case side1 => repeat (first | exact (Kd.C_below HR0_0.out HB.out) | (with_reducible refine Kd.C_alloc ?_ _) | (with_reducible refine Kd.C_drewN ?_ _) | (with_reducible refine Kd.C_drew ?_))); (case side2 => exact HC0_0.out); rintro e w4 ⟨rfl, hb⟩; refine ⟨_, rfl, ?_⟩; have n1_ := A_ (below_step HB.out hb); have n2_ := A_ (blk_below BKB.out hb); clear HB BKB hcz hfz; revert n1_ n2_; intro HB BKB; clear hb; have hcz : w4.cell? ⟨gb, 0, none⟩ = some (.slice A0_0 l0_0.length c0_0) := (blk_cell BKB.out 0).trans rfl; have hfz := blk_frozen BKB.out 0))
   go_ret
   exact ⟨by rfl, HB.out⟩
  ·rw [if_neg c1] at h
   have c1b : decide (a1 < 0) = false := decide_eq_false c1
   by_cases c2 : a1 ≥ (l0_0.length : Int)
   ·rw [if_pos c2] at h
    obtain rfl := Option.some.inj h
    have c2b : decide ((l0_0.length : Int) ≤ a1) = true := decide_eq_true c2
    clear h c1 c2
    go_enter Try.func87, Try.ntmps87
    go_wp2_with (first | ((with_reducible refine gate_dst (N := 2) rfl ?_); refine box_event ?hg (N := 2) ?hd (cs := #[.slice A0_0 l0_0.length c0_0]) (t := 46) ?hr ?_; (case hd | hg => rfl); (case hr => go_simp; done); intro gb hg w3 hbox hb; have n0_ := A_ (below_step HB.out hb); have BKB := A_ (hbox); clear HB; revert n0_; intro HB; clear hb hbox hg; have hcz : w3.cell? ⟨gb, 0, none⟩ = some (.slice A0_0 l0_0.length c0_0) := (blk_cell BKB.out 0).trans rfl; have hfz := blk_frozen BKB.out 0) | ((with_reducible refine gate_callee (f := 94) rfl ?_); refine goesL_ (some 8) rfl rfl Try.func94 (by kernel_rfl) rfl #[.agg #[.slice A0_0 l0_0.length c0_0]] rfl (by (try simp only [List.map_toArray, List.map_cons, List.map_nil]); first | done | rfl | (simp only [List.length_drop, List.length_take]; rfl)) ?_; (with_reducible refine (impl_IsMorphism.calls k _ _ l0_0 true _ ?side1 ?side2 AM.out).mono ?_); (case side1 => repeat (first | exact (Kd.C_below HR0_0.out HB.out) | (with_reducible refine Kd.C_alloc ?_ _) | (with_reducible refine Kd.C_drewN ?_ _) | (with_reducible refine Kd.C_drew ?_))); (case side2 => exact HC0_0.out); rintro e w4 ⟨rfl, hb⟩; refine ⟨_, rfl, ?_⟩; have n1_ := A_ (below_step HB.out hb); have n2_ := A_ (blk_below BKB.out hb); clear HB BKB hcz hfz; revert n1_ n2_; intro HB BKB; clear hb; have hcz : w4.cell? ⟨gb, 0, none⟩ = some (.slice A0_0 l0_0.length c0_0) := (blk_cell BKB.out 0).trans rfl; have hfz := blk_frozen BKB.out 0))
    go_ret
    exact ⟨by rfl, HB.out⟩
   ·rw [if_neg c2] at h
    have c2b : decide ((l0_0.length : Int) ≤ a1) = false := decide_eq_false c2
    have p1 : 0 ≤ a1 := by omega
    have q1 : a1 < (l0_0.length : Int) := by omega
    obtain ⟨ad, A1, cc1, e1, hx1, hl1, hi1⟩ := at_L1 HR0_0.out a1 p1 q1
    cases e1
    have HX1 := A_ hx1
    have HR1 := A_ hi1
    have HC1 := A_ hl1
    clear c1 c2 hx1 hi1 hl1
    have PQ := A_ (And.intro p1 q1)
    replace p1 := eq_true p1
    replace q1 := eq_true q1
    by_cases c3 : ((rd_L1 l0_0 a1).length : Int) < 2
    ·rw [if_pos c3] at h
     obtain rfl := Option.some.inj h
     have c3b : decide (((rd_L1 l0_0 a1).length : Int) < 2) = true := decide_eq_true c3
     have c3b1 : decide ((rd_L1 l0_0 a1).length < 2) = true := decide_eq_true (by omega)
     clear h c3
     go_enter Try.func87, Try.ntmps87
     go_wp2_with (first | ((with_reducible refine gate_dst (N := 2) rfl ?_); refine box_event ?hg (N := 2) ?hd (cs := #[.slice (some ad) l0_0.length c0_0]) (t := 46) ?hr ?_; (case hd | hg => rfl); (case hr => go_simp; done); intro gb hg w3 hbox hb; have n0_ := A_ (below_step HB.out hb); have BKB := A_ (hbox); clear HB; revert n0_; intro HB; clear hb hbox hg; have hcz : w3.cell? ⟨gb, 0, none⟩ = some (.slice (some ad) l0_0.length c0_0) := (blk_cell BKB.out 0).trans rfl; have hfz := blk_frozen BKB.out 0) | ((with_reducible refine gate_callee (f := 94) rfl ?_); refine goesL_ (some 8) rfl rfl Try.func94 (by kernel_rfl) rfl #[.agg #[.slice (some ad) l0_0.length c0_0]] rfl (by (try simp only [List.map_toArray, List.map_cons, List.map_nil]); first | done | rfl | (simp only [List.length_drop, List.length_take]; rfl)) ?_; (with_reducible refine (impl_IsMorphism.calls k _ _ l0_0 true _ ?side1 ?side2 AM.out).mono ?_); (case side1 => repeat (first | exact (Kd.C_below HR0_0.out HB.out) | (with_reducible refine Kd.C_alloc ?_ _) | (with_reducible refine Kd.C_drewN ?_ _) | (with_reducible refine Kd.C_drew ?_))); (case side2 => exact HC0_0.out); rintro e w4 ⟨rfl, hb⟩; refine ⟨_, rfl, ?_⟩; have n1_ := A_ (below_step HB.out hb); have n2_ := A_ (blk_below BKB.out hb); clear HB BKB hcz hfz; revert n1_ n2_; intro HB BKB; clear hb; have hcz : w4.cell? ⟨gb, 0, none⟩ = some (.slice (some ad) l0_0.length c0_0) := (blk_cell BKB.out 0).trans rfl; have hfz := blk_frozen BKB.out 0; have hx1 := (HB.out.cell (World.block_lt_of_cell? w _ HX1.out)).trans HX1.out))
     go_ret
     exact ⟨by rfl, HB.out⟩
    ·rw [if_neg c3] at h
     have c3b : decide (((rd_L1 l0_0 a1).length : Int) < 2) = false := decide_eq_false c3
     have c3b1 : decide ((rd_L1 l0_0 a1).length < 2) = false := decide_eq_false (by omega)
     obtain ⟨ad1, e2, hx2⟩ := Kd.at_int HR1.out 0 (by omega) (by omega)
     cases e2
     have HX2 := A_ (show w.cell? ad1 = some (.int .i64 (rd (rd_L1 l0_0 a1) 0)) from hx2)
     clear hx2
     have q2 : ((0 : Int) < ((rd_L1 l0_0 a1).length : Int)) = True := eq_true (by omega)
     have q3 : (0 < (rd_L1 l0_0 a1).length) = True := eq_true (by omega)
     have HL := A_ (show 2 ≤ (rd_L1 l0_0 a1).length by omega)
     clear c3
     by_cases c4 : rd (rd_L1 l0_0 a1) 0 = a1
     ·rw [if_pos c4] at h
      obtain ⟨t2, hv, h⟩ := Option.bind_eq_some_iff.mp h
      obtain rfl := Option.some.inj h
      have AV := A_ hv
      have c4b : (rd (rd_L1 l0_0 a1) 0 != a1) = false := by simpa using c4
      have c4c : (rd (rd_L1 l0_0 a1) 0 == a1) = true := by simpa using c4
      have c4d : decide (rd (rd_L1 l0_0 a1) 0 = a1) = true := decide_eq_true c4
      have HVO := A_ (show vanOk l0_0 = true by
       unfold impl_vanishing.f at hv
       split at hv
       ·assumption
       ·cases hv)
      obtain ⟨na, hna⟩ := Int.eq_ofNat_of_zero_le PQ.out.1
      have HRO := A_ (show handOk l0_0.length (rd_L1 l0_0 a1) ∧ (rd_L1 l0_0 a1).length ≤ 1000 by rw [hna]; exact vanOk_row HVO.out na (by have h_ := PQ.out.2; omega))
      clear hna h hv c4
      obtain ⟨i0, hi0, _, hsz0, _⟩ := info_parts (show (Try.prog.info? 3).map (fun i => (i.zero, i.size, i.bytes)) = some (some (.int .i64 0), 1, 8) by kernel_rfl)
      obtain ⟨A2, hcut, hA2, hC2⟩ := print_drop_of (P := Try.prog) (Value.int .i64) (0 : Int) 24 3 .i64 Try.underlying24 hi0 hsz0 (some ad1) cc1 (rd_L1 l0_0 a1) 1 (by omega) (by have h_ := HL.out; omega) HC1.out
      have HR2 := A_ (Kd.C_of_reads (h1 := fun _ => rfl) (hA2 _ (Kd.reads_of_C HR1.out)))
      have HC2 := A_ hC2
      clear hA2 hC2
      simp only [Int.toNat_one] at hcut HR2 HC2
      go_enter Try.func87, Try.ntmps87
      go_wp2_with (first | ((with_reducible refine gate_dst (N := 2) rfl ?_); refine box_event ?hg (N := 2) ?hd (cs := #[.slice (some ad) l0_0.length c0_0]) (t := 46) ?hr ?_; (case hd | hg => rfl); (case hr => go_simp; done); intro gb hg w3 hbox hb; have n0_ := A_ (below_step HB.out hb); have BKB := A_ (hbox); clear HB; revert n0_; intro HB; clear hb hbox hg; have hcz : w3.cell? ⟨gb, 0, none⟩ = some (.slice (some ad) l0_0.length c0_0) := (blk_cell BKB.out 0).trans rfl; have hfz := blk_frozen BKB.out 0) | ((with_reducible refine gate_callee (f := 94) rfl ?_); refine goesL_ (some 8) rfl rfl Try.func94 (by kernel_rfl) rfl #[.agg #[.slice (some ad) l0_0.length c0_0]] rfl (by (try simp only [List.map_toArray, List.map_cons, List.map_nil]); first | done | rfl | (simp only [List.length_drop, List.length_take]; rfl)) ?_; (with_reducible refine (impl_IsMorphism.calls k _ _ l0_0 true _ ?side1 ?side2 AM.out).mono ?_); (case side1 => repeat (first | exact (Kd.C_below HR0_0.out HB.out) | (with_reducible refine Kd.C_alloc ?_ _) | (with_reducible refine Kd.C_drewN ?_ _) | (with_reducible refine Kd.C_drew ?_))); (case side2 => exact HC0_0.out); rintro e w4 ⟨rfl, hb⟩; refine ⟨_, rfl, ?_⟩; have n1_ := A_ (below_step HB.out hb); have n2_ := A_ (blk_below BKB.out hb); clear HB BKB hcz hfz; revert n1_ n2_; intro HB BKB; clear hb; have hcz : w4.cell? ⟨gb, 0, none⟩ = some (.slice (some ad) l0_0.length c0_0) := (blk_cell BKB.out 0).trans rfl; have hfz := blk_frozen BKB.out 0; have hx1 := (HB.out.cell (World.block_lt_of_cell? w _ HX1.out)).trans HX1.out; have hx2 := (HB.out.cell (World.block_lt_of_cell? w _ HX2.out)).trans HX2.out) | ((with_reducible refine gate_callee (f := 95) rfl ?_); refine goesL_ (some 37) rfl rfl Try.func95 (by kernel_rfl) rfl #[.agg #[.slice (some ad) l0_0.length c0_0]] rfl (by (try simp only [List.map_toArray, List.map_cons, List.map_nil]); first | done | rfl) ?_; (with_reducible refine (impl_vanishing.calls _ _ l0_0 t2 _ ?side1 ?side2 AV.out).mono ?_); (case side1 => repeat (first | exact (Kd.C_below HR0_0.out HB.out) | (with_reducible refine Kd.C_alloc ?_ _) | (with_reducible refine Kd.C_drewN ?_ _) | (with_reducible refine Kd.C_drew ?_))); (case side2 => exact HC0_0.out); rintro e w7 ⟨⟨gm, rfl, hgm, hbm⟩, hlen, hb⟩; refine ⟨_, rfl, ?_⟩; have n1_ := A_ (below_step HB.out hb); have BKM := A_ hbm; have HLM := A_ hlen; clear HB BKB hcz hfz hx1 hx2; revert n1_; intro HB; clear hb hbm hlen hgm) | ((with_reducible refine gate_dst (N := 6) rfl ?_); refine box_event ?hg (N := 6) ?hd (cs := #[.slice none 0 0]) (t := 77) ?hr ?_; (case hd | hg => rfl); (case hr => go_simp; done); intro gv hg w8 hbox hb; have nA_ := A_ (blk_below BKM.out hb); clear BKM; have BKM := nA_; clear nA_; have GV := A_ ((by rw [hg]; exact (below_size HB.out) : w.heap.size ≤ gv)); have n0_ := A_ (below_step HB.out hb); have BKV := A_ hbox; clear HB; revert n0_; intro HB; clear hb hbox hg; have hcv : w8.cell? ⟨gv, 0, none⟩ = some (.slice none 0 0) := (blk_cell BKV.out 0).trans rfl; have hfv := blk_frozen BKV.out 0) | ((with_reducible refine gate_store (t := 77) (p := 6) rfl ?_); refine store_event ?hg ?ho ?hN (t := 77) (p := 6) (v := ?vo) (w1 := ?w1) ?hr ?_; (case ho => rfl); (case hg => rfl); (case hN => rfl); (case hr => go_simp; rfl); intro w9 hw9; have nV_ := A_ (show w9.heap[gv]? = some (.cells #[.slice (some ⟨gm, 0, none⟩) t2.length t2.length] 77 (0, 0)) by rw [hw9]; exact blk_set BKV.out 0 _); have nM_ := A_ (show w9.heap[gm]? = some (.cells ((t2.map Value.bool).toArray) 4 (0, 0)) by rw [hw9]; exact blk_far BKM.out (blk_ne BKM.out BKV.out (by decide)) _); have n0_ := A_ (show Below w.heap.size w w9 by rw [hw9]; exact below_set HB.out GV.out); clear BKV BKM HB hcv hfv hw9; have BKV := nV_; have BKM := nM_; revert n0_; intro HB; clear nV_ nM_; have HG := A_ (hand_gone BKV.out BKM.out rfl)) | ((with_reducible refine gate_callee (f := 96) rfl ?_); refine goesL_ (some 41) rfl rfl Try.func96 (by kernel_rfl) rfl #[.slice A2 ((rd_L1 l0_0 a1).drop 1).length (cc1 - 1), .func (.func 97) #[] #[.pointer (some ⟨gv, 0, none⟩)]] rfl (by (try simp only [List.map_toArray, List.map_cons, List.map_nil]); first | done | rfl | (simp only [List.length_drop, List.length_take]; rfl)) ?_; (with_reducible refine (hand_contains 97 gv gm t2 (hand_asks97 gv gm t2) (hand_enters Try.func97 (by kernel_rfl) rfl) A2 (cc1 - 1) ((rd_L1 l0_0 a1).drop 1) _ ?side1 ?side2 ?side3 ?side4).mono ?_); (case side1 => repeat (first | exact (Kd.C_below HR2.out HB.out) | (with_reducible refine Kd.C_alloc ?_ _) | (with_reducible refine Kd.C_drewN ?_ _) | (with_reducible refine Kd.C_drew ?_))); (case side2 => exact HG.out); (case side3 => rw [HLM.out]; exact fun y hy => HRO.out.1 y (List.mem_of_mem_drop hy)); (case side4 => have h_ := HRO.out.2; simp only [List.length_drop]; omega); rintro e w10 ⟨rfl, ⟨nd, rfl⟩⟩; refine ⟨_, rfl, ?_⟩))
      go_ret
      exact ⟨by (simp; done), by repeat (first | (with_reducible first | exact HB.out | apply below_alloc | apply pw_below_drewN | apply below_drew1) | exact HB.out)⟩
     ·rw [if_neg c4] at h
      obtain rfl := Option.some.inj h
      have c4b : (rd (rd_L1 l0_0 a1) 0 != a1) = true := by simpa using c4
      have c4c : (rd (rd_L1 l0_0 a1) 0 == a1) = false := by simpa using c4
      have c4d : decide (rd (rd_L1 l0_0 a1) 0 = a1) = false := decide_eq_false c4
      clear h
      go_enter Try.func87, Try.ntmps87
      go_wp2_with (first | ((with_reducible refine gate_dst (N := 2) rfl ?_); refine box_event ?hg (N := 2) ?hd (cs := #[.slice (some ad) l0_0.length c0_0]) (t := 46) ?hr ?_; (case hd | hg => rfl); (case hr => go_simp; done); intro gb hg w3 hbox hb; have n0_ := A_ (below_step HB.out hb); have BKB := A_ (hbox); clear HB; revert n0_; intro HB; clear hb hbox hg; have hcz : w3.cell? ⟨gb, 0, none⟩ = some (.slice (some ad) l0_0.length c0_0) := (blk_cell BKB.out 0).trans rfl; have hfz := blk_frozen BKB.out 0) | ((with_reducible refine gate_callee (f := 94) rfl ?_); refine goesL_ (some 8) rfl rfl Try.func94 (by kernel_rfl) rfl #[.agg #[.slice (some ad) l0_0.length c0_0]] rfl (by (try simp only [List.map_toArray, List.map_cons, List.map_nil]); first | done | rfl | (simp only [List.length_drop, List.length_take]; rfl)) ?_; (with_reducible refine (impl_IsMorphism.calls k _ _ l0_0 true _ ?side1 ?side2 AM.out).mono ?_); (case side1 => repeat (first | exact (Kd.C_below HR0_0.out HB.out) | (with_reducible refine Kd.C_alloc ?_ _) | (with_reducible refine Kd.C_drewN ?_ _) | (with_reducible refine Kd.C_drew ?_))); (case side2 => exact HC0_0.out); rintro e w4 ⟨rfl, hb⟩; refine ⟨_, rfl, ?_⟩; have n1_ := A_ (below_step HB.out hb); have n2_ := A_ (blk_below BKB.out hb); clear HB BKB hcz hfz; revert n1_ n2_; intro HB BKB; clear hb; have hcz : w4.cell? ⟨gb, 0, none⟩ = some (.slice (some ad) l0_0.length c0_0) := (blk_cell BKB.out 0).trans rfl; have hfz := blk_frozen BKB.out 0; have hx1 := (HB.out.cell (World.block_lt_of_cell? w _ HX1.out)).trans HX1.out; have hx2 := (HB.out.cell (World.block_lt_of_cell? w _ HX2.out)).trans HX2.out))
      go_ret
      exact ⟨by rfl, HB.out⟩


/-! ### slices_Clone_int_int: function 88 -/
def slices_Clone_int_int.f (l0 : List Int) : Option (List Int) := (some (([] : List Int) : List Int)).bind fun y158 => (if y158.length + l0.length < 17592186044416 then (some (y158 ++ l0)) else (none))
set_option maxHeartbeats 8000000 in
set_option maxRecDepth 100000 in
theorem slices_Clone_int_int.calls_some (ad0 : Addr) (c0 : Nat) (l0 : List Int) (r : List Int) (w : World) (hr0 : Kd.C (Kd.int .i64) w (some ad0) l0.length l0) (hc0 : l0.length ≤ c0) (h : slices_Clone_int_int.f l0 = some r) :
  Calls Try.prog 88 #[.slice (some ad0) l0.length c0] w fun e w' => ∃ v0_ : Value, e = .returned (v0_) ∧ Kd.R (Kd.int .i64) 3 w' w.heap.size (fun _ => True) v0_ r ∧ Below w.heap.size w w' := by
 have HR0 := A_ hr0
 have HC0 := A_ hc0
 clear hr0 hc0
 have HB := A_ (Below.refl w.heap.size w)
 have H : ((some (([] : List Int) : List Int)).bind fun y158 => (if y158.length + l0.length < 17592186044416 then (some (y158 ++ l0)) else (none))) = some r := h
 clear h
 obtain ⟨y158, hy158⟩ : ∃ y_ : List Int, y_ = (([] : List Int)) := ⟨_, rfl⟩
 replace H : (if y158.length + l0.length < 17592186044416 then (some (y158 ++ l0)) else (none)) = some r := by (have H2_ := (Option.bind_some _ _).symm.trans H; rw [hy158]; with_reducible exact H2_)
 have Ny158 := A_ hy158
 clear hy158
 by_cases c2 : y158.length + l0.length < 17592186044416
 ·rw [if_pos c2] at H
  have LMc2 := A_ c2
  clear c2
  obtain ⟨y161, hy161⟩ : ∃ y_ : List Int, y_ = (y158 ++ l0) := ⟨_, rfl⟩
  replace H : (some y161) = some r := by (rw [hy161]; with_reducible exact H)
  have Ny161 := A_ hy161
  clear hy161
  obtain rfl := Option.some.inj H
  have hnil := fun (w_ : World) (a_ : Option Addr) (n_ c_ n1_ c1_ : Nat) => Lib.run_eql_slice_nil (P := Try.prog) w_ 24 3 a_ n_ c_ n1_ c1_ Try.underlying24
  go_enter Try.func88, Try.ntmps88
  go_wp2_with (first | ((with_reducible refine gate_dst (N := 5) rfl ?_); refine Kd.R_lit (Kd.int .i64) _ 3 ?hg (N := 5) ?hd (xs := ([] : List Int)) (inner := []) (ok := fun _ => True) (okp := fun _ => True) ?hr ?hp (fun _ hk => hk) trivial (Below.refl _ _) (Nat.le_refl _) (by simp) ?_; (case hd | hg => rfl); (case hr => go_simp; done); (case hp => exact (Reps.none _ _)); intro v159 w3 ho4 hb hg_ hnew_; clear hg_ hnew_; (first | rw [← Ny158.out] at ho4 | (simp only [Int.reduceToNat] at ho4; rw [← Ny158.out] at ho4)); have n0_ := A_ (Kd.R_lower ho4 (below_size HB.out)); have n1_ := A_ (below_step HB.out hb); clear HB; revert n0_ n1_; intro HO160 HB; clear hb ho4) | ((with_reducible refine gate_builtin (b := .append) (xs := #[.tmp 5, .tmp 6]) rfl ?_); at_builtin; refine Kd.R_append_rows (Kd.int .i64) (w0 := w) w.heap.size rfl (.tmp 5) (.tmp 6) 24 3 (.int .i64 0) 8 rfl Try.underlying24 info3 rfl (by decide) (by omega) v159 y158 l0 _ _ _ (fun _ => True) (fun _ => False) rfl rfl ?aO ?aR (fun _ _ h => h) (fun _ h => h.elim) ?aF ?aB ?aS ?aL ?_; (case aR => repeat (first | exact (Kd.C_below HR0.out HB.out) | (with_reducible refine Kd.C_alloc ?_ _) | (with_reducible refine Kd.C_drewN ?_ _) | (with_reducible refine Kd.C_drew ?_))); (case aB => exact HB.out); (case aF => exact (fun _ _ => trivial)); (case aO => exact HO160.out); (case aS => exact (below_size HB.out)); (case aL => have := LMc2.out; omega); intro v162 w5 ho hb hg hat; rw [← Ny161.out] at ho; have n0_ := A_ (hb); have n1_ := A_ (ho); clear HB HO160; revert n0_ n1_; intro HB HO163; clear ho hb hg hat))
  go_ret
  exact ⟨_, by rfl, HO163.out, HB.out⟩
 ·rw [if_neg c2] at H
  exact absurd H (by simp)

set_option maxHeartbeats 8000000 in
set_option maxRecDepth 100000 in
theorem slices_Clone_int_int.calls (A0 : Option Addr) (c0 : Nat) (l0 : List Int) (r : List Int) (w : World) (hr0 : Kd.C (Kd.int .i64) w A0 l0.length l0) (hc0 : l0.length ≤ c0) (h : slices_Clone_int_int.f l0 = some r) :
  Calls Try.prog 88 #[.slice A0 l0.length c0] w fun e w' => ∃ v0_ : Value, e = .returned (v0_) ∧ Kd.R (Kd.int .i64) 3 w' w.heap.size (fun _ => True) v0_ r ∧ Below w.heap.size w w' := by
 cases A0 with
 | some ad0 => exact slices_Clone_int_int.calls_some ad0 c0 l0 r w hr0 hc0 h
 | none =>
  obtain rfl : l0 = [] := by
   cases l0 with
   | nil => rfl
   | cons x l0 =>
    obtain ⟨ad, he, _⟩ := hr0.2.2 (by simp)
    cases he
  simp [slices_Clone_int_int.f] at h
  subst h
  clear hr0 hc0
  have hnil := fun (w_ : World) (a_ : Option Addr) (n_ c_ n1_ c1_ : Nat) => Lib.run_eql_slice_nil (P := Try.prog) w_ 24 3 a_ n_ c_ n1_ c1_ Try.underlying24
  go_enter Try.func88, Try.ntmps88
  go_wp2
  go_ret
  exact ⟨_, rfl, Kd.R_nil _ _ _ _ _, Below.refl _ _⟩

end Go.Proofs.Ytdcakddfibnllaa.PFnFibonacci
