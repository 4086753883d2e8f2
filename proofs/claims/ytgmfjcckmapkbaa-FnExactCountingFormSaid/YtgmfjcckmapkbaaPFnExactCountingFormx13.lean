/- Walks of the functions that the law reaches. -/
import Derived.Test.YtgmfjcckmapkbaaPFnExactCountingFormx0
namespace Go.Proofs.Ytgmfjcckmapkbaa.PFnExactCountingForm
open Go.RowKit Go.Proofs.YtgmfjcckmapkbaaW.PrintWords Go.Proofs.YtgmfjcckmapkbaaW.PrintLast Go.Proofs.YtgmfjcckmapkbaaW.PrintMore
attribute [local go_sem] max2_int min2_int max_two min_two max_three min_three max_four min_four
set_option linter.unusedVariables false
set_option maxHeartbeats 8000000
set_option maxRecDepth 100000
set_option linter.unusedSimpArgs false

open Go.Maps in
section
def posr (k : List UInt8) : List (List UInt8) → Option Nat
 | [] => none
 | x :: S => if x = k then some S.length else posr k S
def nstep (acc : List Int × List (List UInt8)) (k : List UInt8) : List Int × List (List UInt8) := match posr k acc.2 with | some i => (acc.1 ++ [(i : Int)], acc.2) | none => (acc.1 ++ [(acc.2.length : Int)], k :: acc.2)
def nfold (ks : List (List UInt8)) : List Int × List (List UInt8) := ks.foldl nstep ([], [])
def txtL : List Int → List Int
 | [] => []
 | x :: l => (x % 256) :: ((x / 256) % 256) :: txtL l
def keyL (row : List Int) : List UInt8 := (txtL row).map fun n => UInt8.ofNat n.toNat
def DSr {H : Type} : List (List UInt8) → DataW H
 | [] => .map []
 | k :: S => (DSr S).put (.string k) (.lit (.int .i64 (S.length : Int)))
theorem posr_none {k : List UInt8} : ∀ {S : List (List UInt8)}, posr k S = none ↔ k ∉ S
 | [] => by simp [posr]
 | x :: S => by
  unfold posr; split
  ·rename_i e; simp [e]
  rename_i e; rw [posr_none]; simp [Ne.symm e]
theorem posr_lt {k : List UInt8} : ∀ {S : List (List UInt8)} {i : Nat}, posr k S = some i → i < S.length
 | [], i, h => by simp [posr] at h
 | x :: S, i, h => by
  unfold posr at h; split at h
  ·cases h; simp
  have := posr_lt h; simp; omega
theorem isKeyS (b : List UInt8) : WideAt.IsKeyLit (.string b) := trivial
theorem isMap_DSr {H : Type} : ∀ S : List (List UInt8), IsMap (DSr (H := H) S)
 | [] => isMap_empty
 | k :: S => (isMap_DSr S).put _ _
theorem lit_ne {a b : List UInt8} (h : a ≠ b) : Lit.string b ≠ Lit.string a := fun e => h (by injection e with e; exact e.symm)
theorem has_DSr {H : Type} (k : List UInt8) : ∀ S : List (List UInt8), Maps.has (DSr (H := H) S) (.string k) = (posr k S).isSome
 | [] => rfl
 | x :: S => by
  unfold DSr posr
  by_cases e : x = k
  ·subst e; rw [if_pos rfl, has_put_same (isMap_DSr S) (isKeyS _)]; rfl
  rw [if_neg e, has_put_other (lit_ne e), has_DSr k S]
theorem at_DSr {H : Type} (k : List UInt8) : ∀ (S : List (List UInt8)) (i : Nat), posr k S = some i → (DSr (H := H) S).atKey (.string k) (.lit (.int .i64 0)) = .lit (.int .i64 (i : Int))
 | [], i, hi => by simp [posr] at hi
 | x :: S, i, hi => by
  unfold posr at hi; unfold DSr
  by_cases e : x = k
  ·subst e; rw [if_pos rfl] at hi; cases hi; rw [atKey_put_same (isMap_DSr S) (isKeyS _)]
  rw [if_neg e] at hi; rw [atKey_put_other (lit_ne e)]; exact at_DSr k S i hi
theorem tidy_DSr {H : Type} : ∀ S : List (List UInt8), Tidy (DSr (H := H) S)
 | [] => tidy_empty
 | x :: S => (tidy_DSr S).put (isKeyS _) _
theorem size_DSr {H : Type} : ∀ S : List (List UInt8), S.Nodup → Maps.size (DSr (H := H) S) = S.length
 | [], _ => rfl
 | x :: S, hn => by
  have hn' := List.nodup_cons.1 hn
  unfold DSr; rw [size_put (tidy_DSr S), has_DSr x S, posr_none.2 hn'.1, size_DSr S hn'.2]; rfl
theorem nfold_snoc (ks : List (List UInt8)) (k : List UInt8) : nfold (ks ++ [k]) = nstep (nfold ks) k := by simp [nfold, List.foldl_append]
theorem nfold_nodup (ks : List (List UInt8)) : (nfold ks).2.Nodup := by
 have : ∀ (ks : List (List UInt8)) (acc : List Int × List (List UInt8)), acc.2.Nodup → (ks.foldl nstep acc).2.Nodup := by
  intro ks
  induction ks with
  | nil => intro acc h; exact h
  | cons k ks ih =>
   intro acc h; refine ih _ ?_; unfold nstep
   split
   ·exact h
   rename_i e; exact List.nodup_cons.2 ⟨posr_none.1 e, h⟩
 exact this ks _ List.nodup_nil
theorem nstep_len (acc : List Int × List (List UInt8)) (k : List UInt8) : (nstep acc k).1.length = acc.1.length + 1 ∧ (nstep acc k).2.length ≤ acc.2.length + 1 := by
 unfold nstep
 split <;> simp
theorem nfold_len (ks : List (List UInt8)) : (nfold ks).1.length = ks.length ∧ (nfold ks).2.length ≤ ks.length := by
 have : ∀ (ks : List (List UInt8)) (acc : List Int × List (List UInt8)), (ks.foldl nstep acc).1.length = acc.1.length + ks.length ∧ (ks.foldl nstep acc).2.length ≤ acc.2.length + ks.length := by
  intro ks
  induction ks with
  | nil => intro acc; simp
  | cons k ks ih => intro acc; have h1 := ih (nstep acc k); have h2 := nstep_len acc k; simp only [List.foldl_cons, List.length_cons]; omega
 have h := this ks ([], []); simp only [List.length_nil] at h; exact ⟨by have := h.1; unfold nfold; omega, by have := h.2; unfold nfold; omega⟩
theorem txtL_length : ∀ row : List Int, (txtL row).length = 2 * row.length
 | [] => rfl
 | x :: l => by simp [txtL, txtL_length l]; omega
theorem txtL_snoc : ∀ (l : List Int) (x : Int), txtL (l ++ [x]) = txtL l ++ [x % 256, (x / 256) % 256]
 | [], x => rfl
 | y :: l, x => by simp [txtL, txtL_snoc l x]
end
def impl_rowText.l0 : Nat → List Int → List Int → Int → Int → Option (List Int)
 | 0, _, _, _, _ => none
 | k + 1, x8, cv, dp, bx => if bx < dp then (if 0 ≤ bx then (if bx < (cv.length : Int) then ((some (([(rd cv bx) % 256, ((rd cv bx) / 256) % 256] : List Int) : List Int)).bind fun av => (if x8.length + av.length < 140737488355328 then (impl_rowText.l0 k (x8 ++ av) cv dp (wrap64 (bx + 1))) else (none))) else (none)) else (none)) else (some x8)
def impl_rowText.f (k : Nat) (l0 : List Int) : Option (List Int) := impl_rowText.l0 k (([] : List Int)) l0 (l0.length : Int) 0
theorem rowText_l0 (row : List Int) (hn : row.length ≤ 64) (d : Nat) : ∀ i : Nat, i + d = row.length → impl_rowText.l0 (d + 1) (txtL (row.take i)) row (row.length : Int) (i : Int) = some (txtL row) := by
 have hw : ∀ i : Nat, i < 100 → wrap64 ((i : Int) + 1) = ((i + 1 : Nat) : Int) := fun i h => by unfold wrap64; omega
 induction d with
 | zero =>
  intro i hi; simp only [impl_rowText.l0]; rw [if_neg (by omega), List.take_of_length_le (by omega)]
 | succ d ih =>
  intro i hi; have hl := txtL_length (row.take i); rw [List.length_take] at hl; rw [impl_rowText.l0, if_pos (by omega), if_pos (by omega), if_pos (by omega), Option.bind_some, if_pos (by simp only [List.length_cons, List.length_nil]; omega), hw i (by omega), ← txtL_snoc]
  have : row.take i ++ [rd row (i : Int)] = row.take (i + 1) := by
   have hr : rd row (i : Int) = row[i]'(by omega) := by simp [rd, List.getD_eq_getElem?_getD, List.getElem?_eq_getElem (show i < row.length by omega)]
   rw [hr, List.take_succ_eq_append_getElem (by omega)]
  rw [this]; exact ih (i + 1) (by omega)
theorem rowText_some (row : List Int) (hn : row.length ≤ 64) : impl_rowText.f (row.length + 1) row = some (txtL row) := by
 unfold impl_rowText.f; exact rowText_l0 row hn row.length 0 (by omega)
theorem own_below_ {H : Type} {P : Program} {k : TypeId} {R : Value → Option (DataW H × List MemPlace)} {w w' : World} {b n : Nat} {D : DataW H} (h : w.ownsMap P k R b n D) (hb : Below w.heap.size w w') : w'.ownsMap P k R b n D := by
 have hlt := h.lt; obtain ⟨es, clock, hbk, F, hs, hD⟩ := h; exact ⟨es, clock, (hb.block b hlt).trans hbk, F, hs, hD⟩
theorem own_notmap_ {α : Type} {d : Kd α} {H : Type} {P : Program} {k : TypeId} {R : Value → Option (DataW H × List MemPlace)} {w : World} {b n e base : Nat} {D : DataW H} {ok : Nat → Prop} {v : Value} {xs : List α} (h : w.ownsMap P k R b n D) (hR : Kd.R d e w base ok v xs) : some b ≠ v.ownBlock := by
 intro he; obtain ⟨cells, hc⟩ := Kd.R_typed hR b he.symm; obtain ⟨es, clock, hbk, _⟩ := h; rw [hc] at hbk
 cases hbk
structure NInv (w wr : World) (ks : List (List UInt8)) (v : Value) : Prop where
 own : wr.ownsMap (H := Unit) Try.prog 9 (plainElem Try.prog 3) w.heap.size ks.length (DSr (nfold ks).2)
 out : Kd.R (Kd.int .i64) 3 wr w.heap.size (fun _ => True) v (nfold ks).1
 below : Below w.heap.size w wr
theorem NInv.move {w wr w1 : World} {ks : List (List UInt8)} {v : Value} (h : NInv w wr ks v) (hb : Below wr.heap.size wr w1) : NInv w w1 ks v :=
 ⟨own_below_ h.own hb, Kd.R_below h.out hb, below_step h.below hb⟩
theorem grown_below_ {w w1 w2 : World} {b : Nat} (h : Below w.heap.size w w1) (hg : w1.grownBy w2 (some b)) (hb : w.heap.size ≤ b) : Below w.heap.size w w2 :=
 h.grown hg h.size (fun j hj => by cases hj; exact hb)
theorem NInv.new {w w1 w2 w3 : World} {ks : List (List UInt8)} {k : List UInt8} {v v' : Value} (h : NInv w w1 ks v) (hp : posr k (nfold ks).2 = none)
  (hown : w2.ownsMap (H := Unit) Try.prog 9 (plainElem Try.prog 3) w.heap.size (ks.length + 1) (DSr (k :: (nfold ks).2))) (hg : w1.grownBy w2 (some w.heap.size))
  (ho : Kd.R (Kd.int .i64) 3 w3 w.heap.size (fun _ => True) v' ((nfold ks).1 ++ [((nfold ks).2.length : Int)])) (hb : Below w.heap.size w w3) (hg3 : w2.grownBy w3 v.ownBlock) : NInv w w3 (ks ++ [k]) v' := by
 have ho2 : Kd.R (Kd.int .i64) 3 w2 w.heap.size (fun k => some k = v.ownBlock) v (nfold ks).1 := Kd.R_grown (Kd.R_tight rfl h.out) hg (fun j hj e => own_notmap_ h.own h.out (e.symm.trans hj))
 refine ⟨?_, ?_, hb⟩
 ·rw [nfold_snoc, List.length_append]
  have : (nstep (nfold ks) k).2 = k :: (nfold ks).2 := by unfold nstep; rw [hp]
  rw [this]; exact hown.kept hg3 (own_notmap_ hown ho2)
 rw [nfold_snoc]
 have : (nstep (nfold ks) k).1 = (nfold ks).1 ++ [((nfold ks).2.length : Int)] := by unfold nstep; rw [hp]
 rw [this]; exact ho
theorem NInv.old {w w1 w3 : World} {ks : List (List UInt8)} {k : List UInt8} {i : Nat} {v v' : Value} (h : NInv w w1 ks v) (hp : posr k (nfold ks).2 = some i)
  (ho : Kd.R (Kd.int .i64) 3 w3 w.heap.size (fun _ => True) v' ((nfold ks).1 ++ [(i : Int)])) (hb : Below w.heap.size w w3) (hg3 : w1.grownBy w3 v.ownBlock) : NInv w w3 (ks ++ [k]) v' := by
 refine ⟨?_, ?_, hb⟩
 ·rw [nfold_snoc, List.length_append]
  have : (nstep (nfold ks) k).2 = (nfold ks).2 := by unfold nstep; rw [hp]
  rw [this]; exact (h.own.kept hg3 (own_notmap_ h.own h.out)).mono (Nat.le_succ _)
 rw [nfold_snoc]
 have : (nstep (nfold ks) k).1 = (nfold ks).1 ++ [(i : Int)] := by unfold nstep; rw [hp]
 rw [this]; exact ho
theorem zeroI_ (w : World) : (zeroValue 3).run Try.prog w = .ok (.int .i64 0) w := by kernel_rfl
def impl_numbered.f (l0 : List (List Int)) : Option (List Int × Int) := if l0.length ≤ 64 ∧ ∀ row ∈ l0, row.length ≤ 64 then some ((nfold (l0.map keyL)).1, ((nfold (l0.map keyL)).2.length : Int)) else none
theorem numbered_some {l0 : List (List Int)} {r1 : List Int} {r2 : Int} (h : impl_numbered.f l0 = some (r1, r2)) : l0.length ≤ 64 ∧ (∀ row ∈ l0, row.length ≤ 64) ∧ r1 = (nfold (l0.map keyL)).1 ∧ r2 = ((nfold (l0.map keyL)).2.length : Int) := by
 unfold impl_numbered.f at h
 split at h
 ·rename_i hc
  injection h with h; injection h with h1 h2
  exact ⟨hc.1, hc.2, h1.symm, h2.symm⟩
 cases h
theorem rdL1_mem_ {l : List (List Int)} {j : Nat} (h : j < l.length) : rd_L1 l (j : Int) = l[j] := by
 simp [rd_L1, List.getD_eq_getElem?_getD, List.getElem?_eq_getElem h]
theorem impl_numbered.calls (A0 : Option Addr) (c0 : Nat) (l0 : List (List Int)) (r1 : List Int) (r2 : Int) (w : World) (hr0 : Kd.C (Kd.slice 3 (Kd.int .i64)) w A0 l0.length l0) (hc0 : l0.length ≤ c0) (h : impl_numbered.f l0 = some (r1, r2)) :
  Calls Try.prog 63 #[.slice A0 l0.length c0] w fun e w' => ∃ v0_ : Value, e = .returned (.tuple #[v0_, .int .i64 r2]) ∧ Kd.R (Kd.int .i64) 3 w' w.heap.size (fun _ => True) v0_ r1 ∧ Below w.heap.size w w' := by
 obtain ⟨hn, hrows, e1, e2⟩ := numbered_some h; subst e1; subst e2; have HR0 := A_ hr0; have HROWS := A_ hrows; clear hr0 hc0 h hrows; have hmm := @run_makeMap Try.prog; go_enter Try.func63, Try.ntmps63
 go_wp2_with (first | ((with_reducible refine gd_ 14 rfl ?_); refine RL_ 14 3 [] [] rfl rfl (by go_simp; done) rfl rfl ?_; intro vO w0 hO hb hg_ hnew_; clear hg_ hnew_; have HN0 := A_ (NInv.mk (w := w) (ks := []) (v := vO) (own_below_ (World.ownsMap_made w _ _ _) hb) (Kd.R_lower hO (by simp)) (below_step (below_alloc (Below.refl _ _) _) hb)); clear hO hb))
 go_loopw [5, 17] (fun v5 dB wr => ∃ j : Nat, j ≤ l0.length ∧ dB = .int .i64 j ∧ Aside0 (NInv w wr ((l0.take j).map keyL) v5))
  (fun _ i _ => l0.length - (intOf i).toNat)
 case atStart => exact ⟨0, Nat.zero_le _, rfl, HN0⟩
 case round =>
  obtain ⟨j, hj, rfl, HN⟩ := hrel; clear HN0
  by_cases hlt : j < l0.length
  ·have bm : (0 : Int) ≤ (j : Int) := by omega
   have be : (j : Int) < (l0.length : Int) := by omega
   have c500 : decide ((j : Int) < (l0.length : Int)) = true := decide_eq_true be
   obtain ⟨di, AR, cR, cO, hx500, hl500, hi500⟩ := at_L1 HR0.o (j : Int) bm be
   cases cO
   replace hx500 := (HN.o.below.cell (World.block_lt_of_cell? w _ hx500)).trans hx500
   have hrw : rd_L1 l0 (j : Int) = l0[j] := rdL1_mem_ hlt
   have hlen := HROWS.o _ (List.getElem_mem hlt)
   have htk : (l0.take (j + 1)).map keyL = (l0.take j).map keyL ++ [keyL l0[j]] := by rw [List.take_succ_eq_append_getElem hlt, List.map_append]; rfl
   generalize hrow : l0[j] = row at hrw hlen htk
   have hkl : ((l0.take j).map keyL).length = j := by simp; omega
   generalize hks : (l0.take j).map keyL = ks at htk HN hkl
   clear hks; rw [hrw] at hx500 hl500 hi500; rw [Int.toNat_natCast] at hx500; have HTK := A_ htk; have HRr := A_ (Kd.C_below hi500 HN.o.below); have HCr := A_ hl500; clear hi500 hl500 hrw htk hrow; replace bm := eq_true bm; replace be := eq_true be; obtain ⟨wo, hwo⟩ : ∃ wo, wo = wr := ⟨_, rfl⟩; subst hwo; obtain ⟨u5_, hu5⟩ : ∃ u, u = u5 := ⟨_, rfl⟩; subst hu5; obtain ⟨rT, hrT⟩ : ∃ r, r = txtL row := ⟨_, rfl⟩; have NRT := A_ hrT; obtain ⟨kR, hkR⟩ : ∃ kR, kR = row.length + 1 := ⟨_, rfl⟩
   have hT : impl_rowText.f kR row = some rT := by rw [hkR, hrT]; exact rowText_some row hlen
   have HLr := A_ hlen; clear hkR hrT hlen; have HBr := A_ (Below.refl wo.heap.size wo)
   have H : (impl_rowText.l0 kR (([] : List Int)) row (row.length : Int) 0) = some rT := hT
   clear hT; obtain ⟨ce, aI⟩ := ex_ ((([] : List Int)) : List Int); replace H : (impl_rowText.l0 kR ce row (row.length : Int) 0) = some rT := by (rw [aI]; with_reducible exact H)
   have bM := A_ aI; clear aI
   have H' := A_ H
   clear H
   go_wp2_with (first | ((with_reducible refine gate_dst (N := 21) rfl ?_); refine Kd.R_lit (Kd.int .u8) _ 5 ?hg (N := 21) ?hd (xs := ([] : List Int)) (inner := []) (ok := fun _ => True) (okp := fun _ => True) ?hr ?hp (fun _ hk => hk) trivial (Below.refl _ _) (Nat.le_refl _) (by simp) ?_; (case hd | hg => rfl); (case hr => go_simp; done); (case hp => exact (Reps.none _ _)); rintro dF w2 ho3 hb - -; (rw [← bM.o] at ho3); have bB := A_ (Kd.R_lower ho3 (below_size HBr.o)); replace HBr := bs_ HBr hb; clear hb ho3))
   go_loopg [8, 24] kR (fun kq v8 dD w' => ∃ (an : List Int) (ae : Int), dD = .int .i64 ae ∧ Aside0 (impl_rowText.l0 kq an row (row.length : Int) ae = some rT) ∧ Aside0 (kq ≤ kR) ∧ Aside0 (Kd.R (Kd.int .u8) 5 w' wo.heap.size (fun _ => True) v8 an) ∧ Aside0 (Below wo.heap.size wo w'))
   case atStart => exact ⟨(ce), (0), (by rfl), H', ⟨Nat.le_refl _⟩, ⟨bB.o⟩, ⟨HBr.o⟩⟩
   case round =>
    clear H'; obtain ⟨an, ae, rfl, HA, aE, ac, HBr⟩ := hrel
    cases gk with
    | zero => exact nz_ HA.o
    | succ k1 =>
     have H := HA.o; clear HA; simp only [impl_rowText.l0] at H
     by_cases c4 : ae < (row.length : Int)
     ·rw [if_pos c4] at H; have cD := decide_eq_true c4; clear c4
      by_cases c5 : 0 ≤ ae
      ·rw [if_pos c5] at H; have bh := decide_eq_true c5; clear c5
       by_cases c6 : ae < (row.length : Int)
       ·rw [if_pos c6] at H; have cE := decide_eq_true c6; clear c6; obtain ⟨av, aJ⟩ := ex_ ((([(rd row ae) % 256, ((rd row ae) / 256) % 256] : List Int)) : List Int); replace H : (if an.length + av.length < 140737488355328 then (impl_rowText.l0 k1 (an ++ av) row (row.length : Int) (wrap64 (ae + 1))) else (none)) = some rT := by (have H2_ := (Option.bind_some _ _).symm.trans H; rw [aJ]; with_reducible exact H2_)
        have bN := A_ aJ; clear aJ
        by_cases c7 : an.length + av.length < 140737488355328
        ·rw [if_pos c7] at H; have cA := A_ c7; clear c7; obtain ⟨cf, aK⟩ := ex_ ((an ++ av) : List Int); replace H : (impl_rowText.l0 k1 cf row (row.length : Int) (wrap64 (ae + 1))) = some rT := by (rw [aK]; with_reducible exact H)
         have bO := A_ aK; clear aK
         have H' := A_ H
         clear H
         have bi : 0 ≤ (ae : Int) := oa_
         have bn : ae < (row.length : Int) := oa_
         obtain ⟨de, cH, aq⟩ := Kd.at_int HRr.o ae bi bn
         cases cH
         replace aq := (HBr.o.cell (World.block_lt_of_cell? wo _ aq)).trans aq; replace bi := eq_true bi; replace bn := eq_true bn
         go_wp2_with (first | ((with_reducible refine gate_dst (N := 34) rfl ?_); refine Kd.R_lit (Kd.int .u8) _ 5 ?hg (N := 34) ?hd (xs := ([(rd row ae) % 256, ((rd row ae) / 256) % 256] : List Int)) (inner := [.int .u8 ((rd row ae) % 256), .int .u8 (((rd row ae) / 256) % 256)]) (ok := fun _ => True) (okp := fun _ => True) ?hr ?hp (fun _ hk => hk) trivial (Below.refl _ _) (Nat.le_refl _) (by simp) ?_; (case hd | hg => rfl); (case hr => go_simp; done); (case hp => exact (Reps.one (show Kd.M (Kd.int .u8) _ _ _ ((rd row ae) % 256) [.int .u8 ((rd row ae) % 256)] from rfl) (Reps.one (show Kd.M (Kd.int .u8) _ _ _ (((rd row ae) / 256) % 256) [.int .u8 (((rd row ae) / 256) % 256)] from rfl) (Reps.none _ _)))); rintro dG w8 ho9 hb - -; (rw [← bN.o] at ho9); have aw := A_ (Kd.R_lower (Kd.R_new' ho9 (Kd.R_lt ac.o)) (below_size HBr.o)); replace ac := A_ (Kd.R_elder' ac.o (Kd.R_base ho9) hb); replace HBr := bs_ HBr hb; clear hb ho9; obtain ⟨cx, cF, cP⟩ := Kd.R_slice aw.o; subst cP) | ((with_reducible refine gate_builtin (b := .append) (xs := #[.tmp 28, .tmp 34]) rfl ?_); at_builtin; refine Kd.R_append_rows (Kd.int .u8) (w0 := wo) wo.heap.size rfl (.tmp 28) (.tmp 34) 74 5 (.int .u8 0) 1 rfl Try.underlying74 info5 rfl (by decide) (by omega) u8 an av _ _ _ (o1 (.slice cx av.length cF)) (fun _ => False) rfl rfl ?aO ?aR (fun _ _ hT => hT) (fun _ hT => hT.elim) ?aF ?aB ?aS ?aL ?_; (case aR => exact (Kd.R_reads' aw.o).2.2); (case aB => exact HBr.o); (case aF => exact (fun k_ hk => Kd.fresh' (Kd.R_lt aw.o) k_ hk)); (case aO => exact (by exact Kd.R_mono ac.o (fun _ hk => hk.2))); (case aS => exact (below_size HBr.o)); (case aL => have := cA.o; omega); intro dH w10 ho hb hg hat; rw [← bO.o] at ho; replace aw := A_ (Kd.R_after (ok := (fun _ => True)) aw.o hg hat); replace HBr := A_ (hb); have bC := A_ (ho); clear ac; clear ho hb hg hat))
         go_roundg k1
         case measure => have := aE.o; omega
         case rel => exact ⟨(cf), (wrap64 (ae + 1)), (by rfl), H', ⟨by have := aE.o; omega⟩, ⟨by exact Kd.R_mono bC.o (fun _ hk => trivial)⟩, ⟨HBr.o⟩⟩
        rw [if_neg c7] at H
        cases H
       rw [if_neg c6] at H
       cases H
      rw [if_neg c5] at H
      cases H
     rw [if_neg c4] at H; have cD := decide_eq_false c4; clear c4; obtain rfl := Option.some.inj H; clear aE; obtain ⟨At, ct, et⟩ := Kd.R_slice ac.o; subst et; have HN1 := A_ (HN.o.move HBr.o)
     have hBlt : w.heap.size < wo.heap.size := HN.o.own.lt
     have hcv := Kd.C_string (P := Try.prog) (src := 74) (dst := 9) (e := 5) (c := ct) Try.underlying74 Try.underlying5 Try.underlying9 (Kd.R_reads' ac.o).2.2
     have hkey : keyOf Try.prog 9 (.string (strOfNums an)) = some (.string (keyL row)) := by
      have := Go.WideMaps.keyOf_string_mk (P := Try.prog) Try.underlying9 (s := strOfNums an) (by
       have h1 := (Kd.R_reads' ac.o).1; rw [NRT.o, txtL_length] at h1
       show (strOfNums an).size ≤ 9223372036854775807
       rw [NRT.o]
       simp [strOfNums, ByteArray.size, txtL_length]
       have := HLr.o; omega)
      rw [this, NRT.o]; rfl
     have hlo := (nfold_len ks).1; rw [hkl] at hlo
     by_cases hp : posr (keyL row) (nfold ks).2 = none
     ·have hhas : Maps.has (DSr (H := Unit) (nfold ks).2) (.string (keyL row)) = false := by rw [has_DSr, hp]; rfl
      have hsz := size_DSr (H := Unit) _ (nfold_nodup ks); have hown1 := HN1.o.own
      go_wp2_with (first
       | ((with_reducible refine gate_dst (N := 41) rfl ?_); at_lookup; refine wpList_lookup_own_ok_int _ rfl _ _ 73 rfl 9 3 .i64 (Maps.string_keyed Try.underlying9) Try.underlying73 Try.underlying3 (zeroI_ _) w.heap.size _ _ rfl hown1 _ _ rfl hkey ?_; intro c1 hat1 hwc1; rw [hhas]; clear hat1 hwc1)
       | ((with_reducible refine gate_dst (N := 50) rfl ?_); at_len; refine wpList_len_own _ rfl _ 73 rfl 9 3 Try.underlying73 _ _ _ _ rfl hown1 ?_; rw [hsz])
       | (at_mapUpdate; refine wpList_mapUpdate_own _ rfl _ _ _ 73 rfl 9 3 (Maps.string_keyed Try.underlying9) Try.underlying73 _ w.heap.size _ _ rfl hown1 (by rw [hkl]; unfold maxLen; omega) _ _ _ rfl rfl hkey _ [] (plainElem_int Try.underlying3 (by have := (nfold_len ks).2; exact WalkArith.wf_i64 (by omega))) ?_; intro w2 hown2 hg2; have dw := A_ (Kd.R_grown (Kd.R_tight rfl HN1.o.out) hg2 (fun k hk e => own_notmap_ HN1.o.own HN1.o.out (e.symm.trans hk))); have HB2 := A_ (grown_below_ HN1.o.below hg2 (Nat.le_refl _)); have hcv2 := Kd.C_string (P := Try.prog) (src := 74) (dst := 9) (e := 5) (c := ct) Try.underlying74 Try.underlying5 Try.underlying9 (Kd.R_reads' (Kd.R_grown (Kd.R_tight rfl ac.o) hg2 (fun k hk e => by have h1 := Kd.R_base ac.o k hk.symm; have h2 : k = w.heap.size := (by simpa using e); omega))).2.2)
       | ((with_reducible refine gate_dst (N := 55) rfl ?_); at_lookup; refine wpList_lookup_own_int _ rfl _ _ 73 rfl 9 3 .i64 (Maps.string_keyed Try.underlying9) Try.underlying73 Try.underlying3 (zeroI_ _) w.heap.size _ _ rfl hown2 _ _ rfl hkey ?_; intro c2 hat2 hwc2; obtain rfl : c2 = ((nfold ks).2.length : Int) := (by have h1 := at_DSr (H := Unit) (keyL row) (keyL row :: (nfold ks).2) _ (by unfold posr; rw [if_pos rfl]); have h2 := hat2.symm.trans h1; injection h2 with h2; injection h2); clear hat2 hwc2)
       | ((with_reducible refine gate_builtin (b := .append) (xs := #[.tmp 51, .tmp 56]) rfl ?_); at_builtin; refine Kd.R_append (Kd.int .i64) (w0 := w) w.heap.size rfl (.tmp 51) (.tmp 56) 23 3 (.int .i64 0) 8 rfl Try.underlying23 info3 rfl (by decide) (by omega) u5_ (nfold ks).1 ((nfold ks).2.length : Int) [.int .i64 ((nfold ks).2.length : Int)] (fun _ => True) (fun _ => False) rfl rfl ?aP (fun _ hk => hk.elim) ?aF ?aO ?aB ?aS ?aL ?_; (case aP => exact rfl); (case aB => exact HB2.o); (case aF => exact (fun _ _ => trivial)); (case aO => exact Kd.R_mono dw.o (fun _ _ => trivial)); (case aS => exact HB2.o.size); (case aL => rw [hlo]; omega); intro v3 w3 ho3 hb3 hg3 hat3; have HN3 := A_ (HN1.o.new hp hown2 hg2 ho3 hb3 hg3); clear ho3 hb3 hg3 hat3))
      go_roundw
      case rel => exact ⟨j + 1, by omega, by go_num, by rw [HTK.o]; exact HN3⟩
      case measure => simp [intOf]; omega
     obtain ⟨i, hi⟩ := Option.ne_none_iff_exists'.1 hp
     have hhas : Maps.has (DSr (H := Unit) (nfold ks).2) (.string (keyL row)) = true := by rw [has_DSr, hi]; rfl
     have hown1 := HN1.o.own
     go_wp2_with (first
      | ((with_reducible refine gate_dst (N := 41) rfl ?_); at_lookup; refine wpList_lookup_own_ok_int _ rfl _ _ 73 rfl 9 3 .i64 (Maps.string_keyed Try.underlying9) Try.underlying73 Try.underlying3 (zeroI_ _) w.heap.size _ _ rfl hown1 _ _ rfl hkey ?_; intro c1 hat1 hwc1; rw [hhas]; clear hat1 hwc1)
      | ((with_reducible refine gate_dst (N := 55) rfl ?_); at_lookup; refine wpList_lookup_own_int _ rfl _ _ 73 rfl 9 3 .i64 (Maps.string_keyed Try.underlying9) Try.underlying73 Try.underlying3 (zeroI_ _) w.heap.size _ _ rfl hown1 _ _ rfl hkey ?_; intro c2 hat2 hwc2; obtain rfl : c2 = (i : Int) := (by have h1 := at_DSr (H := Unit) (keyL row) _ i hi; have h2 := hat2.symm.trans h1; injection h2 with h2; injection h2); clear hat2 hwc2)
      | ((with_reducible refine gate_builtin (b := .append) (xs := #[.tmp 51, .tmp 56]) rfl ?_); at_builtin; refine Kd.R_append (Kd.int .i64) (w0 := w) w.heap.size rfl (.tmp 51) (.tmp 56) 23 3 (.int .i64 0) 8 rfl Try.underlying23 info3 rfl (by decide) (by omega) u5_ (nfold ks).1 (i : Int) [.int .i64 (i : Int)] (fun _ => True) (fun _ => False) rfl rfl ?aP (fun _ hk => hk.elim) ?aF ?aO ?aB ?aS ?aL ?_; (case aP => exact rfl); (case aB => exact HN1.o.below); (case aF => exact (fun _ _ => trivial)); (case aO => exact HN1.o.out); (case aS => exact HN1.o.below.size); (case aL => rw [hlo]; omega); intro v3 w3 ho3 hb3 hg3 hat3; have HN3 := A_ (HN1.o.old hi ho3 hb3 hg3); clear ho3 hb3 hg3 hat3))
     go_roundw
     case rel => exact ⟨j + 1, by omega, by go_num, by rw [HTK.o]; exact HN3⟩
     case measure => simp [intOf]; omega
  have hje : j = l0.length := by omega
  subst hje; rw [List.take_length] at HN; have hsz := size_DSr (H := Unit) _ (nfold_nodup (l0.map keyL)); have hown1 := HN.o.own
  have c500 : decide ((l0.length : Int) < (l0.length : Int)) = false := decide_eq_false (by omega)
  go_wp2_with ((with_reducible refine gate_dst (N := 61) rfl ?_); at_len; refine wpList_len_own _ rfl _ 73 rfl 9 3 Try.underlying73 _ _ _ _ rfl hown1 ?_; rw [hsz])
  go_ret2
  exact ⟨_, rfl, HN.o.out, HN.o.below⟩


mutual
def impl_classes.l0 : Nat → List (List Int) → List (List Int) → List Int → Int → Int → Option (List Int)
 | 0, _, _, _, _, _ => none
 | k + 1, x0, x5, dc, dn, b9 => if b9 < dn then (if 0 ≤ b9 then (if b9 < (dc.length : Int) then (if x5.length < 5864062014805 then (impl_classes.l0 k x0 (x5 ++ [(([rd dc b9] : List Int))]) dc dn (wrap64 (b9 + 1))) else (none)) else (none)) else (none)) else ((impl_numbered.f x5).bind fun bt439 => (impl_classes.l1 k x0 x5 bt439.1 bt439.2))
def impl_classes.l1 : Nat → List (List Int) → List (List Int) → List Int → Int → Option (List Int)
 | 0, _, _, _, _ => none
 | k + 1, x0, x5, x8, x9 => if 0 ≤ (x5.length : Int) then (impl_classes.l2 k x0 (x5.take (0 : Int).toNat) x8 x9 x0 (x0.length : Int) 0) else (none)
def impl_classes.l2 : Nat → List (List Int) → List (List Int) → List Int → Int → List (List Int) → Int → Int → Option (List Int)
 | 0, _, _, _, _, _, _, _ => none
 | k + 1, x0, x5, x8, x9, bs, cc, aX => if aX < cc then (if 0 ≤ aX then (if aX < (bs.length : Int) then (if aX < (x8.length : Int) then (impl_classes.l3 k x0 x5 x8 x9 (([rd x8 aX] : List Int)) bs cc aX (rd_L1 bs aX) ((rd_L1 bs aX).length : Int) 0) else (none)) else (none)) else (none)) else ((impl_numbered.f x5).bind fun bt446 => (if bt446.2 = x9 then (some bt446.1) else (impl_classes.l1 k x0 x5 bt446.1 bt446.2)))
def impl_classes.l3 : Nat → List (List Int) → List (List Int) → List Int → Int → List Int → List (List Int) → Int → Int → List Int → Int → Int → Option (List Int)
 | 0, _, _, _, _, _, _, _, _, _, _, _ => none
 | k + 1, x0, x5, x8, x9, db, bs, cc, aX, cd, dq, bt => if bt < dq then (if 0 ≤ bt then (if bt < (cd.length : Int) then (if 0 ≤ (rd cd bt) then (if (rd cd bt) < (x8.length : Int) then (if db.length < 17592186044416 then (impl_classes.l3 k x0 x5 x8 x9 (db ++ [rd x8 (rd cd bt)]) bs cc aX cd dq (wrap64 (bt + 1))) else (none)) else (none)) else (none)) else (none)) else (none)) else (if x5.length < 5864062014805 then (impl_classes.l2 k x0 (x5 ++ [db]) x8 x9 bs cc (wrap64 (aX + 1))) else (none))
end
def impl_classes.f (k : Nat) (l0 : List (List Int)) (l1 : List Int) : Option (List Int) := impl_classes.l0 k l0 (([] : List (List Int))) l1 (l1.length : Int) 0
theorem impl_classes.calls (k : Nat) (A0 : Option Addr) (c0 : Nat) (l0 : List (List Int)) (A1 : Option Addr) (c1 : Nat) (l1 : List Int) (r : List Int) (w : World) (hr0 : Kd.C (Kd.slice 3 (Kd.int .i64)) w A0 l0.length l0) (hc0 : l0.length ≤ c0) (hr1 : Kd.C (Kd.int .i64) w A1 l1.length l1) (hc1 : l1.length ≤ c1) (h : impl_classes.f k l0 l1 = some r) :
  Calls Try.prog 58 #[.slice A0 l0.length c0, .slice A1 l1.length c1] w fun e w' => ∃ v0_ : Value, e = .returned (v0_) ∧ Kd.R (Kd.int .i64) 3 w' w.heap.size (fun _ => True) v0_ r ∧ Below w.heap.size w w' := by
 have HR0 := A_ hr0; have HC0 := A_ hc0; clear hr0 hc0; have HR1 := A_ hr1; have HC1 := A_ hc1; clear hr1 hc1; have HB := A_ (Below.refl w.heap.size w); unfold impl_classes.f at h; have H := h; clear h; obtain ⟨cg, aM⟩ := ex_ ((([] : List (List Int))) : List (List Int)); replace H : (impl_classes.l0 k l0 cg l1 (l1.length : Int) 0) = some r := by (rw [aM]; with_reducible exact H)
 have bP := A_ aM; clear aM
 have H' := A_ H
 clear H; go_enter Try.func58, Try.ntmps58
 go_wp2_with (first | ((with_reducible refine gate_dst (N := 17) rfl ?_); refine Kd.S_lit (Kd.slice 3 (Kd.int .i64)) _ 23 ?hg (N := 17) ?hd (xs := ([] : List (List Int))) (inner := []) (ok := fun _ => True) (okp := fun _ => True) ?hr ?hp (fun _ hk => hk) trivial (Below.refl _ _) (Nat.le_refl _) (by simp) ?_; (case hd | hg => rfl); (case hr => go_simp; done); (case hp => exact (Reps.none _ _)); rintro dI w3 ho4 hb - -; (rw [← bP.o] at ho4); have bD := A_ (Kd.S_lower ho4 (below_size HB.o)); replace HB := bs_ HB hb; clear hb ho4))
 go_loopg [5, 20] k (fun kq v5 dC w' => ∃ (ao : List (List Int)) (ah : Int), dC = .int .i64 ah ∧ Aside0 (impl_classes.l0 kq l0 ao l1 (l1.length : Int) ah = some r) ∧ Aside0 (kq ≤ k) ∧ Aside0 (Kd.S (Kd.slice 3 (Kd.int .i64)) 23 w' w.heap.size (fun _ => True) v5 ao) ∧ Aside0 (Below w.heap.size w w'))
 case atStart => exact ⟨(cg), (0), (by rfl), H', ⟨Nat.le_refl _⟩, ⟨bD.o⟩, ⟨HB.o⟩⟩
 case round =>
  clear H'; obtain ⟨ao, ah, rfl, HA, aE, ab, HB⟩ := hrel
  cases gk with
  | zero => exact nz_ HA.o
  | succ k1 =>
   have H := HA.o; clear HA; simp only [impl_classes.l0] at H
   by_cases c5 : ah < (l1.length : Int)
   ·rw [if_pos c5] at H; have bh := decide_eq_true c5; clear c5
    by_cases c6 : 0 ≤ ah
    ·rw [if_pos c6] at H; have cE := decide_eq_true c6; clear c6
     by_cases c7 : ah < (l1.length : Int)
     ·rw [if_pos c7] at H; have dx := decide_eq_true c7; clear c7; obtain ⟨aY, aN⟩ := ex_ ((([rd l1 ah] : List Int)) : List Int); replace H : (if ao.length < 5864062014805 then (impl_classes.l0 k1 l0 (ao ++ [aY]) l1 (l1.length : Int) (wrap64 (ah + 1))) else (none)) = some r := by (rw [aN]; with_reducible exact H)
      have bQ := A_ aN; clear aN
      by_cases c8 : ao.length < 5864062014805
      ·rw [if_pos c8] at H; have cB := A_ c8; clear c8; obtain ⟨ch, aQ⟩ := ex_ ((ao ++ [aY]) : List (List Int)); replace H : (impl_classes.l0 k1 l0 ch l1 (l1.length : Int) (wrap64 (ah + 1))) = some r := by (rw [aQ]; with_reducible exact H)
       have bR := A_ aQ; clear aQ
       have H' := A_ H
       clear H
       have bj : 0 ≤ (ah : Int) := oa_
       have bo : ah < (l1.length : Int) := oa_
       obtain ⟨df, cI, ar⟩ := Kd.at_int HR1.o ah bj bo
       cases cI
       replace ar := (HB.o.cell (World.block_lt_of_cell? w _ ar)).trans ar; replace bj := eq_true bj; replace bo := eq_true bo
       go_wp2_with (first | ((with_reducible refine gate_dst (N := 26) rfl ?_); refine Kd.R_lit (Kd.int .i64) _ 3 ?hg (N := 26) ?hd (xs := ([rd l1 ah] : List Int)) (inner := [.int .i64 (rd l1 ah)]) (ok := fun _ => True) (okp := fun _ => True) ?hr ?hp (fun _ hk => hk) trivial (Below.refl _ _) (Nat.le_refl _) (by simp) ?_; (case hd | hg => rfl); (case hr => go_simp; done); (case hp => exact (Reps.one (show Kd.M (Kd.int .i64) _ _ _ (rd l1 ah) [.int .i64 (rd l1 ah)] from rfl) (Reps.none _ _))); rintro dJ w9 a8 hb - -; (rw [← bQ.o] at a8); replace ab := A_ (Kd.S_elder' ab.o (Kd.R_base a8) hb); have aA := A_ (Kd.R_lower a8 (below_size HB.o)); replace HB := bs_ HB hb; clear hb a8; obtain ⟨bz, b4, cQ⟩ := Kd.R_slice aA.o; subst cQ) | ((with_reducible refine gate_builtin (b := .append) (xs := #[.tmp 24, .tmp 27]) rfl ?_); at_builtin; refine Kd.S_append (Kd.slice 3 (Kd.int .i64)) (w0 := w) w.heap.size rfl (.tmp 24) (.tmp 27) 22 23 (.slice none 0 0) 24 rfl Try.underlying22 info23 rfl (by decide) (by omega) u5 ao aY [.slice bz aY.length b4] (fun _ => True) (fun k_ => some k_ = (.slice bz aY.length b4 : Value).ownBlock) rfl rfl ?aP (fun k_ hk_ => ((Kd.R_mono (ok' := fun k_ => ((fun _ => True)) k_ ∧ some k_ ≠ (u5 : Value).ownBlock) (Kd.R_apart' (aA.o) (Kd.S_typed ab.o) (by decide)) (fun k_ hk => ⟨trivial, hk.2⟩))).1 k_ hk_.symm) ?aF ?aO ?aB ?aS ?aL ?_; (case aP => exact Kd.M_row (Kd.R_mono (Kd.R_tight rfl (Kd.R_mono (ok' := fun k_ => ((fun _ => True)) k_ ∧ some k_ ≠ (u5 : Value).ownBlock) (Kd.R_apart' (aA.o) (Kd.S_typed ab.o) (by decide)) (fun k_ hk => ⟨trivial, hk.2⟩))) (fun _ h_ => h_))); (case aB => exact HB.o); (case aF => exact (fun _ _ => trivial)); (case aO => exact (by exact Kd.S_mono ab.o (fun k_ hk => ⟨trivial, fun e_ => hk.2 e_⟩))); (case aS => exact (below_size HB.o)); (case aL => have := cB.o; omega); intro dK w11 ho hb hg hat; rw [← bR.o] at ho; replace HB := A_ (hb); have bE := A_ (ho); clear ab aA; clear ho hb hg hat))
       go_roundg k1
       case measure => have := aE.o; omega
       case rel => exact ⟨(ch), (wrap64 (ah + 1)), (by rfl), H', ⟨by have := aE.o; omega⟩, ⟨bE.o⟩, ⟨HB.o⟩⟩
      rw [if_neg c8] at H
      cases H
     rw [if_neg c7] at H
     cases H
    rw [if_neg c6] at H
    cases H
   rw [if_neg c5] at H; have bh := decide_eq_false c5; clear c5; replace H := bA_ H; obtain ⟨⟨b7, b8⟩, A13, H⟩ := H; dsimp only at H
   have H' := A_ H
   clear H; obtain ⟨dr, dy, cS⟩ := Kd.S_slice ab.o; subst cS
   go_wp2_with (first | ((with_reducible refine gc_ 63 rfl ?_); refine cM_ E63 32 (impl_numbered.calls _ _ ao b7 b8 _ ((Kd.S_reads' ab.o).2.2) ((Kd.S_reads' ab.o).2.1) A13.o) ?_; rintro e w15 ⟨dL, rfl, ho0, hb⟩; refine ⟨_, rfl, ?_⟩; replace ab := A_ (Kd.S_elder' ab.o (Kd.R_base ho0) hb); have bF := A_ (Kd.R_lower ho0 (below_size HB.o)); replace HB := bs_ HB hb; clear hb; (try clear ho0)))
   go_loopg [5, 8, 9] k1 (fun kq v5 v8 v9 w' => ∃ (az : List (List Int)) (af : List Int) (ak : Int), v9 = .int .i64 ak ∧ Aside0 (impl_classes.l1 kq l0 az af ak = some r) ∧ Aside0 (kq ≤ k1) ∧ Aside0 (Kd.S (Kd.slice 3 (Kd.int .i64)) 23 w' w.heap.size (o1 v8) v5 az) ∧ Aside0 (Kd.R (Kd.int .i64) 3 w' w.heap.size (fun _ => True) v8 af) ∧ Aside0 (Below w.heap.size w w'))
   case atStart => exact ⟨(ao), (b7), (b8), (by rfl), H', ⟨Nat.le_refl _⟩, ⟨by exact Kd.S_mono ab.o (fun _ hk => hk.2)⟩, ⟨bF.o⟩, ⟨HB.o⟩⟩
   case round =>
    clear H'
    try clear bh
    obtain ⟨az, af, ak, rfl, HA, bv, ab, ac, HB⟩ := hrel
    cases gk with
    | zero => exact nz_ HA.o
    | succ k2 =>
     have H := HA.o; clear HA; simp only [impl_classes.l1] at H
     by_cases c16 : 0 ≤ (az.length : Int)
     ·rw [if_pos c16] at H; have bW := eq_true c16; have bX := decide_eq_true c16; clear c16; obtain ⟨bu, aT⟩ := ex_ ((az.take (0 : Int).toNat) : List (List Int)); replace H : (impl_classes.l2 k2 l0 bu af ak l0 (l0.length : Int) 0) = some r := by (rw [aT]; with_reducible exact H)
      have bf := A_ aT; clear aT
      have H' := A_ H
      clear H; obtain ⟨cy, cG, cU⟩ := Kd.S_slice ab.o; subst cU
      have cr : (0 : Int) ≤ ((az.length : Int) : Int) := oa_
      obtain ⟨i018, hi018, _, hsz18, _⟩ := info_parts info23; have hcut18 := cut_to (P := Try.prog) 22 23 .i64 Try.underlying22 hi018 cy az.length cG 0 (by omega) cr (Kd.S_reads' ab.o).2.1; have hr18 := Kd.S_take (m := (0 : Int).toNat) ab.o (by omega)
      have b6 : bu.length = (0 : Int).toNat := (by rw [bf.o, List.length_take]; omega)
      rw [← bf.o] at hr18; rw [← b6] at hr18 hcut18; clear b6 hi018 hsz18 ab; have bG := A_ hr18; clear hr18; replace cr := eq_true cr
      go_wp2
      go_loopg [5, 39] k2 (fun kq v5 dE w' => ∃ (al : List (List Int)) (aa : Int), dE = .int .i64 aa ∧ Aside0 (impl_classes.l2 kq l0 al af ak l0 (l0.length : Int) aa = some r) ∧ Aside0 (kq ≤ k2) ∧ Aside0 (Kd.S (Kd.slice 3 (Kd.int .i64)) 23 w' w.heap.size (o1 u8) v5 al) ∧ Aside0 (Kd.R (Kd.int .i64) 3 w' w.heap.size (fun _ => True) u8 af) ∧ Aside0 (Below w.heap.size w w'))
      case atStart => exact ⟨(bu), (0), (by rfl), H', ⟨Nat.le_refl _⟩, ⟨bG.o⟩, ⟨ac.o⟩, ⟨HB.o⟩⟩
      case round =>
       clear H'
       clear bW bX cr
       obtain ⟨al, aa, rfl, HA, bw, ab, ac, HB⟩ := hrel
       cases gk with
       | zero => exact nz_ HA.o
       | succ k3 =>
        have H := HA.o; clear HA; simp only [impl_classes.l2] at H
        by_cases c19 : aa < (l0.length : Int)
        ·rw [if_pos c19] at H; have bg := decide_eq_true c19; clear c19
         by_cases c20 : 0 ≤ aa
         ·rw [if_pos c20] at H; have bY := decide_eq_true c20; clear c20
          by_cases c21 : aa < (l0.length : Int)
          ·rw [if_pos c21] at H; have bZ := decide_eq_true c21; clear c21
           by_cases c22 : aa < (af.length : Int)
           ·rw [if_pos c22] at H; have b0 := decide_eq_true c22; clear c22; obtain ⟨ci, aU⟩ := ex_ ((([rd af aa] : List Int)) : List Int); replace H : (impl_classes.l3 k3 l0 al af ak ci l0 (l0.length : Int) aa (rd_L1 l0 aa) ((rd_L1 l0 aa).length : Int) 0) = some r := by (rw [aU]; with_reducible exact H)
            have bS := A_ aU; clear aU
            have H' := A_ H
            clear H
            have ba : 0 ≤ (aa : Int) := oa_
            have bc : aa < (l0.length : Int) := oa_
            obtain ⟨dg, cw, cC, cJ, am, aD, aC⟩ := at_L1 HR0.o aa ba bc
            cases cJ
            replace am := (HB.o.cell (World.block_lt_of_cell? w _ am)).trans am; have aZ := A_ aC; have cm := A_ aD; clear aC aD; replace ba := eq_true ba; replace bc := eq_true bc; obtain ⟨dt, ax, cV⟩ := Kd.R_slice ac.o; subst cV
            have bb : 0 ≤ (aa : Int) := oa_
            have bd : aa < (af.length : Int) := oa_
            obtain ⟨aj, cK, a9⟩ := Kd.at_int (Kd.R_reads' ac.o).2.2 aa bb bd
            cases cK
            replace bb := eq_true bb; replace bd := eq_true bd
            go_wp2_with (first | ((with_reducible refine gate_dst (N := 48) rfl ?_); refine Kd.R_lit (Kd.int .i64) _ 3 ?hg (N := 48) ?hd (xs := ([rd af aa] : List Int)) (inner := [.int .i64 (rd af aa)]) (ok := fun _ => True) (okp := fun _ => True) ?hr ?hp (fun _ hk => hk) trivial (Below.refl _ _) (Nat.le_refl _) (by simp) ?_; (case hd | hg => rfl); (case hr => go_simp; done); (case hp => exact (Reps.one (show Kd.M (Kd.int .i64) _ _ _ (rd af aa) [.int .i64 (rd af aa)] from rfl) (Reps.none _ _))); rintro dM w24 aH hb - -; (rw [← bS.o] at aH); replace ab := A_ (Kd.S_elder' ab.o (Kd.R_base aH) hb); have bH := A_ (Kd.R_lower (Kd.R_new' aH (Kd.R_lt ac.o)) (below_size HB.o)); replace ac := A_ (Kd.R_elder' ac.o (Kd.R_base aH) hb); replace HB := bs_ HB hb; clear hb aH))
            go_loopg [12, 51] k3 (fun kq cZ dP w' => ∃ (ai : List Int) (ag : Int), dP = .int .i64 ag ∧ Aside0 (impl_classes.l3 kq l0 al af ak ai l0 (l0.length : Int) aa (rd_L1 l0 aa) ((rd_L1 l0 aa).length : Int) ag = some r) ∧ Aside0 (kq ≤ k3) ∧ Aside0 (Kd.S (Kd.slice 3 (Kd.int .i64)) 23 w' w.heap.size (o2 (.slice (some aj) af.length ax) cZ) u5 al) ∧ Aside0 (Kd.R (Kd.int .i64) 3 w' w.heap.size (o1 cZ) (.slice (some aj) af.length ax) af) ∧ Aside0 (Kd.R (Kd.int .i64) 3 w' w.heap.size (o1 (.slice (some aj) af.length ax)) cZ ai) ∧ Aside0 (Below w.heap.size w w'))
            case atStart => exact ⟨(ci), (0), (by rfl), H', ⟨Nat.le_refl _⟩, ⟨ab.o⟩, ⟨by exact Kd.R_mono ac.o (fun _ hk => hk.2)⟩, ⟨by exact Kd.R_mono bH.o (fun _ hk => hk.2)⟩, ⟨HB.o⟩⟩
            case round =>
             clear H'
             clear bg bY bZ b0 am a9 ba bb bc bd
             obtain ⟨ai, ag, rfl, HA, co, ab, ac, ap, HB⟩ := hrel
             cases gk with
             | zero => exact nz_ HA.o
             | succ k4 =>
              have H := HA.o; clear HA; simp only [impl_classes.l3] at H
              by_cases c26 : ag < ((rd_L1 l0 aa).length : Int)
              ·rw [if_pos c26] at H; have b1 := decide_eq_true c26; clear c26
               by_cases c27 : 0 ≤ ag
               ·rw [if_pos c27] at H; have dj := decide_eq_true c27; clear c27
                by_cases c28 : ag < ((rd_L1 l0 aa).length : Int)
                ·rw [if_pos c28] at H; have dk := decide_eq_true c28; clear c28
                 by_cases c29 : 0 ≤ (rd (rd_L1 l0 aa) ag)
                 ·rw [if_pos c29] at H; have dl := decide_eq_true c29; clear c29
                  by_cases c30 : (rd (rd_L1 l0 aa) ag) < (af.length : Int)
                  ·rw [if_pos c30] at H; have dm := decide_eq_true c30; clear c30
                   by_cases c31 : ai.length < 17592186044416
                   ·rw [if_pos c31] at H; have bK := A_ c31; clear c31; obtain ⟨cj, aV⟩ := ex_ ((ai ++ [rd af (rd (rd_L1 l0 aa) ag)]) : List Int); replace H : (impl_classes.l3 k4 l0 al af ak cj l0 (l0.length : Int) aa (rd_L1 l0 aa) ((rd_L1 l0 aa).length : Int) (wrap64 (ag + 1))) = some r := by (rw [aV]; with_reducible exact H)
                    have bT := A_ aV; clear aV
                    have H' := A_ H
                    clear H
                    have bk : 0 ≤ (ag : Int) := oa_
                    have bp : ag < ((rd_L1 l0 aa).length : Int) := oa_
                    obtain ⟨dh, cL, au⟩ := Kd.at_int aZ.o ag bk bp
                    cases cL
                    replace au := (HB.o.cell (World.block_lt_of_cell? w _ au)).trans au; replace bk := eq_true bk; replace bp := eq_true bp
                    have bl : 0 ≤ ((rd (rd_L1 l0 aa) ag) : Int) := oa_
                    have bq : (rd (rd_L1 l0 aa) ag) < (af.length : Int) := oa_
                    obtain ⟨bV, cN, cq⟩ := Kd.at_int (Kd.R_reads' ac.o).2.2 (rd (rd_L1 l0 aa) ag) bl bq; obtain rfl : aj = bV := (by injection cN); replace bl := eq_true bl; replace bq := eq_true bq
                    go_wp2_with (first | ((with_reducible refine gate_builtin (b := .append) (xs := #[.tmp 55, .tmp 60]) rfl ?_); at_builtin; refine Kd.R_append (Kd.int .i64) (w0 := w) w.heap.size rfl (.tmp 55) (.tmp 60) 23 3 (.int .i64 0) 8 rfl Try.underlying23 info3 rfl (by decide) (by omega) u12 ai (rd af (rd (rd_L1 l0 aa) ag)) [.int .i64 (rd af (rd (rd_L1 l0 aa) ag))] (o1 (.slice (some aj) af.length ax)) (fun _ => False) rfl rfl ?aP (fun _ hk => hk.elim) ?aF ?aO ?aB ?aS ?aL ?_; (case aP => exact rfl); (case aB => exact HB.o); (case aF => exact (fun k_ hk => Kd.fresh' (Kd.R_lt ac.o) k_ hk)); (case aO => exact ap.o); (case aS => exact (below_size HB.o)); (case aL => have := bK.o; omega); intro dN w32 ho hb hg hat; rw [← bT.o] at ho; replace ab := A_ (Kd.S_after (ok := (o1 (.slice (some aj) af.length ax))) ab.o hg hat); replace ac := A_ (Kd.R_after (ok := (fun _ => True)) (by exact Kd.R_mono ac.o (fun _ hk => ⟨trivial, hk⟩)) hg hat); replace HB := A_ (hb); have bI := A_ (ho); clear ap; clear ho hb hg hat))
                    go_roundg k4
                    case measure => have := aE.o; have := bv.o; have := bw.o; have := co.o; omega
                    case rel => exact ⟨(cj), (wrap64 (ag + 1)), (by rfl), H', ⟨by have := aE.o; have := bv.o; have := bw.o; have := co.o; omega⟩, ⟨ab.o⟩, ⟨by exact Kd.R_mono ac.o (fun _ hk => hk.2)⟩, ⟨bI.o⟩, ⟨HB.o⟩⟩
                   rw [if_neg c31] at H
                   cases H
                  rw [if_neg c30] at H
                  cases H
                 rw [if_neg c29] at H
                 cases H
                rw [if_neg c28] at H
                cases H
               rw [if_neg c27] at H
               cases H
              rw [if_neg c26] at H; have b1 := decide_eq_false c26; clear c26
              by_cases c33 : al.length < 5864062014805
              ·rw [if_pos c33] at H; have bL := A_ c33; clear c33; obtain ⟨ck, aW⟩ := ex_ ((al ++ [ai]) : List (List Int)); replace H : (impl_classes.l2 k4 l0 ck af ak l0 (l0.length : Int) (wrap64 (aa + 1))) = some r := by (rw [aW]; with_reducible exact H)
               have bU := A_ aW; clear aW
               have H' := A_ H
               clear H; obtain ⟨bA, b5, cW⟩ := Kd.R_slice ap.o; subst cW
               go_wp2_with (first | ((with_reducible refine gate_builtin (b := .append) (xs := #[.tmp 63, .tmp 65]) rfl ?_); at_builtin; refine Kd.S_append (Kd.slice 3 (Kd.int .i64)) (w0 := w) w.heap.size rfl (.tmp 63) (.tmp 65) 22 23 (.slice none 0 0) 24 rfl Try.underlying22 info23 rfl (by decide) (by omega) u5 al ai [.slice bA ai.length b5] (o1 (.slice (some aj) af.length ax)) (fun k_ => some k_ = (.slice bA ai.length b5 : Value).ownBlock) rfl rfl ?aP (fun k_ hk_ => ((Kd.R_mono (ok' := fun k_ => ((o1 (.slice (some aj) af.length ax))) k_ ∧ some k_ ≠ (u5 : Value).ownBlock) (Kd.R_apart' (ap.o) (Kd.S_typed ab.o) (by decide)) (fun k_ hk => ⟨hk.1, hk.2⟩))).1 k_ hk_.symm) ?aF ?aO ?aB ?aS ?aL ?_; (case aP => exact Kd.M_row (Kd.R_mono (Kd.R_tight rfl (Kd.R_mono (ok' := fun k_ => ((o1 (.slice (some aj) af.length ax))) k_ ∧ some k_ ≠ (u5 : Value).ownBlock) (Kd.R_apart' (ap.o) (Kd.S_typed ab.o) (by decide)) (fun k_ hk => ⟨hk.1, hk.2⟩))) (fun _ h_ => h_))); (case aB => exact HB.o); (case aF => exact (fun k_ hk => Kd.fresh' (Kd.R_lt ac.o) k_ hk)); (case aO => exact (by exact Kd.S_mono ab.o (fun k_ hk => ⟨hk.1, fun e_ => hk.2 e_⟩))); (case aS => exact (below_size HB.o)); (case aL => have := bL.o; omega); intro dO w34 ho hb hg hat; rw [← bU.o] at ho; replace ac := A_ (Kd.R_over' ac.o (Kd.S_typed ab.o) (by decide) hg); replace HB := A_ (hb); have bJ := A_ (ho); clear ab ap; clear ho hb hg hat))
               go_roundg k4
               case measure => have := aE.o; have := bv.o; have := bw.o; have := co.o; omega
               case rel => exact ⟨(ck), (wrap64 (aa + 1)), (by rfl), H', ⟨by have := aE.o; have := bv.o; have := bw.o; have := co.o; omega⟩, ⟨bJ.o⟩, ⟨by exact Kd.R_mono ac.o (fun _ hk => trivial)⟩, ⟨HB.o⟩⟩
              rw [if_neg c33] at H
              cases H
           rw [if_neg c22] at H
           cases H
          rw [if_neg c21] at H
          cases H
         rw [if_neg c20] at H
         cases H
        rw [if_neg c19] at H; have bg := decide_eq_false c19; clear c19; replace H := bA_ H; obtain ⟨⟨br, ay⟩, A36, H⟩ := H; dsimp only at H
        by_cases c37 : ay = ak
        ·rw [if_pos c37] at H
         have b2 : (ay == ak) = true := beq_iff_eq.mpr c37
         have b3 : (ay != ak) = false := bne_eq_false_iff_eq.mpr c37
         clear c37; obtain rfl := Option.some.inj H; obtain ⟨du, dz, cX⟩ := Kd.S_slice ab.o; subst cX
         go_wp2_with (first | ((with_reducible refine gc_ 63 rfl ?_); refine cM_ E63 70 (impl_numbered.calls _ _ al br ay _ ((Kd.S_reads' ab.o).2.2) ((Kd.S_reads' ab.o).2.1) A36.o) ?_; rintro e w39 ⟨da, rfl, ho0, hb⟩; refine ⟨_, rfl, ?_⟩; replace ab := A_ (Kd.S_elder' ab.o (Kd.R_base ho0) hb); have aG := A_ (Kd.R_lower (Kd.R_new' ho0 (Kd.R_lt ac.o)) (below_size HB.o)); replace ac := A_ (Kd.R_elder' ac.o (Kd.R_base ho0) hb); replace HB := bs_ HB hb; clear hb; (try clear ho0)))
         go_ret
         exact ⟨_, by rfl, by exact Kd.R_mono aG.o (fun _ hk => trivial), HB.o⟩
        rw [if_neg c37] at H
        have b2 : (ay == ak) = false := beq_eq_false_iff_ne.mpr c37
        have b3 : (ay != ak) = true := bne_iff_ne.mpr c37
        have H' := A_ H
        clear H; obtain ⟨dv, dA, cY⟩ := Kd.S_slice ab.o; subst cY
        go_wp2_with (first | ((with_reducible refine gc_ 63 rfl ?_); refine cM_ E63 70 (impl_numbered.calls _ _ al br ay _ ((Kd.S_reads' ab.o).2.2) ((Kd.S_reads' ab.o).2.1) A36.o) ?_; rintro e w41 ⟨da, rfl, ho0, hb⟩; refine ⟨_, rfl, ?_⟩; replace ab := A_ (Kd.S_elder' ab.o (Kd.R_base ho0) hb); have aG := A_ (Kd.R_lower (Kd.R_new' ho0 (Kd.R_lt ac.o)) (below_size HB.o)); replace ac := A_ (Kd.R_elder' ac.o (Kd.R_base ho0) hb); replace HB := bs_ HB hb; clear hb; (try clear ho0)))
        go_roundg k3
        case measure => have := aE.o; have := bv.o; have := bw.o; omega
        case rel => exact ⟨(al), (br), (ay), (by rfl), H', ⟨by have := aE.o; have := bv.o; have := bw.o; omega⟩, ⟨by exact Kd.S_mono ab.o (fun _ hk => hk.2)⟩, ⟨by exact Kd.R_mono aG.o (fun _ hk => trivial)⟩, ⟨HB.o⟩⟩
     rw [if_neg c16] at H
     cases H

end Go.Proofs.Ytgmfjcckmapkbaa.PFnExactCountingForm

