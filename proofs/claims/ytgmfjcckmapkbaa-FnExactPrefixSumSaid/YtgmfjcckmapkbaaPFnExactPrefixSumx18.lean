/- Walks of the functions that the law reaches. -/
import Derived.Test.YtgmfjcckmapkbaaPFnExactPrefixSumx16
import Derived.Test.YtgmfjcckmapkbaaPFnExactPrefixSumx17
namespace Go.Proofs.Ytgmfjcckmapkbaa.PFnExactPrefixSum
open Go.RowKit Go.Proofs.YtgmfjcckmapkbaaW.PrintWords Go.Proofs.YtgmfjcckmapkbaaW.PrintLast Go.Proofs.YtgmfjcckmapkbaaW.PrintMore
attribute [local go_sem] max2_int min2_int max_two min_two max_three min_three max_four min_four
set_option linter.unusedVariables false
set_option maxHeartbeats 8000000
set_option maxRecDepth 100000
set_option linter.unusedSimpArgs false

open Go.Maps in
section
def firstI (k : Int) : List Int → Nat → Int
 | [], _ => 0
 | x :: l, n => if x = k then (n : Int) else firstI k l (n + 1)
def manyI : List Int → Nat
 | [] => 0
 | x :: l => if x ∈ l then manyI l else manyI l + 1
def Dm {H : Type} : List Int → Nat → DataW H
 | [], _ => .map []
 | x :: l, i => (Dm l (i + 1)).put (.int .i64 x) (.lit (.int .i64 (i : Int)))
theorem isKeyI (x : Int) : WideAt.IsKeyLit (.int .i64 x) := trivial
theorem isMap_Dm {H : Type} : ∀ (l : List Int) (i : Nat), IsMap (Dm (H := H) l i)
 | [], _ => isMap_empty
 | x :: l, i => (isMap_Dm l (i + 1)).put _ _
theorem tidy_Dm {H : Type} : ∀ (l : List Int) (i : Nat), Tidy (Dm (H := H) l i)
 | [], _ => tidy_empty
 | x :: l, i => (tidy_Dm l (i + 1)).put (isKeyI _) _
theorem int_ne_ {a b : Int} (h : a ≠ b) : Lit.int .i64 b ≠ Lit.int .i64 a := fun e => h (by injection e with _ e; exact e.symm)
theorem has_Dm {H : Type} (k : Int) : ∀ (l : List Int) (i : Nat), Maps.has (Dm (H := H) l i) (.int .i64 k) = decide (k ∈ l)
 | [], _ => rfl
 | x :: l, i => by
  unfold Dm
  by_cases e : x = k
  ·subst e; rw [has_put_same (isMap_Dm l (i + 1)) (isKeyI _)]; simp
  rw [has_put_other (int_ne_ e), has_Dm k l (i + 1)]; simp [Ne.symm e]
theorem at_Dm {H : Type} (k : Int) : ∀ (l : List Int) (i : Nat), (Dm (H := H) l i).atKey (.int .i64 k) (.lit (.int .i64 0)) = .lit (.int .i64 (firstI k l i))
 | [], _ => rfl
 | x :: l, i => by
  unfold Dm firstI
  by_cases e : x = k
  ·subst e; rw [if_pos rfl, atKey_put_same (isMap_Dm l (i + 1)) (isKeyI _)]
  rw [if_neg e, atKey_put_other (int_ne_ e)]; exact at_Dm k l (i + 1)
theorem size_Dm {H : Type} : ∀ (l : List Int) (i : Nat), Maps.size (Dm (H := H) l i) = manyI l
 | [], _ => rfl
 | x :: l, i => by
  unfold Dm manyI; rw [size_put (tidy_Dm l (i + 1)), has_Dm x l (i + 1), size_Dm l (i + 1)]
  by_cases e : x ∈ l <;> simp [e]
end
def impl_firstIn.f (l0 : List Int) (a1 : Int) : Option (Int) := if 0 ≤ a1 ∧ a1 ≤ 64 then some (firstI a1 l0 0) else none
def impl_manyIn.f (l0 : List Int) : Option (Int) := some (manyI l0 : Int)
theorem firstIn_wf {l : List Int} {a t : Int} (h : impl_firstIn.f l a = some t) : (Lit.int .i64 a).wf = true := by
 unfold impl_firstIn.f at h
 split at h
 ·exact WalkArith.wf_i64 (by omega)
 cases h
theorem firstIn_eq {l : List Int} {a t c : Int} (hat : (Dm (H := Unit) l 0).atKey (.int .i64 a) (.lit (.int .i64 0)) = .lit (.int .i64 c)) (h : impl_firstIn.f l a = some t) : c = t := by
 unfold impl_firstIn.f at h
 split at h
 ·rw [at_Dm] at hat
  injection hat with hat
  injection hat with _ hat
  injection h with h
  rw [← hat, h]
 cases h
theorem manyIn_eq {l : List Int} {t : Int} (h : impl_manyIn.f l = some t) : ((Maps.size (Dm (H := Unit) l 0) : Nat) : Int) = t := by
 rw [size_Dm]
 injection h
structure MInv (w4 wr : World) (cl : List Int) (m : Nat) : Prop where
 own : wr.ownsMap (H := Unit) Try.prog 3 (plainElem Try.prog 3) w4.heap.size (cl.length - m) (Dm (cl.drop m) m)
 below : Below w4.heap.size w4 wr
theorem MInv.step {w4 wr w1 : World} {cl : List Int} {m : Nat} (h : MInv w4 wr cl (m + 1)) (hm : m + 1 ≤ cl.length) (hown : w1.ownsMap (H := Unit) Try.prog 3 (plainElem Try.prog 3) w4.heap.size (cl.length - (m + 1) + 1) ((Dm (cl.drop (m + 1)) (m + 1)).put (.int .i64 (rd cl (m : Int))) (.lit (.int .i64 (m : Int))))) (hg : wr.grownBy w1 (some w4.heap.size)) : MInv w4 w1 cl m := by
 refine ⟨?_, h.below.grown hg h.below.size (fun j hj => by cases hj; exact Nat.le_refl _)⟩
 have e1 : cl.drop m = rd cl (m : Int) :: cl.drop (m + 1) := by
  have : rd cl (m : Int) = cl[m]'(by omega) := by simp [rd, List.getD_eq_getElem?_getD, List.getElem?_eq_getElem (show m < cl.length by omega)]
  rw [this]; exact List.drop_eq_getElem_cons (by omega)
 rw [e1]
 have e2 : cl.length - (m + 1) + 1 = cl.length - m := by omega
 rw [← e2]; exact hown
mutual
def impl_minimal2.l0 : Nat → List (List Int) → List Int → List Int → List (List Int) → List Int → Int → Int → Option ((List (List Int)) × List Int)
 | 0, _, _, _, _, _, _, _ => none
 | k + 1, x0, x1, x6, x9, aX, dj, cc => if cc < dj then ((impl_firstIn.f x6 cc).bind fun ak => (if 0 ≤ ak then (if ak < (x0.length : Int) then (impl_minimal2.l1 k x0 x1 x6 x9 aX cc (([] : List Int)) dj cc (rd_L1 x0 ak) ((rd_L1 x0 ak).length : Int) 0) else (none)) else (none))) else (some (x9, aX))
def impl_minimal2.l1 : Nat → List (List Int) → List Int → List Int → List (List Int) → List Int → Int → List Int → Int → Int → List Int → Int → Int → Option ((List (List Int)) × List Int)
 | 0, _, _, _, _, _, _, _, _, _, _, _, _ => none
 | k + 1, x0, x1, x6, x9, aX, ex, d7, dj, cc, dk, ey, cd => if cd < ey then (if 0 ≤ cd then (if cd < (dk.length : Int) then (if 0 ≤ (rd dk cd) then (if (rd dk cd) < (x6.length : Int) then (if d7.length < 17592186044416 then (impl_minimal2.l1 k x0 x1 x6 x9 aX ex (d7 ++ [rd x6 (rd dk cd)]) dj cc dk ey (wrap64 (cd + 1))) else (none)) else (none)) else (none)) else (none)) else (none)) else (if x9.length < 5864062014805 then ((impl_firstIn.f x6 ex).bind fun av => (if 0 ≤ av then (if av < (x1.length : Int) then (if aX.length < 17592186044416 then (impl_minimal2.l0 k x0 x1 x6 (x9 ++ [d7]) (aX ++ [rd x1 av]) dj (wrap64 (cc + 1))) else (none)) else (none)) else (none))) else (none))
end
def impl_minimal2.f (k : Nat) (l0 : List (List Int)) (l1 : List Int) (l2 : List Int) : Option ((List (List Int)) × List Int) := (impl_manyIn.f l2).bind fun aD => (impl_minimal2.l0 k l0 l1 l2 (([] : List (List Int))) (([] : List Int)) aD 0)
mutual
def impl_minimal3.l0 : Nat → List (List Int) → List Int → List Int → List Int → List Int → Int → Int → Option ((List (List Int)) × List Int)
 | 0, _, _, _, _, _, _, _ => none
 | k + 1, x9, aX, d8, bw, dl, ez, bR => if bR < ez then (if 0 ≤ bR then (if bR < (dl.length : Int) then (if 0 ≤ (rd dl bR) then (if (rd dl bR) < (bw.length : Int) then (impl_minimal3.l0 k x9 aX d8 (bw.set ((rd dl bR) : Int).toNat bR) dl ez (wrap64 (bR + 1))) else (none)) else (none)) else (none)) else (none)) else (impl_minimal3.l1 k x9 aX bw (([] : List (List Int))) (([] : List Int)) d8 (d8.length : Int) 0)
def impl_minimal3.l1 : Nat → List (List Int) → List Int → List Int → List (List Int) → List Int → List Int → Int → Int → Option ((List (List Int)) × List Int)
 | 0, _, _, _, _, _, _, _, _ => none
 | k + 1, x9, aX, bw, cj, ck, aJ, bu, aG => if aG < bu then (if 0 ≤ aG then (if aG < (aJ.length : Int) then (if 0 ≤ (rd aJ aG) then (if (rd aJ aG) < (x9.length : Int) then (impl_minimal3.l2 k x9 aX bw cj ck (rd aJ aG) (([] : List Int)) aJ bu aG (rd_L1 x9 (rd aJ aG)) ((rd_L1 x9 (rd aJ aG)).length : Int) 0) else (none)) else (none)) else (none)) else (none)) else (some (cj, ck))
def impl_minimal3.l2 : Nat → List (List Int) → List Int → List Int → List (List Int) → List Int → Int → List Int → List Int → Int → Int → List Int → Int → Int → Option ((List (List Int)) × List Int)
 | 0, _, _, _, _, _, _, _, _, _, _, _, _, _ => none
 | k + 1, x9, aX, bw, cj, ck, dD, d9, aJ, bu, aG, bv, di, a3 => if a3 < di then (if 0 ≤ a3 then (if a3 < (bv.length : Int) then (if 0 ≤ (rd bv a3) then (if (rd bv a3) < (bw.length : Int) then (if d9.length < 17592186044416 then (impl_minimal3.l2 k x9 aX bw cj ck dD (d9 ++ [rd bw (rd bv a3)]) aJ bu aG bv di (wrap64 (a3 + 1))) else (none)) else (none)) else (none)) else (none)) else (none)) else (if cj.length < 5864062014805 then (if 0 ≤ dD then (if dD < (aX.length : Int) then (if ck.length < 17592186044416 then (impl_minimal3.l1 k x9 aX bw (cj ++ [d9]) (ck ++ [rd aX dD]) aJ bu (wrap64 (aG + 1))) else (none)) else (none)) else (none)) else (none))
end
def impl_minimal3.f (k : Nat) (l0 : List (List Int)) (l1 : List Int) : Option ((List (List Int)) × List Int) := (impl_reached.f k l0).bind fun aa => (if 0 ≤ (l0.length : Int) then (if ((l0.length : Int) : Int).toNat ≤ 35184372088832 then (impl_minimal3.l0 k l0 l1 aa (List.replicate ((l0.length : Int) : Int).toNat 0) aa (aa.length : Int) 0) else (none)) else (none))
def impl_minimal.f (k : Nat) (l0 : List (List Int)) (l1 : List Int) : Option ((List (List Int)) × List Int) := (impl_classes.f k l0 l1).bind fun c => if c.length ≤ 64 ∧ l0.length = c.length ∧ ∀ x ∈ c, 0 ≤ x ∧ x ≤ 64 then (impl_minimal2.f k l0 l1 c).bind fun m => impl_minimal3.f k m.1 m.2 else none
theorem minimal_some {k : Nat} {l0 : List (List Int)} {l1 : List Int} {r : (List (List Int)) × List Int} (h : impl_minimal.f k l0 l1 = some r) : ∃ c, impl_classes.f k l0 l1 = some c ∧ (c.length ≤ 64 ∧ l0.length = c.length ∧ ∀ x ∈ c, 0 ≤ x ∧ x ≤ 64) ∧ ∃ m1 m2, impl_minimal2.f k l0 l1 c = some (m1, m2) ∧ impl_minimal3.f k m1 m2 = some r := by
 unfold impl_minimal.f at h; obtain ⟨c, hc, h⟩ := Option.bind_eq_some_iff.mp h
 split at h
 ·rename_i hg
  obtain ⟨⟨m1, m2⟩, hm, h⟩ := Option.bind_eq_some_iff.mp h; exact ⟨c, hc, hg, m1, m2, hm, h⟩
 cases h
theorem rd_bd_ {c : List Int} (h : ∀ x ∈ c, 0 ≤ x ∧ x ≤ 64) (i : Nat) (hi : i < c.length) : 0 ≤ rd c (i : Int) ∧ rd c (i : Int) ≤ 64 := by
 have : rd c (i : Int) = c[i] := by simp [rd, List.getD_eq_getElem?_getD, List.getElem?_eq_getElem hi]
 rw [this]; exact h _ (List.getElem_mem hi)
theorem impl_minimal.calls1 (k : Nat) (A0 : Option Addr) (c0 : Nat) (l0 : List (List Int)) (A1 : Option Addr) (c1 : Nat) (l1 : List Int) (l2 : List Int) (m1 : List (List Int)) (m2 : List Int) (r1 : List (List Int)) (r2 : List Int) (w : World) (hr0 : Kd.C (Kd.slice 3 (Kd.int .i64)) w A0 l0.length l0) (hc0 : l0.length ≤ c0) (hr1 : Kd.C (Kd.int .i64) w A1 l1.length l1) (hc1 : l1.length ≤ c1) (hcl : impl_classes.f k l0 l1 = some l2) (hlen : l2.length ≤ 64) (hll : l0.length = l2.length) (hbd : ∀ x ∈ l2, 0 ≤ x ∧ x ≤ 64) (h : impl_minimal2.f k l0 l1 l2 = some (m1, m2)) (h3 : impl_minimal3.f k m1 m2 = some (r1, r2)) :
  Calls Try.prog 44 #[.slice A0 l0.length c0, .slice A1 l1.length c1] w fun e w' => ∃ wb : World, Below w.heap.size w wb ∧ ∃ v0_ v1_ : Value, e = .returned (.tuple #[v0_, v1_]) ∧ Kd.S (Kd.slice 3 (Kd.int .i64)) 23 w' wb.heap.size (o1 v1_) v0_ r1 ∧ Kd.R (Kd.int .i64) 3 w' wb.heap.size (fun _ => True) v1_ r2 ∧ Below wb.heap.size wb w' := by
 have HR0 := A_ hr0; have HC0 := A_ hc0; clear hr0 hc0; have HR1 := A_ hr1; have HC1 := A_ hc1; clear hr1 hc1; have HBD := A_ hbd; have HLL := A_ hll; clear hbd hll; have HB := A_ (Below.refl w.heap.size w); have A3 := A_ hcl; clear hcl; have HH := A_ h; have HH3 := A_ h3; clear h h3; have hmm := @run_makeMap Try.prog; go_enter Try.func44, Try.ntmps44
 go_wp2_with (first | ((with_reducible refine gc_ 58 rfl ?_); refine cM_ E58 28 (impl_classes.calls k _ _ l0 _ _ l1 l2 _ (by repeat (first | exact HR0.o | (with_reducible refine Kd.C_alloc ?_ _) | (with_reducible refine Kd.C_drewN ?_ _) | (with_reducible refine Kd.C_drew ?_))) HC0.o (by repeat (first | exact HR1.o | (with_reducible refine Kd.C_alloc ?_ _) | (with_reducible refine Kd.C_drewN ?_ _) | (with_reducible refine Kd.C_drew ?_))) HC1.o A3.o) ?_; rintro e w4 ⟨eV, rfl, ho0, hb⟩; refine ⟨_, rfl, ?_⟩; have a4 := A_ (Kd.R_lower ho0 (below_size HB.o)); replace HB := bs_ HB hb; clear hb; (try clear ho0)))
 obtain ⟨A2, c2, e2⟩ := Kd.R_slice a4.o; subst e2; have HC2 := A_ (Kd.R_reads' a4.o).2.1; have HR2 := A_ (Kd.R_reads' a4.o).2.2; clear a4
 have hwl : wrap64 ((l2.length : Int) - 1) = (l2.length : Int) - 1 := by unfold wrap64; omega
 have HM0 := A_ (MInv.mk (w4 := w4) (wr := w4.alloc (.map #[] 0)) (cl := l2) (m := l2.length) (by rw [Nat.sub_self, List.drop_length]; exact World.ownsMap_made _ _ _ _) (below_alloc (Below.refl _ _) _))
 go_loopw [8] (fun v8 wr => ∃ m : Nat, m ≤ l2.length ∧ v8 = .int .i64 ((m : Int) - 1) ∧ Aside0 (MInv w4 wr l2 m))
  (fun v8 _ => (intOf v8 + 1).toNat)
 case atStart => exact ⟨l2.length, Nat.le_refl _, by first | rfl | (rw [HLL.o]; first | rfl | (simp [hwl]; done) | (rw [hwl])), HM0⟩
 case round =>
  obtain ⟨m, hm, rfl, HM⟩ := hrel; clear HM0
  cases m with
  | succ m =>
   have bT : ((m + 1 : Nat) : Int) - 1 = (m : Int) := by omega
   rw [bT]
   have bW : (0 : Int) ≤ (m : Int) := by omega
   have b4 : (m : Int) < (l2.length : Int) := by omega
   obtain ⟨ea, ea500, hx500⟩ := Kd.at_int HR2.o (m : Int) bW b4; subst ea500; replace hx500 := (HM.o.below.cell (World.block_lt_of_cell? _ _ hx500)).trans hx500; rw [Int.toNat_natCast] at hx500; have hbx := rd_bd_ HBD.o m (by omega); have hown := HM.o.own
   have hws : wrap64 ((m : Int) - 1) = (m : Int) - 1 := by unfold wrap64; omega
   replace bW := eq_true bW; replace b4 := eq_true b4
   go_wp2_with (at_mapUpdate; refine wpList_mapUpdate_own _ rfl _ _ _ 68 rfl 3 3 (Maps.int_keyed Try.underlying3) Try.underlying68 _ w4.heap.size _ _ rfl hown (by unfold maxLen; omega) _ _ _ rfl rfl (Maps.keyOf_int_mk Try.underlying3 (WalkArith.wf_i64 (by omega))) _ [] (plainElem_int Try.underlying3 (WalkArith.wf_i64 (by omega))) ?_; intro w1 hown1 hg1)
   go_roundw
   case rel => exact ⟨m, by omega, (by first | rfl | (rw [hws]; done) | (rw [hws]; rfl) | (simp [hws]; done)), ⟨HM.o.step hm hown1 hg1⟩⟩
   case measure => (simp [intOf]) <;> omega
  | zero =>
   have bT : ((0 : Nat) : Int) - 1 = -1 := by omega
   rw [bT]; have hmap := HM.o.own; rw [List.drop_zero] at hmap; have hbw := HM.o.below; obtain ⟨wb, hwb⟩ : ∃ wb, wb = wr := ⟨_, rfl⟩; subst hwb; have HMAP := A_ hmap; have HR0_ := A_ (Kd.C_below (Kd.C_below HR0.o HB.o) hbw); have HR1_ := A_ (Kd.C_below (Kd.C_below HR1.o HB.o) hbw); have HR2_ := A_ (Kd.C_below HR2.o hbw); have HBW := A_ (below_step HB.o hbw); clear HR0 HR1 HR2 HB HM hmap hbw; have HR0 := HR0_; have HR1 := HR1_; have HR2 := HR2_; clear HR0_ HR1_ HR2_; obtain ⟨BM, hBM⟩ : ∃ BM, BM = w4.heap.size := ⟨_, rfl⟩; rw [← hBM] at HMAP; rw [← hBM]; clear hBM; have HB := A_ (Below.refl wb.heap.size wb)
   have H : ((impl_manyIn.f l2).bind fun aD => (impl_minimal2.l0 k l0 l1 l2 (([] : List (List Int))) (([] : List Int)) aD 0)) = some (m1, m2) := HH.o
   clear HH; obtain ⟨ce, bg⟩ := ex_ ((([] : List (List Int))) : List (List Int)); replace H : ((impl_manyIn.f l2).bind fun aD => (impl_minimal2.l0 k l0 l1 l2 ce (([] : List Int)) aD 0)) = some (m1, m2) := by (rw [bg]; with_reducible exact H)
   have cH := A_ bg; clear bg; obtain ⟨dm, bh⟩ := ex_ ((([] : List Int)) : List Int); replace H : ((impl_manyIn.f l2).bind fun aD => (impl_minimal2.l0 k l0 l1 l2 ce dm aD 0)) = some (m1, m2) := by (rw [bh]; with_reducible exact H)
   have cI := A_ bh; clear bh; replace H := bA_ H; obtain ⟨aD, A4, H⟩ := H
   have H' := A_ H
   clear H
   go_wp2_with (first | ((with_reducible refine gate_dst (N := 43) rfl ?_); refine Kd.S_lit (Kd.slice 3 (Kd.int .i64)) _ 23 ?hg (N := 43) ?hd (xs := ([] : List (List Int))) (inner := []) (ok := fun _ => True) (okp := fun _ => True) ?hr ?hp (fun _ hk => hk) trivial (Below.refl _ _) (Nat.le_refl _) (by simp) ?_; (case hd | hg => rfl); (case hr => go_simp; done); (case hp => exact (Reps.none _ _)); rintro eF w5 ho6 hb - -; (rw [← cH.o] at ho6); have bb := A_ (Kd.S_lower ho6 (below_size HB.o)); replace HB := bs_ HB hb; clear hb ho6) | ((with_reducible refine gd_ 44 rfl ?_); refine RL_ 44 3 [] [] rfl rfl (by go_simp; done) rfl rfl ?_; rintro eG w7 ho8 hb - -; (rw [← cI.o] at ho8); replace bb := A_ (Kd.S_elder' bb.o (Kd.R_base ho8) hb); have co := A_ (Kd.R_lower ho8 (below_size HB.o)); replace HB := bs_ HB hb; clear hb ho8) | ((with_reducible refine gate_dst (N := 46) rfl ?_); at_len; refine wpList_len_own _ rfl _ 68 rfl 3 3 Try.underlying68 _ BM _ _ rfl (by repeat (first | (with_reducible exact own_below_ HMAP.o HB.o) | (with_reducible refine World.ownsMap.alloc ?_ _) | (refine own_drewN_ ?_ _))) ?_; rw [manyIn_eq A4.o]))
   go_loopg [9, 10, 47] k (fun kq v9 ew eE w' => ∃ (ac : List (List Int)) (af : List Int) (aq : Int), eE = .int .i64 aq ∧ Aside0 (impl_minimal2.l0 kq l0 l1 l2 ac af aD aq = some (m1, m2)) ∧ Aside0 (kq ≤ k) ∧ Aside0 (Kd.S (Kd.slice 3 (Kd.int .i64)) 23 w' wb.heap.size (o1 ew) v9 ac) ∧ Aside0 (Kd.R (Kd.int .i64) 3 w' wb.heap.size (fun _ => True) ew af) ∧ Aside0 (Below wb.heap.size wb w'))
   case atStart => exact ⟨(ce), (dm), (0), (by rfl), H', ⟨Nat.le_refl _⟩, ⟨by exact Kd.S_mono bb.o (fun _ hk => hk.2)⟩, ⟨co.o⟩, ⟨HB.o⟩⟩
   case round =>
    clear H'; obtain ⟨ac, af, aq, rfl, HA, ba, aw, am, HB⟩ := hrel
    cases gk with
    | zero => exact nz_ HA.o
    | succ k1 =>
     have H := HA.o; clear HA; simp only [impl_minimal2.l0] at H
     by_cases c9 : aq < aD
     ·rw [if_pos c9] at H; have dc := decide_eq_true c9; clear c9; obtain ⟨dn, bi⟩ := ex_ ((([] : List Int)) : List Int); replace H : ((impl_firstIn.f l2 aq).bind fun ak => (if 0 ≤ ak then (if ak < (l0.length : Int) then (impl_minimal2.l1 k1 l0 l1 l2 ac af aq dn aD aq (rd_L1 l0 ak) ((rd_L1 l0 ak).length : Int) 0) else (none)) else (none))) = some (m1, m2) := by (rw [bi]; with_reducible exact H)
      have cJ := A_ bi; clear bi; replace H := bA_ H; obtain ⟨ak, A10, H⟩ := H
      by_cases c11 : 0 ≤ ak
      ·rw [if_pos c11] at H; have bM := decide_eq_true c11; clear c11
       by_cases c12 : ak < (l0.length : Int)
       ·rw [if_pos c12] at H; have bN := decide_eq_true c12; clear c12
        have H' := A_ H
        clear H
        go_wp2_with (first | ((with_reducible refine gd_ 50 rfl ?_); refine RL_ 50 3 [] [] rfl rfl (by go_simp; done) rfl rfl ?_; rintro eH w13 bf hb - -; (rw [← cJ.o] at bf); replace aw := A_ (Kd.S_elder' aw.o (Kd.R_base bf) hb); have cp := A_ (Kd.R_lower (Kd.R_new' bf (Kd.R_lt am.o)) (below_size HB.o)); replace am := A_ (Kd.R_elder' am.o (Kd.R_base bf) hb); replace HB := bs_ HB hb; clear hb bf) | ((with_reducible refine gate_dst (N := 54) rfl ?_); at_lookup; refine wpList_lookup_own_int _ rfl _ _ 68 rfl 3 3 .i64 (Maps.int_keyed Try.underlying3) Try.underlying68 Try.underlying3 (zeroI_ _) BM _ _ rfl (by repeat (first | (with_reducible exact own_below_ HMAP.o HB.o) | (with_reducible refine World.ownsMap.alloc ?_ _) | (refine own_drewN_ ?_ _))) _ _ rfl (Maps.keyOf_int_mk Try.underlying3 (firstIn_wf A10.o)) ?_; intro c_ hat_ hwc_; obtain rfl : ak = c_ := (firstIn_eq hat_ A10.o).symm; clear hat_ hwc_; have bD : 0 ≤ (ak : Int) := oa_; have bG : ak < (l0.length : Int) := oa_; obtain ⟨eb, dE, dI, dN, aH, a8, a6⟩ := at_L1 HR0.o ak bD bG; cases dN; replace aH := (HB.o.cell (World.block_lt_of_cell? wb _ aH)).trans aH; have bz := A_ a6; have dx := A_ a8; clear a6 a8; replace bD := eq_true bD; replace bG := eq_true bG))
        go_loopg [12, 58] k1 (fun kq d6 eN w' => ∃ (az : List Int) (al : Int), eN = .int .i64 al ∧ Aside0 (impl_minimal2.l1 kq l0 l1 l2 ac af aq az aD aq (rd_L1 l0 ak) ((rd_L1 l0 ak).length : Int) al = some (m1, m2)) ∧ Aside0 (kq ≤ k1) ∧ Aside0 (Kd.S (Kd.slice 3 (Kd.int .i64)) 23 w' wb.heap.size (o2 u10 d6) u9 ac) ∧ Aside0 (Kd.R (Kd.int .i64) 3 w' wb.heap.size (o1 d6) u10 af) ∧ Aside0 (Kd.R (Kd.int .i64) 3 w' wb.heap.size (o1 u10) d6 az) ∧ Aside0 (Below wb.heap.size wb w'))
        case atStart => exact ⟨(dn), (0), (by rfl), H', ⟨Nat.le_refl _⟩, ⟨aw.o⟩, ⟨by exact Kd.R_mono am.o (fun _ hk => hk.2)⟩, ⟨by exact Kd.R_mono cp.o (fun _ hk => hk.2)⟩, ⟨HB.o⟩⟩
        case round =>
         clear H'
         clear dc bM bN aH bD bG
         obtain ⟨az, al, rfl, HA, bx, aw, am, aM, HB⟩ := hrel
         cases gk with
         | zero => exact nz_ HA.o
         | succ k2 =>
          have H := HA.o; clear HA; simp only [impl_minimal2.l1] at H
          by_cases c15 : al < ((rd_L1 l0 ak).length : Int)
          ·rw [if_pos c15] at H; have cY := decide_eq_true c15; clear c15
           by_cases c16 : 0 ≤ al
           ·rw [if_pos c16] at H; have ek := decide_eq_true c16; clear c16
            by_cases c17 : al < ((rd_L1 l0 ak).length : Int)
            ·rw [if_pos c17] at H; have el := decide_eq_true c17; clear c17
             by_cases c18 : 0 ≤ (rd (rd_L1 l0 ak) al)
             ·rw [if_pos c18] at H; have em := decide_eq_true c18; clear c18
              by_cases c19 : (rd (rd_L1 l0 ak) al) < (l2.length : Int)
              ·rw [if_pos c19] at H; have en := decide_eq_true c19; clear c19
               by_cases c20 : az.length < 17592186044416
               ·rw [if_pos c20] at H; have cB := A_ c20; clear c20; obtain ⟨dp, bj⟩ := ex_ ((az ++ [rd l2 (rd (rd_L1 l0 ak) al)]) : List Int); replace H : (impl_minimal2.l1 k2 l0 l1 l2 ac af aq dp aD aq (rd_L1 l0 ak) ((rd_L1 l0 ak).length : Int) (wrap64 (al + 1))) = some (m1, m2) := by (rw [bj]; with_reducible exact H)
                have cK := A_ bj; clear bj
                have H' := A_ H
                clear H
                have bX : 0 ≤ (al : Int) := oa_
                have b5 : al < ((rd_L1 l0 ak).length : Int) := oa_
                obtain ⟨ec, dO, aQ⟩ := Kd.at_int bz.o al bX b5
                cases dO
                replace aQ := (HB.o.cell (World.block_lt_of_cell? wb _ aQ)).trans aQ; replace bX := eq_true bX; replace b5 := eq_true b5
                have bY : 0 ≤ ((rd (rd_L1 l0 ak) al) : Int) := oa_
                have b6 : (rd (rd_L1 l0 ak) al) < (l2.length : Int) := oa_
                obtain ⟨ed, dP, aT⟩ := Kd.at_int HR2.o (rd (rd_L1 l0 ak) al) bY b6
                cases dP
                replace aT := (HB.o.cell (World.block_lt_of_cell? wb _ aT)).trans aT; replace bY := eq_true bY; replace b6 := eq_true b6
                go_wp2_with (first | ((with_reducible refine gate_builtin (b := .append) (xs := #[.tmp 62, .tmp 67]) rfl ?_); at_builtin; refine Kd.R_append (Kd.int .i64) (w0 := wb) wb.heap.size rfl (.tmp 62) (.tmp 67) 23 3 (.int .i64 0) 8 rfl Try.underlying23 info3 rfl (by decide) (by omega) u12 az (rd l2 (rd (rd_L1 l0 ak) al)) [.int .i64 (rd l2 (rd (rd_L1 l0 ak) al))] (o1 u10) (fun _ => False) rfl rfl ?aP (fun _ hk => hk.elim) ?aF ?aO ?aB ?aS ?aL ?_; (case aP => exact rfl); (case aB => exact HB.o); (case aF => exact (fun k_ hk => Kd.fresh' (Kd.R_lt am.o) k_ hk)); (case aO => exact aM.o); (case aS => exact (below_size HB.o)); (case aL => have := cB.o; omega); intro eI w21 ho hb hg hat; rw [← cK.o] at ho; replace aw := A_ (Kd.S_after (ok := (o1 u10)) aw.o hg hat); replace am := A_ (Kd.R_after (ok := (fun _ => True)) (by exact Kd.R_mono am.o (fun _ hk => ⟨trivial, hk⟩)) hg hat); replace HB := A_ (hb); have cq := A_ (ho); clear aM; clear ho hb hg hat))
                go_roundg k2
                case measure => have := ba.o; have := bx.o; omega
                case rel => exact ⟨(dp), (wrap64 (al + 1)), (by rfl), H', ⟨by have := ba.o; have := bx.o; omega⟩, ⟨aw.o⟩, ⟨by exact Kd.R_mono am.o (fun _ hk => hk.2)⟩, ⟨cq.o⟩, ⟨HB.o⟩⟩
               rw [if_neg c20] at H
               cases H
              rw [if_neg c19] at H
              cases H
             rw [if_neg c18] at H
             cases H
            rw [if_neg c17] at H
            cases H
           rw [if_neg c16] at H
           cases H
          rw [if_neg c15] at H; have cY := decide_eq_false c15; clear c15
          by_cases c22 : ac.length < 5864062014805
          ·rw [if_pos c22] at H; have cC := A_ c22; clear c22; obtain ⟨cf, bk⟩ := ex_ ((ac ++ [az]) : List (List Int)); replace H : ((impl_firstIn.f l2 aq).bind fun av => (if 0 ≤ av then (if av < (l1.length : Int) then (if af.length < 17592186044416 then (impl_minimal2.l0 k2 l0 l1 l2 cf (af ++ [rd l1 av]) aD (wrap64 (aq + 1))) else (none)) else (none)) else (none))) = some (m1, m2) := by (rw [bk]; with_reducible exact H)
           have cL := A_ bk; clear bk; replace H := bA_ H; obtain ⟨av, A23, H⟩ := H
           by_cases c24 : 0 ≤ av
           ·rw [if_pos c24] at H; have bP := decide_eq_true c24; clear c24
            by_cases c25 : av < (l1.length : Int)
            ·rw [if_pos c25] at H; have bQ := decide_eq_true c25; clear c25
             by_cases c26 : af.length < 17592186044416
             ·rw [if_pos c26] at H; have cD := A_ c26; clear c26; obtain ⟨dq, bl⟩ := ex_ ((af ++ [rd l1 av]) : List Int); replace H : (impl_minimal2.l0 k2 l0 l1 l2 cf dq aD (wrap64 (aq + 1))) = some (m1, m2) := by (rw [bl]; with_reducible exact H)
              have cN := A_ bl; clear bl
              have H' := A_ H
              clear H; obtain ⟨cm, dd, dX⟩ := Kd.R_slice aM.o; subst dX
              go_wp2_with (first | ((with_reducible refine gate_builtin (b := .append) (xs := #[.tmp 70, .tmp 72]) rfl ?_); at_builtin; refine Kd.S_append (Kd.slice 3 (Kd.int .i64)) (w0 := wb) wb.heap.size rfl (.tmp 70) (.tmp 72) 22 23 (.slice none 0 0) 24 rfl Try.underlying22 info23 rfl (by decide) (by omega) u9 ac az [.slice cm az.length dd] (o1 u10) (fun k_ => some k_ = (.slice cm az.length dd : Value).ownBlock) rfl rfl ?aP (fun k_ hk_ => ((Kd.R_mono (ok' := fun k_ => ((o1 u10)) k_ ∧ some k_ ≠ (u9 : Value).ownBlock) (Kd.R_apart' (aM.o) (Kd.S_typed aw.o) (by decide)) (fun k_ hk => ⟨hk.1, hk.2⟩))).1 k_ hk_.symm) ?aF ?aO ?aB ?aS ?aL ?_; (case aP => exact Kd.M_row (Kd.R_mono (Kd.R_tight rfl (Kd.R_mono (ok' := fun k_ => ((o1 u10)) k_ ∧ some k_ ≠ (u9 : Value).ownBlock) (Kd.R_apart' (aM.o) (Kd.S_typed aw.o) (by decide)) (fun k_ hk => ⟨hk.1, hk.2⟩))) (fun _ h_ => h_))); (case aB => exact HB.o); (case aF => exact (fun k_ hk => Kd.fresh' (Kd.R_lt am.o) k_ hk)); (case aO => exact (by exact Kd.S_mono aw.o (fun k_ hk => ⟨hk.1, fun e_ => hk.2 e_⟩))); (case aS => exact (below_size HB.o)); (case aL => have := cC.o; omega); intro eJ w27 ho hb hg hat; rw [← cL.o] at ho; replace am := A_ (Kd.R_over' am.o (Kd.S_typed aw.o) (by decide) hg); replace HB := A_ (hb); have bc := A_ (ho); clear aw aM; clear ho hb hg hat) | ((with_reducible refine gate_dst (N := 78) rfl ?_); at_lookup; refine wpList_lookup_own_int _ rfl _ _ 68 rfl 3 3 .i64 (Maps.int_keyed Try.underlying3) Try.underlying68 Try.underlying3 (zeroI_ _) BM _ _ rfl (by repeat (first | (with_reducible exact own_below_ HMAP.o HB.o) | (with_reducible refine World.ownsMap.alloc ?_ _) | (refine own_drewN_ ?_ _))) _ _ rfl (Maps.keyOf_int_mk Try.underlying3 (firstIn_wf A23.o)) ?_; intro c_ hat_ hwc_; obtain rfl : av = c_ := (firstIn_eq hat_ A23.o).symm; clear hat_ hwc_; have bZ : 0 ≤ (av : Int) := oa_; have b7 : av < (l1.length : Int) := oa_; obtain ⟨ee, dQ, aU⟩ := Kd.at_int HR1.o av bZ b7; cases dQ; replace aU := (HB.o.cell (World.block_lt_of_cell? wb _ aU)).trans aU; replace bZ := eq_true bZ; replace b7 := eq_true b7) | ((with_reducible refine gate_builtin (b := .append) (xs := #[.tmp 74, .tmp 81]) rfl ?_); at_builtin; refine Kd.R_append (Kd.int .i64) (w0 := wb) wb.heap.size rfl (.tmp 74) (.tmp 81) 23 3 (.int .i64 0) 8 rfl Try.underlying23 info3 rfl (by decide) (by omega) u10 af (rd l1 av) [.int .i64 (rd l1 av)] (fun _ => True) (fun _ => False) rfl rfl ?aP (fun _ hk => hk.elim) ?aF ?aO ?aB ?aS ?aL ?_; (case aP => exact rfl); (case aB => exact HB.o); (case aF => exact (fun _ _ => trivial)); (case aO => exact (by exact Kd.R_mono am.o (fun _ hk => trivial))); (case aS => exact (below_size HB.o)); (case aL => have := cD.o; omega); intro eK w29 ho hb hg hat; rw [← cN.o] at ho; replace bc := A_ (Kd.S_after (ok := (fun _ => True)) (by exact Kd.S_mono bc.o (fun _ hk => ⟨trivial, hk⟩)) hg hat); replace HB := A_ (hb); have cr := A_ (ho); clear am; clear ho hb hg hat))
              go_roundg k2
              case measure => have := ba.o; have := bx.o; omega
              case rel => exact ⟨(cf), (dq), (wrap64 (aq + 1)), (by rfl), H', ⟨by have := ba.o; have := bx.o; omega⟩, ⟨by exact Kd.S_mono bc.o (fun _ hk => hk.2)⟩, ⟨cr.o⟩, ⟨HB.o⟩⟩
             rw [if_neg c26] at H
             cases H
            rw [if_neg c25] at H
            cases H
           rw [if_neg c24] at H
           cases H
          rw [if_neg c22] at H
          cases H
       rw [if_neg c12] at H
       cases H
      rw [if_neg c11] at H
      cases H
     rw [if_neg c9] at H; have dc := decide_eq_false c9; clear c9; simp only [Option.some.injEq, Prod.mk.injEq] at H; obtain ⟨rfl, rfl⟩ := H; clear ba; obtain ⟨AM, cM, eM⟩ := Kd.S_slice aw.o; subst eM; obtain ⟨AT, cT, eT⟩ := Kd.R_slice am.o; subst eT; obtain ⟨wc, hwc⟩ : ∃ wc, wc = wr := ⟨_, rfl⟩; subst hwc; have HBC := A_ (below_step HBW.o HB.o); have HCM := A_ (Kd.S_reads' aw.o).2.1; have HRM := A_ (Kd.S_reads' aw.o).2.2; have HCT := A_ (Kd.R_reads' am.o).2.1; have HRT := A_ (Kd.R_reads' am.o).2.2; clear aw am HB HR0 HR1 HR2 HC0 HC1 HC2 HMAP HBW; have HB := A_ (Below.refl wc.heap.size wc)
     have H : ((impl_reached.f k ac).bind fun aa => (if 0 ≤ (ac.length : Int) then (if ((ac.length : Int) : Int).toNat ≤ 35184372088832 then (impl_minimal3.l0 k ac af aa (List.replicate ((ac.length : Int) : Int).toNat 0) aa (aa.length : Int) 0) else (none)) else (none))) = some (r1, r2) := HH3.o
     clear HH3; replace H := bA_ H; obtain ⟨aa, A3, H⟩ := H
     by_cases c4 : 0 ≤ (ac.length : Int)
     ·rw [if_pos c4] at H; have dG := eq_true c4; have dH := decide_eq_true c4; clear c4
      by_cases c5 : ((ac.length : Int) : Int).toNat ≤ 35184372088832
      ·rw [if_pos c5] at H; have dK := eq_true c5; have dL := decide_eq_true c5; clear c5; obtain ⟨dr, bm⟩ := ex_ ((List.replicate ((ac.length : Int) : Int).toNat 0) : List Int); replace H : (impl_minimal3.l0 k ac af aa dr aa (aa.length : Int) 0) = some (r1, r2) := by (rw [bm]; with_reducible exact H)
       have cO := A_ bm; clear bm
       have H' := A_ H
       clear H
       go_wp2_with (first | ((with_reducible refine gc_ 59 rfl ?_); refine cM_ E59 85 (impl_reached.calls k _ _ ac aa _ (by repeat (first | exact HRM.o | (with_reducible refine Kd.C_alloc ?_ _) | (with_reducible refine Kd.C_drewN ?_ _) | (with_reducible refine Kd.C_drew ?_))) HCM.o A3.o) ?_; rintro e w6 ⟨eL, rfl, ho0, hb⟩; refine ⟨_, rfl, ?_⟩; have aK := A_ (Kd.R_lower ho0 (below_size HB.o)); replace HB := bs_ HB hb; clear hb; (try clear ho0)) | ((with_reducible refine gate_dst (N := 88) rfl ?_); refine Kd.R_make (Kd.int .i64) _ 3 rfl (N := 88) rfl 23 _ _ rfl (ac.length : Int) rfl rfl Try.underlying23 (.int .i64 0) 8 info3 rfl (by decide) (by omega) 0 (ok := fun _ => True) (okp := fun _ => True) rfl (fun _ hk => hk) trivial oa_ (Nat.le_trans (Nat.mul_le_mul_right _ (oa_ : (ac.length : Int).toNat ≤ 35184372088832)) (by omega)) (Below.refl _ _) (Nat.le_refl _) ?_; rintro au w7 ho8 hb - -; (rw [← cO.o] at ho8); have cv := A_ (Kd.R_lower (Kd.R_new' ho8 (Kd.R_lt aK.o)) (below_size HB.o)); replace aK := A_ (Kd.R_elder' aK.o (Kd.R_base ho8) hb); replace HB := bs_ HB hb; clear hb ho8; obtain ⟨bJ, aE, eC⟩ := Kd.R_slice aK.o; subst eC))
       go_loopg [91] k (fun kq eW w' => ∃ (ag : List Int) (aj : Int), eW = .int .i64 aj ∧ Aside0 (impl_minimal3.l0 kq ac af aa ag aa (aa.length : Int) aj = some (r1, r2)) ∧ Aside0 (kq ≤ k) ∧ Aside0 (Kd.R (Kd.int .i64) 3 w' wc.heap.size (o1 au) (.slice bJ aa.length aE) aa) ∧ Aside0 (Kd.R (Kd.int .i64) 3 w' wc.heap.size (o2 (.slice bJ aa.length aE) (.slice bJ aa.length aE)) au ag) ∧ Aside0 (Kd.R (Kd.int .i64) 3 w' wc.heap.size (o1 au) (.slice bJ aa.length aE) aa) ∧ Aside0 (Below wc.heap.size wc w'))
       case atStart => exact ⟨(dr), (0), (by rfl), H', ⟨Nat.le_refl _⟩, ⟨by exact Kd.R_mono aK.o (fun _ hk => hk.2)⟩, ⟨by exact Kd.R_mono cv.o (fun _ hk => ⟨hk.2, hk.2⟩)⟩, ⟨by exact Kd.R_mono aK.o (fun _ hk => hk.2)⟩, ⟨HB.o⟩⟩
       case round =>
        clear H'
        clear dG dH dK dL
        obtain ⟨ag, aj, rfl, HA, ba, ax, ae, ay, HB⟩ := hrel
        cases gk with
        | zero => exact nz_ HA.o
        | succ k1 =>
         have H := HA.o; clear HA; simp only [impl_minimal3.l0] at H
         by_cases c10 : aj < (aa.length : Int)
         ·rw [if_pos c10] at H; have bL := decide_eq_true c10; clear c10
          by_cases c11 : 0 ≤ aj
          ·rw [if_pos c11] at H; have bM := decide_eq_true c11; clear c11
           by_cases c12 : aj < (aa.length : Int)
           ·rw [if_pos c12] at H; have bN := decide_eq_true c12; clear c12
            by_cases c13 : 0 ≤ (rd aa aj)
            ·rw [if_pos c13] at H; have ei := decide_eq_true c13; clear c13
             by_cases c14 : (rd aa aj) < (ag.length : Int)
             ·rw [if_pos c14] at H; have ej := decide_eq_true c14; clear c14; obtain ⟨cg, bn⟩ := ex_ ((ag.set ((rd aa aj) : Int).toNat aj) : List Int); replace H : (impl_minimal3.l0 k1 ac af aa cg aa (aa.length : Int) (wrap64 (aj + 1))) = some (r1, r2) := by (rw [bn]; with_reducible exact H)
              have cP := A_ bn; clear bn
              have H' := A_ H
              clear H
              have b0 : 0 ≤ (aj : Int) := oa_
              have b8 : aj < (aa.length : Int) := oa_
              obtain ⟨bK, dR, dA⟩ := Kd.at_int (Kd.R_reads' ay.o).2.2 aj b0 b8
              cases dR
              replace b0 := eq_true b0; replace b8 := eq_true b8
              have d2 : 0 ≤ ((rd aa aj) : Int) := oa_
              have d3 : ((rd aa aj) : Int) < ((ag.length : Int) : Int) := oa_
              obtain ⟨bU, dM, df, dg, gl15, cl15, HG15⟩ := Kd.R_form ae.o (by omega)
              (first | cases df | (injection df with ea_ en_ ec_; (first | subst ea_ | (injection ea_ with ea_; subst ea_)); subst ec_; clear en_))
              have GB15 := A_ dg; have GG15 := A_ HG15; clear dg gl15 HG15; obtain ⟨d1, d0⟩ := Kd.R_celln 0 ae.o ((rd aa aj) : Int) d2 d3; replace d2 := eq_true d2; replace d3 := eq_true d3; have bS := Kd.R_putg ae.o ((rd aa aj) : Int) aj
              go_wp2_with (first | ((with_reducible refine gate_store (t := 3) (p := 99) rfl ?_); refine store_event (t := 3) (p := 99) (w1 := (wr.setCell ⟨bU, ((rd aa aj) : Int).toNat, none⟩ (.int .i64 aj))) rfl rfl rfl (by go_simp; done) ?_; intro w17 hw; have hg : wr.grownBy w17 (some bU) := (by rw [hw]; exact bS.2); have hp_ : Kd.R (Kd.int .i64) 3 w17 wc.heap.size (o2 (.slice (some bK) aa.length aE) (.slice (some bK) aa.length aE)) (.slice (some ⟨bU, 0, none⟩) ag.length dM) cg := (by rw [hw, cP.o]; exact bS.1); clear bS; replace ax := rB_ (ok := (fun _ => True)) hp_ ax (fun _ hk => ⟨trivial, hk⟩) hg; replace ae := A_ (hp_); replace ay := rB_ (ok := (fun _ => True)) hp_ ay (fun _ hk => ⟨trivial, hk⟩) hg; replace HB := A_ ((by rw [hw]; exact below_set (HB.o) GB15.o : Below wc.heap.size wc w17)); clear hg hw hp_))
              go_roundg k1
              case measure => have := ba.o; omega
              case rel => exact ⟨(cg), (wrap64 (aj + 1)), (by rfl), H', ⟨by have := ba.o; omega⟩, ⟨by exact Kd.R_mono ax.o (fun _ hk => hk.2)⟩, ⟨ae.o⟩, ⟨by exact Kd.R_mono ay.o (fun _ hk => hk.2)⟩, ⟨HB.o⟩⟩
             rw [if_neg c14] at H
             cases H
            rw [if_neg c13] at H
            cases H
           rw [if_neg c12] at H
           cases H
          rw [if_neg c11] at H
          cases H
         rw [if_neg c10] at H; have bL := decide_eq_false c10; clear c10; obtain ⟨ch, bo⟩ := ex_ ((([] : List (List Int))) : List (List Int)); replace H : (impl_minimal3.l1 k1 ac af ag ch (([] : List Int)) aa (aa.length : Int) 0) = some (r1, r2) := by (rw [bo]; with_reducible exact H)
         have cQ := A_ bo; clear bo; obtain ⟨dt, bp⟩ := ex_ ((([] : List Int)) : List Int); replace H : (impl_minimal3.l1 k1 ac af ag ch dt aa (aa.length : Int) 0) = some (r1, r2) := by (rw [bp]; with_reducible exact H)
         have cS := A_ bp; clear bp
         have H' := A_ H
         clear H
         go_wp2_with (first | ((with_reducible refine gate_dst (N := 101) rfl ?_); refine Kd.S_lit (Kd.slice 3 (Kd.int .i64)) _ 23 ?hg (N := 101) ?hd (xs := ([] : List (List Int))) (inner := []) (ok := fun _ => True) (okp := fun _ => True) ?hr ?hp (fun _ hk => hk) trivial (Below.refl _ _) (Nat.le_refl _) (by simp) ?_; (case hd | hg => rfl); (case hr => go_simp; done); (case hp => exact (Reps.none _ _)); rintro eO w18 bV hb - -; (rw [← cQ.o] at bV); have bd := A_ (Kd.S_lower (Kd.S_new' (Kd.S_new' (Kd.S_new' bV (Kd.R_lt ax.o)) (Kd.R_lt ae.o)) (Kd.R_lt ay.o)) (below_size HB.o)); replace ax := A_ (Kd.R_below ax.o hb); replace ae := A_ (Kd.R_below ae.o hb); replace ay := A_ (Kd.R_below ay.o hb); replace HB := bs_ HB hb; clear hb bV) | ((with_reducible refine gd_ 102 rfl ?_); refine RL_ 102 3 [] [] rfl rfl (by go_simp; done) rfl rfl ?_; rintro eP w20 aY hb - -; (rw [← cS.o] at aY); replace bd := A_ (Kd.S_elder' bd.o (Kd.R_base aY) hb); have cw := A_ (Kd.R_lower (Kd.R_new' (Kd.R_new' (Kd.R_new' aY (Kd.R_lt ax.o)) (Kd.R_lt ae.o)) (Kd.R_lt ay.o)) (below_size HB.o)); replace ax := A_ (Kd.R_elder' ax.o (Kd.R_base aY) hb); replace ae := A_ (Kd.R_elder' ae.o (Kd.R_base aY) hb); replace ay := A_ (Kd.R_elder' ay.o (Kd.R_base aY) hb); replace HB := bs_ HB hb; clear hb aY))
         go_loopg [19, 20, 105] k1 (fun kq eD dC d4 w' => ∃ (aA : List (List Int)) (ar : List Int) (ab : Int), d4 = .int .i64 ab ∧ Aside0 (impl_minimal3.l1 kq ac af ag aA ar aa (aa.length : Int) ab = some (r1, r2)) ∧ Aside0 (kq ≤ k1) ∧ Aside0 (Kd.R (Kd.int .i64) 3 w' wc.heap.size (o2 dC (.slice bJ aa.length aE)) au ag) ∧ Aside0 (Kd.S (Kd.slice 3 (Kd.int .i64)) 23 w' wc.heap.size (o3 au dC (.slice bJ aa.length aE)) eD aA) ∧ Aside0 (Kd.R (Kd.int .i64) 3 w' wc.heap.size (o2 au (.slice bJ aa.length aE)) dC ar) ∧ Aside0 (Kd.R (Kd.int .i64) 3 w' wc.heap.size (o2 au dC) (.slice bJ aa.length aE) aa) ∧ Aside0 (Below wc.heap.size wc w'))
         case atStart => exact ⟨(ch), (dt), (0), (by rfl), H', ⟨Nat.le_refl _⟩, ⟨by exact Kd.R_mono ae.o (fun _ hk => ⟨hk.2, hk.1.1⟩)⟩, ⟨by exact Kd.S_mono bd.o (fun _ hk => ⟨hk.1.1.2, ⟨hk.2, hk.1.1.1.2⟩⟩)⟩, ⟨by exact Kd.R_mono cw.o (fun _ hk => ⟨hk.1.2, hk.1.1.2⟩)⟩, ⟨ax.o⟩, ⟨HB.o⟩⟩
         case round =>
          clear H'
          try clear bL
          obtain ⟨aA, ar, ab, rfl, HA, bx, ae, an, ao, ai, HB⟩ := hrel
          cases gk with
          | zero => exact nz_ HA.o
          | succ k2 =>
           have H := HA.o; clear HA; simp only [impl_minimal3.l1] at H
           by_cases c22 : ab < (aa.length : Int)
           ·rw [if_pos c22] at H; have bO := decide_eq_true c22; clear c22
            by_cases c23 : 0 ≤ ab
            ·rw [if_pos c23] at H; have cZ := decide_eq_true c23; clear c23
             by_cases c24 : ab < (aa.length : Int)
             ·rw [if_pos c24] at H; have bP := decide_eq_true c24; clear c24; obtain ⟨du, bq⟩ := ex_ ((([] : List Int)) : List Int); replace H : (if 0 ≤ (rd aa ab) then (if (rd aa ab) < (ac.length : Int) then (impl_minimal3.l2 k2 ac af ag aA ar (rd aa ab) du aa (aa.length : Int) ab (rd_L1 ac (rd aa ab)) ((rd_L1 ac (rd aa ab)).length : Int) 0) else (none)) else (none)) = some (r1, r2) := by (rw [bq]; with_reducible exact H)
              have cU := A_ bq; clear bq
              by_cases c25 : 0 ≤ (rd aa ab)
              ·rw [if_pos c25] at H; have bQ := decide_eq_true c25; clear c25
               by_cases c26 : (rd aa ab) < (ac.length : Int)
               ·rw [if_pos c26] at H; have da := decide_eq_true c26; clear c26
                have H' := A_ H
                clear H
                have bE : 0 ≤ (ab : Int) := oa_
                have bH : ab < (aa.length : Int) := oa_
                obtain ⟨ap, dS, bC⟩ := Kd.at_int (Kd.R_reads' ai.o).2.2 ab bE bH
                cases dS
                replace bE := eq_true bE; replace bH := eq_true bH
                go_wp2_with (first | ((with_reducible refine gd_ 109 rfl ?_); refine RL_ 109 3 [] [] rfl rfl (by go_simp; done) rfl rfl ?_; rintro eQ w27 aZ hb - -; (rw [← cU.o] at aZ); replace an := A_ (Kd.S_elder' an.o (Kd.R_base aZ) hb); have cx := A_ (Kd.R_lower (Kd.R_new' (Kd.R_new' (Kd.R_new' aZ (Kd.R_lt ae.o)) (Kd.R_lt ao.o)) (Kd.R_lt ai.o)) (below_size HB.o)); replace ae := A_ (Kd.R_elder' ae.o (Kd.R_base aZ) hb); replace ao := A_ (Kd.R_elder' ao.o (Kd.R_base aZ) hb); replace ai := A_ (Kd.R_elder' ai.o (Kd.R_base aZ) hb); replace HB := bs_ HB hb; clear hb aZ; have bF : 0 ≤ ((rd aa ab) : Int) := oa_; have bI : (rd aa ab) < (ac.length : Int) := oa_; obtain ⟨ef, dF, dJ, dT, aI, a9, a7⟩ := at_L1 HRM.o (rd aa ab) bF bI; cases dT; replace aI := (HB.o.cell (World.block_lt_of_cell? wc _ aI)).trans aI; have bA := A_ a7; have dy := A_ a9; clear a7 a9; replace bF := eq_true bF; replace bI := eq_true bI))
                go_loopg [23, 115] k2 (fun kq dh d5 w' => ∃ (aC : List Int) (ah : Int), d5 = .int .i64 ah ∧ Aside0 (impl_minimal3.l2 kq ac af ag aA ar (rd aa ab) aC aa (aa.length : Int) ab (rd_L1 ac (rd aa ab)) ((rd_L1 ac (rd aa ab)).length : Int) ah = some (r1, r2)) ∧ Aside0 (kq ≤ k2) ∧ Aside0 (Kd.R (Kd.int .i64) 3 w' wc.heap.size (o3 u20 dh (.slice (some ap) aa.length aE)) au ag) ∧ Aside0 (Kd.S (Kd.slice 3 (Kd.int .i64)) 23 w' wc.heap.size (o4 au u20 dh (.slice (some ap) aa.length aE)) u19 aA) ∧ Aside0 (Kd.R (Kd.int .i64) 3 w' wc.heap.size (o3 au dh (.slice (some ap) aa.length aE)) u20 ar) ∧ Aside0 (Kd.R (Kd.int .i64) 3 w' wc.heap.size (o3 au u20 (.slice (some ap) aa.length aE)) dh aC) ∧ Aside0 (Kd.R (Kd.int .i64) 3 w' wc.heap.size (o3 au u20 dh) (.slice (some ap) aa.length aE) aa) ∧ Aside0 (Below wc.heap.size wc w'))
                case atStart => exact ⟨(du), (0), (by rfl), H', ⟨Nat.le_refl _⟩, ⟨by exact Kd.R_mono ae.o (fun _ hk => ⟨hk.1.1, ⟨hk.2, hk.1.2⟩⟩)⟩, ⟨by exact Kd.S_mono an.o (fun _ hk => ⟨hk.1.1, ⟨hk.1.2.1, ⟨hk.2, hk.1.2.2⟩⟩⟩)⟩, ⟨by exact Kd.R_mono ao.o (fun _ hk => ⟨hk.1.1, ⟨hk.2, hk.1.2⟩⟩)⟩, ⟨by exact Kd.R_mono cx.o (fun _ hk => ⟨hk.1.1.2, ⟨hk.1.2, hk.2⟩⟩)⟩, ⟨by exact Kd.R_mono ai.o (fun _ hk => ⟨hk.1.1, ⟨hk.1.2, hk.2⟩⟩)⟩, ⟨HB.o⟩⟩
                case round =>
                 clear H'
                 clear bO cZ bP bQ da bC aI bE bF bH bI
                 obtain ⟨aC, ah, rfl, HA, dz, ae, an, ao, aN, ai, HB⟩ := hrel
                 cases gk with
                 | zero => exact nz_ HA.o
                 | succ k3 =>
                  have H := HA.o; clear HA; simp only [impl_minimal3.l2] at H
                  by_cases c29 : ah < ((rd_L1 ac (rd aa ab)).length : Int)
                  ·rw [if_pos c29] at H; have db := decide_eq_true c29; clear c29
                   by_cases c30 : 0 ≤ ah
                   ·rw [if_pos c30] at H; have eo := decide_eq_true c30; clear c30
                    by_cases c31 : ah < ((rd_L1 ac (rd aa ab)).length : Int)
                    ·rw [if_pos c31] at H; have ep := decide_eq_true c31; clear c31
                     by_cases c32 : 0 ≤ (rd (rd_L1 ac (rd aa ab)) ah)
                     ·rw [if_pos c32] at H; have eq := decide_eq_true c32; clear c32
                      by_cases c33 : (rd (rd_L1 ac (rd aa ab)) ah) < (ag.length : Int)
                      ·rw [if_pos c33] at H; have er := decide_eq_true c33; clear c33
                       by_cases c34 : aC.length < 17592186044416
                       ·rw [if_pos c34] at H; have cE := A_ c34; clear c34; obtain ⟨dv, br⟩ := ex_ ((aC ++ [rd ag (rd (rd_L1 ac (rd aa ab)) ah)]) : List Int); replace H : (impl_minimal3.l2 k3 ac af ag aA ar (rd aa ab) dv aa (aa.length : Int) ab (rd_L1 ac (rd aa ab)) ((rd_L1 ac (rd aa ab)).length : Int) (wrap64 (ah + 1))) = some (r1, r2) := by (rw [br]; with_reducible exact H)
                        have cV := A_ br; clear br
                        have H' := A_ H
                        clear H
                        have b1 : 0 ≤ (ah : Int) := oa_
                        have b9 : ah < ((rd_L1 ac (rd aa ab)).length : Int) := oa_
                        obtain ⟨eg, dU, aV⟩ := Kd.at_int bA.o ah b1 b9
                        cases dU
                        replace aV := (HB.o.cell (World.block_lt_of_cell? wc _ aV)).trans aV; replace b1 := eq_true b1; replace b9 := eq_true b9; obtain ⟨eB, bB, dY⟩ := Kd.R_slice ae.o; subst dY
                        have b2 : 0 ≤ ((rd (rd_L1 ac (rd aa ab)) ah) : Int) := oa_
                        have ca : (rd (rd_L1 ac (rd aa ab)) ah) < (ag.length : Int) := oa_
                        obtain ⟨a5, dV, dB⟩ := Kd.at_int (Kd.R_reads' ae.o).2.2 (rd (rd_L1 ac (rd aa ab)) ah) b2 ca
                        cases dV
                        replace b2 := eq_true b2; replace ca := eq_true ca
                        go_wp2_with (first | ((with_reducible refine gate_builtin (b := .append) (xs := #[.tmp 119, .tmp 124]) rfl ?_); at_builtin; refine Kd.R_append (Kd.int .i64) (w0 := wc) wc.heap.size rfl (.tmp 119) (.tmp 124) 23 3 (.int .i64 0) 8 rfl Try.underlying23 info3 rfl (by decide) (by omega) u23 aC (rd ag (rd (rd_L1 ac (rd aa ab)) ah)) [.int .i64 (rd ag (rd (rd_L1 ac (rd aa ab)) ah))] (o3 (.slice (some a5) ag.length bB) u20 (.slice (some ap) aa.length aE)) (fun _ => False) rfl rfl ?aP (fun _ hk => hk.elim) ?aF ?aO ?aB ?aS ?aL ?_; (case aP => exact rfl); (case aB => exact HB.o); (case aF => exact (fun k_ hk => ⟨Kd.fresh' (Kd.R_lt ae.o) k_ hk, Kd.fresh' (Kd.R_lt ao.o) k_ hk, Kd.fresh' (Kd.R_lt ai.o) k_ hk⟩)); (case aO => exact aN.o); (case aS => exact (below_size HB.o)); (case aL => have := cE.o; omega); intro eR w36 ho hb hg hat; rw [← cV.o] at ho; replace ae := A_ (Kd.R_after (ok := (o2 u20 (.slice (some ap) aa.length aE))) (by exact Kd.R_mono ae.o (fun _ hk => ⟨⟨hk.1, hk.2.2⟩, hk.2.1⟩)) hg hat); replace an := A_ (Kd.S_after (ok := (o3 (.slice (some a5) ag.length bB) u20 (.slice (some ap) aa.length aE))) (by exact Kd.S_mono an.o (fun _ hk => ⟨⟨hk.1, ⟨hk.2.1, hk.2.2.2⟩⟩, hk.2.2.1⟩)) hg hat); replace ao := A_ (Kd.R_after (ok := (o2 (.slice (some a5) ag.length bB) (.slice (some ap) aa.length aE))) (by exact Kd.R_mono ao.o (fun _ hk => ⟨⟨hk.1, hk.2.2⟩, hk.2.1⟩)) hg hat); replace ai := A_ (Kd.R_after (ok := (o2 (.slice (some a5) ag.length bB) u20)) (by exact Kd.R_mono ai.o (fun _ hk => ⟨⟨hk.1, hk.2.1⟩, hk.2.2⟩)) hg hat); replace HB := A_ (hb); have cy := A_ (ho); clear aN; clear ho hb hg hat))
                        go_roundg k3
                        case measure => have := ba.o; have := bx.o; have := dz.o; omega
                        case rel => exact ⟨(dv), (wrap64 (ah + 1)), (by rfl), H', ⟨by have := ba.o; have := bx.o; have := dz.o; omega⟩, ⟨by exact Kd.R_mono ae.o (fun _ hk => ⟨hk.1.1, ⟨hk.2, hk.1.2⟩⟩)⟩, ⟨by exact Kd.S_mono an.o (fun _ hk => ⟨hk.1.1, ⟨hk.1.2.1, ⟨hk.2, hk.1.2.2⟩⟩⟩)⟩, ⟨by exact Kd.R_mono ao.o (fun _ hk => ⟨hk.1.1, ⟨hk.2, hk.1.2⟩⟩)⟩, ⟨cy.o⟩, ⟨by exact Kd.R_mono ai.o (fun _ hk => ⟨hk.1.1, ⟨hk.1.2, hk.2⟩⟩)⟩, ⟨HB.o⟩⟩
                       rw [if_neg c34] at H
                       cases H
                      rw [if_neg c33] at H
                      cases H
                     rw [if_neg c32] at H
                     cases H
                    rw [if_neg c31] at H
                    cases H
                   rw [if_neg c30] at H
                   cases H
                  rw [if_neg c29] at H; have db := decide_eq_false c29; clear c29
                  by_cases c37 : aA.length < 5864062014805
                  ·rw [if_pos c37] at H; have cF := A_ c37; clear c37; obtain ⟨ci, bs⟩ := ex_ ((aA ++ [aC]) : List (List Int)); replace H : (if 0 ≤ (rd aa ab) then (if (rd aa ab) < (af.length : Int) then (if ar.length < 17592186044416 then (impl_minimal3.l1 k3 ac af ag ci (ar ++ [rd af (rd aa ab)]) aa (aa.length : Int) (wrap64 (ab + 1))) else (none)) else (none)) else (none)) = some (r1, r2) := by (rw [bs]; with_reducible exact H)
                   have cW := A_ bs; clear bs
                   by_cases c38 : 0 ≤ (rd aa ab)
                   ·rw [if_pos c38] at H; have eu := decide_eq_true c38; clear c38
                    by_cases c39 : (rd aa ab) < (af.length : Int)
                    ·rw [if_pos c39] at H; have ev := decide_eq_true c39; clear c39
                     by_cases c40 : ar.length < 17592186044416
                     ·rw [if_pos c40] at H; have cG := A_ c40; clear c40; obtain ⟨dw, bt⟩ := ex_ ((ar ++ [rd af (rd aa ab)]) : List Int); replace H : (impl_minimal3.l1 k3 ac af ag ci dw aa (aa.length : Int) (wrap64 (ab + 1))) = some (r1, r2) := by (rw [bt]; with_reducible exact H)
                      have cX := A_ bt; clear bt
                      have H' := A_ H
                      clear H; obtain ⟨cn, de, dZ⟩ := Kd.R_slice aN.o; subst dZ
                      go_wp2_with (first | ((with_reducible refine gate_builtin (b := .append) (xs := #[.tmp 127, .tmp 129]) rfl ?_); at_builtin; refine Kd.S_append (Kd.slice 3 (Kd.int .i64)) (w0 := wc) wc.heap.size rfl (.tmp 127) (.tmp 129) 22 23 (.slice none 0 0) 24 rfl Try.underlying22 info23 rfl (by decide) (by omega) u19 aA aC [.slice cn aC.length de] (o3 au u20 (.slice (some ap) aa.length aE)) (fun k_ => some k_ = (.slice cn aC.length de : Value).ownBlock) rfl rfl ?aP (fun k_ hk_ => ((Kd.R_mono (ok' := fun k_ => ((o3 au u20 (.slice (some ap) aa.length aE))) k_ ∧ some k_ ≠ (u19 : Value).ownBlock) (Kd.R_apart' (aN.o) (Kd.S_typed an.o) (by decide)) (fun k_ hk => ⟨⟨hk.1.1, ⟨hk.1.2.1, hk.1.2.2⟩⟩, hk.2⟩))).1 k_ hk_.symm) ?aF ?aO ?aB ?aS ?aL ?_; (case aP => exact Kd.M_row (Kd.R_mono (Kd.R_tight rfl (Kd.R_mono (ok' := fun k_ => ((o3 au u20 (.slice (some ap) aa.length aE))) k_ ∧ some k_ ≠ (u19 : Value).ownBlock) (Kd.R_apart' (aN.o) (Kd.S_typed an.o) (by decide)) (fun k_ hk => ⟨⟨hk.1.1, ⟨hk.1.2.1, hk.1.2.2⟩⟩, hk.2⟩))) (fun _ h_ => h_))); (case aB => exact HB.o); (case aF => exact (fun k_ hk => ⟨Kd.fresh' (Kd.R_lt ae.o) k_ hk, Kd.fresh' (Kd.R_lt ao.o) k_ hk, Kd.fresh' (Kd.R_lt ai.o) k_ hk⟩)); (case aO => exact (by exact Kd.S_mono an.o (fun k_ hk => ⟨⟨hk.1, ⟨hk.2.1, hk.2.2.2⟩⟩, fun e_ => hk.2.2.1 e_⟩))); (case aS => exact (below_size HB.o)); (case aL => have := cF.o; omega); intro eS w41 ho hb hg hat; rw [← cW.o] at ho; replace ae := A_ (Kd.R_over' ae.o (Kd.S_typed an.o) (by decide) hg); replace ao := A_ (Kd.R_over' ao.o (Kd.S_typed an.o) (by decide) hg); replace ai := A_ (Kd.R_over' ai.o (Kd.S_typed an.o) (by decide) hg); replace HB := A_ (hb); have be := A_ (ho); clear an aN; clear ho hb hg hat; have b3 : 0 ≤ ((rd aa ab) : Int) := oa_; have cb : (rd aa ab) < (af.length : Int) := oa_; obtain ⟨eh, dW, aW⟩ := Kd.at_int HRT.o (rd aa ab) b3 cb; cases dW; replace aW := (HB.o.cell (World.block_lt_of_cell? wc _ aW)).trans aW; replace b3 := eq_true b3; replace cb := eq_true cb) | ((with_reducible refine gate_builtin (b := .append) (xs := #[.tmp 131, .tmp 136]) rfl ?_); at_builtin; refine Kd.R_append (Kd.int .i64) (w0 := wc) wc.heap.size rfl (.tmp 131) (.tmp 136) 23 3 (.int .i64 0) 8 rfl Try.underlying23 info3 rfl (by decide) (by omega) u20 ar (rd af (rd aa ab)) [.int .i64 (rd af (rd aa ab))] (o2 au (.slice (some ap) aa.length aE)) (fun _ => False) rfl rfl ?aP (fun _ hk => hk.elim) ?aF ?aO ?aB ?aS ?aL ?_; (case aP => exact rfl); (case aB => exact HB.o); (case aF => exact (fun k_ hk => ⟨Kd.fresh' (Kd.R_lt ae.o) k_ hk, Kd.fresh' (Kd.R_lt ai.o) k_ hk⟩)); (case aO => exact (by exact Kd.R_mono ao.o (fun _ hk => ⟨hk.1, hk.2.2⟩))); (case aS => exact (below_size HB.o)); (case aL => have := cG.o; omega); intro eU w43 ho hb hg hat; rw [← cX.o] at ho; replace ae := A_ (Kd.R_after (ok := (o1 (.slice (some ap) aa.length aE))) (by exact Kd.R_mono ae.o (fun _ hk => ⟨hk.2.2, hk.1⟩)) hg hat); replace ai := A_ (Kd.R_after (ok := (o1 au)) (by exact Kd.R_mono ai.o (fun _ hk => ⟨hk.1, hk.2.1⟩)) hg hat); replace be := A_ (Kd.S_after (ok := (o2 au (.slice (some ap) aa.length aE))) (by exact Kd.S_mono be.o (fun _ hk => ⟨⟨hk.1, hk.2.2⟩, hk.2.1⟩)) hg hat); replace HB := A_ (hb); have cA := A_ (ho); clear ao; clear ho hb hg hat))
                      go_roundg k3
                      case measure => have := ba.o; have := bx.o; have := dz.o; omega
                      case rel => exact ⟨(ci), (dw), (wrap64 (ab + 1)), (by rfl), H', ⟨by have := ba.o; have := bx.o; have := dz.o; omega⟩, ⟨by exact Kd.R_mono ae.o (fun _ hk => ⟨hk.2, hk.1⟩)⟩, ⟨by exact Kd.S_mono be.o (fun _ hk => ⟨hk.1.1, ⟨hk.2, hk.1.2⟩⟩)⟩, ⟨cA.o⟩, ⟨ai.o⟩, ⟨HB.o⟩⟩
                     rw [if_neg c40] at H
                     cases H
                    rw [if_neg c39] at H
                    cases H
                   rw [if_neg c38] at H
                   cases H
                  rw [if_neg c37] at H
                  cases H
               rw [if_neg c26] at H
               cases H
              rw [if_neg c25] at H
              cases H
             rw [if_neg c24] at H
             cases H
            rw [if_neg c23] at H
            cases H
           rw [if_neg c22] at H; have bO := decide_eq_false c22; clear c22; simp only [Option.some.injEq, Prod.mk.injEq] at H; obtain ⟨rfl, rfl⟩ := H
           go_wp2
           go_ret2
           exact ⟨wc, HBC.o, _, _, by rfl, by exact Kd.S_mono an.o (fun _ hk => hk.2.1), by exact Kd.R_mono ao.o (fun _ hk => trivial), HB.o⟩
      rw [if_neg c5] at H
      cases H
     rw [if_neg c4] at H
     cases H
theorem impl_minimal.calls (k : Nat) (A0 : Option Addr) (c0 : Nat) (l0 : List (List Int)) (A1 : Option Addr) (c1 : Nat) (l1 : List Int) (r1 : List (List Int)) (r2 : List Int) (w : World) (hr0 : Kd.C (Kd.slice 3 (Kd.int .i64)) w A0 l0.length l0) (hc0 : l0.length ≤ c0) (hr1 : Kd.C (Kd.int .i64) w A1 l1.length l1) (hc1 : l1.length ≤ c1) (h : impl_minimal.f k l0 l1 = some (r1, r2)) :
  Calls Try.prog 44 #[.slice A0 l0.length c0, .slice A1 l1.length c1] w fun e w' => ∃ v0_ v1_ : Value, e = .returned (.tuple #[v0_, v1_]) ∧ Kd.S (Kd.slice 3 (Kd.int .i64)) 23 w' w.heap.size (o1 v1_) v0_ r1 ∧ Kd.R (Kd.int .i64) 3 w' w.heap.size (fun _ => True) v1_ r2 ∧ Below w.heap.size w w' := by
 obtain ⟨l2, hcl, ⟨g1, g2, g3⟩, m1, m2, h2, h3⟩ := minimal_some h; refine (impl_minimal.calls1 k A0 c0 l0 A1 c1 l1 l2 m1 m2 r1 r2 w hr0 hc0 hr1 hc1 hcl g1 g2 g3 h2 h3).mono ?_; rintro e w' ⟨wb, hb, v0_, v1_, he, hS, hR, hB⟩; exact ⟨v0_, v1_, he, Kd.S_lower hS hb.size, Kd.R_lower hR hb.size, below_step hb hB⟩


end Go.Proofs.Ytgmfjcckmapkbaa.PFnExactPrefixSum

