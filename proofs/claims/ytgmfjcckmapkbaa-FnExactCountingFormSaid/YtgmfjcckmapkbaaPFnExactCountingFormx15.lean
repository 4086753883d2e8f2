/- Walks of the functions that the law reaches. -/
import Derived.Test.YtgmfjcckmapkbaaPFnExactCountingFormx13
import Derived.Test.YtgmfjcckmapkbaaPFnExactCountingFormx14
namespace Go.Proofs.Ytgmfjcckmapkbaa.PFnExactCountingForm
open Go.RowKit Go.Proofs.YtgmfjcckmapkbaaW.PrintWords Go.Proofs.YtgmfjcckmapkbaaW.PrintLast Go.Proofs.YtgmfjcckmapkbaaW.PrintMore
attribute [local go_sem] max2_int min2_int max_two min_two max_three min_three max_four min_four
set_option linter.unusedVariables false
set_option maxHeartbeats 8000000
set_option maxRecDepth 100000
set_option linter.unusedSimpArgs false

open Go.Maps in
section
def firstI (k : Int) : List Int → Nat → Int
 | [], _ => 0
 | x :: l, n => if x = k then (n : Int) else firstI k l (n + 1)
def manyI : List Int → Nat
 | [] => 0
 | x :: l => if x ∈ l then manyI l else manyI l + 1
def Dm {H : Type} : List Int → Nat → DataW H
 | [], _ => .map []
 | x :: l, i => (Dm l (i + 1)).put (.int .i64 x) (.lit (.int .i64 (i : Int)))
theorem isKeyI (x : Int) : WideAt.IsKeyLit (.int .i64 x) := trivial
theorem isMap_Dm {H : Type} : ∀ (l : List Int) (i : Nat), IsMap (Dm (H := H) l i)
 | [], _ => isMap_empty
 | x :: l, i => (isMap_Dm l (i + 1)).put _ _
theorem tidy_Dm {H : Type} : ∀ (l : List Int) (i : Nat), Tidy (Dm (H := H) l i)
 | [], _ => tidy_empty
 | x :: l, i => (tidy_Dm l (i + 1)).put (isKeyI _) _
theorem int_ne_ {a b : Int} (h : a ≠ b) : Lit.int .i64 b ≠ Lit.int .i64 a := fun e => h (by injection e with _ e; exact e.symm)
theorem has_Dm {H : Type} (k : Int) : ∀ (l : List Int) (i : Nat), Maps.has (Dm (H := H) l i) (.int .i64 k) = decide (k ∈ l)
 | [], _ => rfl
 | x :: l, i => by
  unfold Dm
  by_cases e : x = k
  ·subst e; rw [has_put_same (isMap_Dm l (i + 1)) (isKeyI _)]; simp
  rw [has_put_other (int_ne_ e), has_Dm k l (i + 1)]; simp [Ne.symm e]
theorem at_Dm {H : Type} (k : Int) : ∀ (l : List Int) (i : Nat), (Dm (H := H) l i).atKey (.int .i64 k) (.lit (.int .i64 0)) = .lit (.int .i64 (firstI k l i))
 | [], _ => rfl
 | x :: l, i => by
  unfold Dm firstI
  by_cases e : x = k
  ·subst e; rw [if_pos rfl, atKey_put_same (isMap_Dm l (i + 1)) (isKeyI _)]
  rw [if_neg e, atKey_put_other (int_ne_ e)]; exact at_Dm k l (i + 1)
theorem size_Dm {H : Type} : ∀ (l : List Int) (i : Nat), Maps.size (Dm (H := H) l i) = manyI l
 | [], _ => rfl
 | x :: l, i => by
  unfold Dm manyI; rw [size_put (tidy_Dm l (i + 1)), has_Dm x l (i + 1), size_Dm l (i + 1)]
  by_cases e : x ∈ l <;> simp [e]
end
def impl_firstIn.f (l0 : List Int) (a1 : Int) : Option (Int) := if 0 ≤ a1 ∧ a1 ≤ 64 then some (firstI a1 l0 0) else none
def impl_manyIn.f (l0 : List Int) : Option (Int) := some (manyI l0 : Int)
theorem firstIn_wf {l : List Int} {a t : Int} (h : impl_firstIn.f l a = some t) : (Lit.int .i64 a).wf = true := by
 unfold impl_firstIn.f at h
 split at h
 ·exact WalkArith.wf_i64 (by omega)
 cases h
theorem firstIn_eq {l : List Int} {a t c : Int} (hat : (Dm (H := Unit) l 0).atKey (.int .i64 a) (.lit (.int .i64 0)) = .lit (.int .i64 c)) (h : impl_firstIn.f l a = some t) : c = t := by
 unfold impl_firstIn.f at h
 split at h
 ·rw [at_Dm] at hat
  injection hat with hat
  injection hat with _ hat
  injection h with h
  rw [← hat, h]
 cases h
theorem manyIn_eq {l : List Int} {t : Int} (h : impl_manyIn.f l = some t) : ((Maps.size (Dm (H := Unit) l 0) : Nat) : Int) = t := by
 rw [size_Dm]
 injection h
structure MInv (w4 wr : World) (cl : List Int) (m : Nat) : Prop where
 own : wr.ownsMap (H := Unit) Try.prog 3 (plainElem Try.prog 3) w4.heap.size (cl.length - m) (Dm (cl.drop m) m)
 below : Below w4.heap.size w4 wr
theorem MInv.step {w4 wr w1 : World} {cl : List Int} {m : Nat} (h : MInv w4 wr cl (m + 1)) (hm : m + 1 ≤ cl.length) (hown : w1.ownsMap (H := Unit) Try.prog 3 (plainElem Try.prog 3) w4.heap.size (cl.length - (m + 1) + 1) ((Dm (cl.drop (m + 1)) (m + 1)).put (.int .i64 (rd cl (m : Int))) (.lit (.int .i64 (m : Int))))) (hg : wr.grownBy w1 (some w4.heap.size)) : MInv w4 w1 cl m := by
 refine ⟨?_, h.below.grown hg h.below.size (fun j hj => by cases hj; exact Nat.le_refl _)⟩
 have e1 : cl.drop m = rd cl (m : Int) :: cl.drop (m + 1) := by
  have : rd cl (m : Int) = cl[m]'(by omega) := by simp [rd, List.getD_eq_getElem?_getD, List.getElem?_eq_getElem (show m < cl.length by omega)]
  rw [this]; exact List.drop_eq_getElem_cons (by omega)
 rw [e1]
 have e2 : cl.length - (m + 1) + 1 = cl.length - m := by omega
 rw [← e2]; exact hown
mutual
def impl_minimal2.l0 : Nat → List (List Int) → List Int → List Int → List (List Int) → List Int → Int → Int → Option ((List (List Int)) × List Int)
 | 0, _, _, _, _, _, _, _ => none
 | k + 1, x0, x1, x6, x9, aX, dw, cj => if cj < dw then ((impl_firstIn.f x6 cj).bind fun ak => (if 0 ≤ ak then (if ak < (x0.length : Int) then (impl_minimal2.l1 k x0 x1 x6 x9 aX cj (([] : List Int)) dw cj (rd_L1 x0 ak) ((rd_L1 x0 ak).length : Int) 0) else (none)) else (none))) else (some (x9, aX))
def impl_minimal2.l1 : Nat → List (List Int) → List Int → List Int → List (List Int) → List Int → Int → List Int → Int → Int → List Int → Int → Int → Option ((List (List Int)) × List Int)
 | 0, _, _, _, _, _, _, _, _, _, _, _, _ => none
 | k + 1, x0, x1, x6, x9, aX, eP, el, dw, cj, dx, eQ, ck => if ck < eQ then (if 0 ≤ ck then (if ck < (dx.length : Int) then (if 0 ≤ (rd dx ck) then (if (rd dx ck) < (x6.length : Int) then (if el.length < 17592186044416 then (impl_minimal2.l1 k x0 x1 x6 x9 aX eP (el ++ [rd x6 (rd dx ck)]) dw cj dx eQ (wrap64 (ck + 1))) else (none)) else (none)) else (none)) else (none)) else (none)) else (if x9.length < 5864062014805 then ((impl_firstIn.f x6 eP).bind fun av => (if 0 ≤ av then (if av < (x1.length : Int) then (if aX.length < 17592186044416 then (impl_minimal2.l0 k x0 x1 x6 (x9 ++ [el]) (aX ++ [rd x1 av]) dw (wrap64 (cj + 1))) else (none)) else (none)) else (none))) else (none))
end
def impl_minimal2.f (k : Nat) (l0 : List (List Int)) (l1 : List Int) (l2 : List Int) : Option ((List (List Int)) × List Int) := (impl_manyIn.f l2).bind fun aD => (impl_minimal2.l0 k l0 l1 l2 (([] : List (List Int))) (([] : List Int)) aD 0)
mutual
def impl_minimal3.l0 : Nat → List (List Int) → List Int → List Int → List Int → List Int → Int → Int → Option ((List (List Int)) × List Int)
 | 0, _, _, _, _, _, _, _ => none
 | k + 1, x9, aX, em, bC, dy, eR, bW => if bW < eR then (if 0 ≤ bW then (if bW < (dy.length : Int) then (if 0 ≤ (rd dy bW) then (if (rd dy bW) < (bC.length : Int) then (impl_minimal3.l0 k x9 aX em (bC.set ((rd dy bW) : Int).toNat bW) dy eR (wrap64 (bW + 1))) else (none)) else (none)) else (none)) else (none)) else (impl_minimal3.l1 k x9 aX bC (([] : List (List Int))) (([] : List Int)) em (em.length : Int) 0)
def impl_minimal3.l1 : Nat → List (List Int) → List Int → List Int → List (List Int) → List Int → List Int → Int → Int → Option ((List (List Int)) × List Int)
 | 0, _, _, _, _, _, _, _, _ => none
 | k + 1, x9, aX, bC, cy, cA, aJ, bA, aG => if aG < bA then (if 0 ≤ aG then (if aG < (aJ.length : Int) then (if 0 ≤ (rd aJ aG) then (if (rd aJ aG) < (x9.length : Int) then (impl_minimal3.l2 k x9 aX bC cy cA (rd aJ aG) (([] : List Int)) aJ bA aG (rd_L1 x9 (rd aJ aG)) ((rd_L1 x9 (rd aJ aG)).length : Int) 0) else (none)) else (none)) else (none)) else (none)) else (some (cy, cA))
def impl_minimal3.l2 : Nat → List (List Int) → List Int → List Int → List (List Int) → List Int → Int → List Int → List Int → Int → Int → List Int → Int → Int → Option ((List (List Int)) × List Int)
 | 0, _, _, _, _, _, _, _, _, _, _, _, _, _ => none
 | k + 1, x9, aX, bC, cy, cA, dO, en, aJ, bA, aG, bB, dv, a8 => if a8 < dv then (if 0 ≤ a8 then (if a8 < (bB.length : Int) then (if 0 ≤ (rd bB a8) then (if (rd bB a8) < (bC.length : Int) then (if en.length < 17592186044416 then (impl_minimal3.l2 k x9 aX bC cy cA dO (en ++ [rd bC (rd bB a8)]) aJ bA aG bB dv (wrap64 (a8 + 1))) else (none)) else (none)) else (none)) else (none)) else (none)) else (if cy.length < 5864062014805 then (if 0 ≤ dO then (if dO < (aX.length : Int) then (if cA.length < 17592186044416 then (impl_minimal3.l1 k x9 aX bC (cy ++ [en]) (cA ++ [rd aX dO]) aJ bA (wrap64 (aG + 1))) else (none)) else (none)) else (none)) else (none))
end
def impl_minimal3.f (k : Nat) (l0 : List (List Int)) (l1 : List Int) : Option ((List (List Int)) × List Int) := (impl_reached.f k l0).bind fun aa => (if 0 ≤ (l0.length : Int) then (if ((l0.length : Int) : Int).toNat ≤ 35184372088832 then (impl_minimal3.l0 k l0 l1 aa (List.replicate ((l0.length : Int) : Int).toNat 0) aa (aa.length : Int) 0) else (none)) else (none))
def impl_minimal.f (k : Nat) (l0 : List (List Int)) (l1 : List Int) : Option ((List (List Int)) × List Int) := (impl_classes.f k l0 l1).bind fun c => if c.length ≤ 64 ∧ l0.length = c.length ∧ ∀ x ∈ c, 0 ≤ x ∧ x ≤ 64 then (impl_minimal2.f k l0 l1 c).bind fun m => impl_minimal3.f k m.1 m.2 else none
theorem minimal_some {k : Nat} {l0 : List (List Int)} {l1 : List Int} {r : (List (List Int)) × List Int} (h : impl_minimal.f k l0 l1 = some r) : ∃ c, impl_classes.f k l0 l1 = some c ∧ (c.length ≤ 64 ∧ l0.length = c.length ∧ ∀ x ∈ c, 0 ≤ x ∧ x ≤ 64) ∧ ∃ m1 m2, impl_minimal2.f k l0 l1 c = some (m1, m2) ∧ impl_minimal3.f k m1 m2 = some r := by
 unfold impl_minimal.f at h; obtain ⟨c, hc, h⟩ := Option.bind_eq_some_iff.mp h
 split at h
 ·rename_i hg
  obtain ⟨⟨m1, m2⟩, hm, h⟩ := Option.bind_eq_some_iff.mp h; exact ⟨c, hc, hg, m1, m2, hm, h⟩
 cases h
theorem rd_bd_ {c : List Int} (h : ∀ x ∈ c, 0 ≤ x ∧ x ≤ 64) (i : Nat) (hi : i < c.length) : 0 ≤ rd c (i : Int) ∧ rd c (i : Int) ≤ 64 := by
 have : rd c (i : Int) = c[i] := by simp [rd, List.getD_eq_getElem?_getD, List.getElem?_eq_getElem hi]
 rw [this]; exact h _ (List.getElem_mem hi)
theorem impl_minimal.calls1 (k : Nat) (A0 : Option Addr) (c0 : Nat) (l0 : List (List Int)) (A1 : Option Addr) (c1 : Nat) (l1 : List Int) (l2 : List Int) (m1 : List (List Int)) (m2 : List Int) (r1 : List (List Int)) (r2 : List Int) (w : World) (hr0 : Kd.C (Kd.slice 3 (Kd.int .i64)) w A0 l0.length l0) (hc0 : l0.length ≤ c0) (hr1 : Kd.C (Kd.int .i64) w A1 l1.length l1) (hc1 : l1.length ≤ c1) (hcl : impl_classes.f k l0 l1 = some l2) (hlen : l2.length ≤ 64) (hll : l0.length = l2.length) (hbd : ∀ x ∈ l2, 0 ≤ x ∧ x ≤ 64) (h : impl_minimal2.f k l0 l1 l2 = some (m1, m2)) (h3 : impl_minimal3.f k m1 m2 = some (r1, r2)) :
  Calls Try.prog 44 #[.slice A0 l0.length c0, .slice A1 l1.length c1] w fun e w' => ∃ wb : World, Below w.heap.size w wb ∧ ∃ v0_ v1_ : Value, e = .returned (.tuple #[v0_, v1_]) ∧ Kd.S (Kd.slice 3 (Kd.int .i64)) 23 w' wb.heap.size (o1 v1_) v0_ r1 ∧ Kd.R (Kd.int .i64) 3 w' wb.heap.size (fun _ => True) v1_ r2 ∧ Below wb.heap.size wb w' := by
 have HR0 := A_ hr0; have HC0 := A_ hc0; clear hr0 hc0; have HR1 := A_ hr1; have HC1 := A_ hc1; clear hr1 hc1; have HBD := A_ hbd; have HLL := A_ hll; clear hbd hll; have HB := A_ (Below.refl w.heap.size w); have A3 := A_ hcl; clear hcl; have HH := A_ h; have HH3 := A_ h3; clear h h3; have hmm := @run_makeMap Try.prog; go_enter Try.func44, Try.ntmps44
 go_wp2_with (first | ((with_reducible refine gc_ 58 rfl ?_); refine cM_ E58 28 (impl_classes.calls k _ _ l0 _ _ l1 l2 _ (by repeat (first | exact HR0.o | (with_reducible refine Kd.C_alloc ?_ _) | (with_reducible refine Kd.C_drewN ?_ _) | (with_reducible refine Kd.C_drew ?_))) HC0.o (by repeat (first | exact HR1.o | (with_reducible refine Kd.C_alloc ?_ _) | (with_reducible refine Kd.C_drewN ?_ _) | (with_reducible refine Kd.C_drew ?_))) HC1.o A3.o) ?_; rintro e w4 ⟨fc, rfl, ho0, hb⟩; refine ⟨_, rfl, ?_⟩; have a9 := A_ (Kd.R_lower ho0 (below_size HB.o)); replace HB := bs_ HB hb; clear hb; (try clear ho0)))
 obtain ⟨A2, c2, e2⟩ := Kd.R_slice a9.o; subst e2; have HC2 := A_ (Kd.R_reads' a9.o).2.1; have HR2 := A_ (Kd.R_reads' a9.o).2.2; clear a9
 have hwl : wrap64 ((l2.length : Int) - 1) = (l2.length : Int) - 1 := by unfold wrap64; omega
 have HM0 := A_ (MInv.mk (w4 := w4) (wr := w4.alloc (.map #[] 0)) (cl := l2) (m := l2.length) (by rw [Nat.sub_self, List.drop_length]; exact World.ownsMap_made _ _ _ _) (below_alloc (Below.refl _ _) _))
 go_loopw [8] (fun v8 wr => ∃ m : Nat, m ≤ l2.length ∧ v8 = .int .i64 ((m : Int) - 1) ∧ Aside0 (MInv w4 wr l2 m))
  (fun v8 _ => (intOf v8 + 1).toNat)
 case atStart => exact ⟨l2.length, Nat.le_refl _, by first | rfl | (rw [HLL.o]; first | rfl | (simp [hwl]; done) | (rw [hwl])), HM0⟩
 case round =>
  obtain ⟨m, hm, rfl, HM⟩ := hrel; clear HM0
  cases m with
  | succ m =>
   have bY : ((m + 1 : Nat) : Int) - 1 = (m : Int) := by omega
   rw [bY]
   have b4 : (0 : Int) ≤ (m : Int) := by omega
   have ce : (m : Int) < (l2.length : Int) := by omega
   obtain ⟨ew, ea500, hx500⟩ := Kd.at_int HR2.o (m : Int) b4 ce; subst ea500; replace hx500 := (HM.o.below.cell (World.block_lt_of_cell? _ _ hx500)).trans hx500; rw [Int.toNat_natCast] at hx500; have hbx := rd_bd_ HBD.o m (by omega); have hown := HM.o.own
   have hws : wrap64 ((m : Int) - 1) = (m : Int) - 1 := by unfold wrap64; omega
   replace b4 := eq_true b4; replace ce := eq_true ce
   go_wp2_with (at_mapUpdate; refine wpList_mapUpdate_own _ rfl _ _ _ 68 rfl 3 3 (Maps.int_keyed Try.underlying3) Try.underlying68 _ w4.heap.size _ _ rfl hown (by unfold maxLen; omega) _ _ _ rfl rfl (Maps.keyOf_int_mk Try.underlying3 (WalkArith.wf_i64 (by omega))) _ [] (plainElem_int Try.underlying3 (WalkArith.wf_i64 (by omega))) ?_; intro w1 hown1 hg1)
   go_roundw
   case rel => exact ⟨m, by omega, (by first | rfl | (rw [hws]; done) | (rw [hws]; rfl) | (simp [hws]; done)), ⟨HM.o.step hm hown1 hg1⟩⟩
   case measure => (simp [intOf]) <;> omega
  | zero =>
   have bY : ((0 : Nat) : Int) - 1 = -1 := by omega
   rw [bY]; have hmap := HM.o.own; rw [List.drop_zero] at hmap; have hbw := HM.o.below; obtain ⟨wb, hwb⟩ : ∃ wb, wb = wr := ⟨_, rfl⟩; subst hwb; have HMAP := A_ hmap; have HR0_ := A_ (Kd.C_below (Kd.C_below HR0.o HB.o) hbw); have HR1_ := A_ (Kd.C_below (Kd.C_below HR1.o HB.o) hbw); have HR2_ := A_ (Kd.C_below HR2.o hbw); have HBW := A_ (below_step HB.o hbw); clear HR0 HR1 HR2 HB HM hmap hbw; have HR0 := HR0_; have HR1 := HR1_; have HR2 := HR2_; clear HR0_ HR1_ HR2_; obtain ⟨BM, hBM⟩ : ∃ BM, BM = w4.heap.size := ⟨_, rfl⟩; rw [← hBM] at HMAP; rw [← hBM]; clear hBM; have HB := A_ (Below.refl wb.heap.size wb)
   have H : ((impl_manyIn.f l2).bind fun aD => (impl_minimal2.l0 k l0 l1 l2 (([] : List (List Int))) (([] : List Int)) aD 0)) = some (m1, m2) := HH.o
   clear HH; obtain ⟨cq, bl⟩ := ex_ ((([] : List (List Int))) : List (List Int)); replace H : ((impl_manyIn.f l2).bind fun aD => (impl_minimal2.l0 k l0 l1 l2 cq (([] : List Int)) aD 0)) = some (m1, m2) := by (rw [bl]; with_reducible exact H)
   have cV := A_ bl; clear bl; obtain ⟨dz, bm⟩ := ex_ ((([] : List Int)) : List Int); replace H : ((impl_manyIn.f l2).bind fun aD => (impl_minimal2.l0 k l0 l1 l2 cq dz aD 0)) = some (m1, m2) := by (rw [bm]; with_reducible exact H)
   have cW := A_ bm; clear bm; replace H := bA_ H; obtain ⟨aD, A4, H⟩ := H
   have H' := A_ H
   clear H
   go_wp2_with (first | ((with_reducible refine gate_dst (N := 43) rfl ?_); refine Kd.S_lit (Kd.slice 3 (Kd.int .i64)) _ 23 ?hg (N := 43) ?hd (xs := ([] : List (List Int))) (inner := []) (ok := fun _ => True) (okp := fun _ => True) ?hr ?hp (fun _ hk => hk) trivial (Below.refl _ _) (Nat.le_refl _) (by simp) ?_; (case hd | hg => rfl); (case hr => go_simp; done); (case hp => exact (Reps.none _ _)); rintro eX w5 ho6 hb - -; (rw [← cV.o] at ho6); have bg := A_ (Kd.S_lower ho6 (below_size HB.o)); replace HB := bs_ HB hb; clear hb ho6) | ((with_reducible refine gd_ 44 rfl ?_); refine RL_ 44 3 [] [] rfl rfl (by go_simp; done) rfl rfl ?_; rintro eY w7 ho8 hb - -; (rw [← cW.o] at ho8); replace bg := A_ (Kd.S_elder' bg.o (Kd.R_base ho8) hb); have cD := A_ (Kd.R_lower ho8 (below_size HB.o)); replace HB := bs_ HB hb; clear hb ho8) | ((with_reducible refine gate_dst (N := 46) rfl ?_); at_len; refine wpList_len_own _ rfl _ 68 rfl 3 3 Try.underlying68 _ BM _ _ rfl (by repeat (first | (with_reducible exact own_below_ HMAP.o HB.o) | (with_reducible refine World.ownsMap.alloc ?_ _) | (refine own_drewN_ ?_ _))) ?_; rw [manyIn_eq A4.o]))
   go_loopg [9, 10, 47] k (fun kq v9 eO eW w' => ∃ (ac : List (List Int)) (af : List Int) (aq : Int), eW = .int .i64 aq ∧ Aside0 (impl_minimal2.l0 kq l0 l1 l2 ac af aD aq = some (m1, m2)) ∧ Aside0 (kq ≤ k) ∧ Aside0 (Kd.S (Kd.slice 3 (Kd.int .i64)) 23 w' wb.heap.size (o1 eO) v9 ac) ∧ Aside0 (Kd.R (Kd.int .i64) 3 w' wb.heap.size (fun _ => True) eO af) ∧ Aside0 (Below wb.heap.size wb w'))
   case atStart => exact ⟨(cq), (dz), (0), (by rfl), H', ⟨Nat.le_refl _⟩, ⟨by exact Kd.S_mono bg.o (fun _ hk => hk.2)⟩, ⟨cD.o⟩, ⟨HB.o⟩⟩
   case round =>
    clear H'; obtain ⟨ac, af, aq, rfl, HA, bf, aw, am, HB⟩ := hrel
    cases gk with
    | zero => exact nz_ HA.o
    | succ k1 =>
     have H := HA.o; clear HA; simp only [impl_minimal2.l0] at H
     by_cases c9 : aq < aD
     ·rw [if_pos c9] at H; have dn := decide_eq_true c9; clear c9; obtain ⟨dA, bn⟩ := ex_ ((([] : List Int)) : List Int); replace H : ((impl_firstIn.f l2 aq).bind fun ak => (if 0 ≤ ak then (if ak < (l0.length : Int) then (impl_minimal2.l1 k1 l0 l1 l2 ac af aq dA aD aq (rd_L1 l0 ak) ((rd_L1 l0 ak).length : Int) 0) else (none)) else (none))) = some (m1, m2) := by (rw [bn]; with_reducible exact H)
      have cX := A_ bn; clear bn; replace H := bA_ H; obtain ⟨ak, A10, H⟩ := H
      by_cases c11 : 0 ≤ ak
      ·rw [if_pos c11] at H; have bR := decide_eq_true c11; clear c11
       by_cases c12 : ak < (l0.length : Int)
       ·rw [if_pos c12] at H; have bS := decide_eq_true c12; clear c12
        have H' := A_ H
        clear H
        go_wp2_with (first | ((with_reducible refine gd_ 50 rfl ?_); refine RL_ 50 3 [] [] rfl rfl (by go_simp; done) rfl rfl ?_; rintro eZ w13 bk hb - -; (rw [← cX.o] at bk); replace aw := A_ (Kd.S_elder' aw.o (Kd.R_base bk) hb); have cE := A_ (Kd.R_lower (Kd.R_new' bk (Kd.R_lt am.o)) (below_size HB.o)); replace am := A_ (Kd.R_elder' am.o (Kd.R_base bk) hb); replace HB := bs_ HB hb; clear hb bk) | ((with_reducible refine gate_dst (N := 54) rfl ?_); at_lookup; refine wpList_lookup_own_int _ rfl _ _ 68 rfl 3 3 .i64 (Maps.int_keyed Try.underlying3) Try.underlying68 Try.underlying3 (zeroI_ _) BM _ _ rfl (by repeat (first | (with_reducible exact own_below_ HMAP.o HB.o) | (with_reducible refine World.ownsMap.alloc ?_ _) | (refine own_drewN_ ?_ _))) _ _ rfl (Maps.keyOf_int_mk Try.underlying3 (firstIn_wf A10.o)) ?_; intro c_ hat_ hwc_; obtain rfl : ak = c_ := (firstIn_eq hat_ A10.o).symm; clear hat_ hwc_; have bI : 0 ≤ (ak : Int) := oa_; have bL : ak < (l0.length : Int) := oa_; obtain ⟨ep, dP, dR, dY, aH, bd, bb⟩ := at_L1 HR0.o ak bI bL; cases dY; replace aH := (HB.o.cell (World.block_lt_of_cell? wb _ aH)).trans aH; have bE := A_ bb; have dI := A_ bd; clear bb bd; replace bI := eq_true bI; replace bL := eq_true bL))
        go_loopg [12, 58] k1 (fun kq ek fd w' => ∃ (az : List Int) (al : Int), fd = .int .i64 al ∧ Aside0 (impl_minimal2.l1 kq l0 l1 l2 ac af aq az aD aq (rd_L1 l0 ak) ((rd_L1 l0 ak).length : Int) al = some (m1, m2)) ∧ Aside0 (kq ≤ k1) ∧ Aside0 (Kd.S (Kd.slice 3 (Kd.int .i64)) 23 w' wb.heap.size (o2 u10 ek) u9 ac) ∧ Aside0 (Kd.R (Kd.int .i64) 3 w' wb.heap.size (o1 ek) u10 af) ∧ Aside0 (Kd.R (Kd.int .i64) 3 w' wb.heap.size (o1 u10) ek az) ∧ Aside0 (Below wb.heap.size wb w'))
        case atStart => exact ⟨(dA), (0), (by rfl), H', ⟨Nat.le_refl _⟩, ⟨aw.o⟩, ⟨by exact Kd.R_mono am.o (fun _ hk => hk.2)⟩, ⟨by exact Kd.R_mono cE.o (fun _ hk => hk.2)⟩, ⟨HB.o⟩⟩
        case round =>
         clear H'
         clear dn bR bS aH bI bL
         obtain ⟨az, al, rfl, HA, bD, aw, am, aM, HB⟩ := hrel
         cases gk with
         | zero => exact nz_ HA.o
         | succ k2 =>
          have H := HA.o; clear HA; simp only [impl_minimal2.l1] at H
          by_cases c15 : al < ((rd_L1 l0 ak).length : Int)
          ·rw [if_pos c15] at H; have dj := decide_eq_true c15; clear c15
           by_cases c16 : 0 ≤ al
           ·rw [if_pos c16] at H; have eD := decide_eq_true c16; clear c16
            by_cases c17 : al < ((rd_L1 l0 ak).length : Int)
            ·rw [if_pos c17] at H; have eE := decide_eq_true c17; clear c17
             by_cases c18 : 0 ≤ (rd (rd_L1 l0 ak) al)
             ·rw [if_pos c18] at H; have eF := decide_eq_true c18; clear c18
              by_cases c19 : (rd (rd_L1 l0 ak) al) < (l2.length : Int)
              ·rw [if_pos c19] at H; have eG := decide_eq_true c19; clear c19
               by_cases c20 : az.length < 17592186044416
               ·rw [if_pos c20] at H; have cN := A_ c20; clear c20; obtain ⟨dB, bo⟩ := ex_ ((az ++ [rd l2 (rd (rd_L1 l0 ak) al)]) : List Int); replace H : (impl_minimal2.l1 k2 l0 l1 l2 ac af aq dB aD aq (rd_L1 l0 ak) ((rd_L1 l0 ak).length : Int) (wrap64 (al + 1))) = some (m1, m2) := by (rw [bo]; with_reducible exact H)
                have cY := A_ bo; clear bo
                have H' := A_ H
                clear H
                have b1 : 0 ≤ (al : Int) := oa_
                have b9 : al < ((rd_L1 l0 ak).length : Int) := oa_
                obtain ⟨eq, dZ, aQ⟩ := Kd.at_int bE.o al b1 b9
                cases dZ
                replace aQ := (HB.o.cell (World.block_lt_of_cell? wb _ aQ)).trans aQ; replace b1 := eq_true b1; replace b9 := eq_true b9
                have b2 : 0 ≤ ((rd (rd_L1 l0 ak) al) : Int) := oa_
                have cc : (rd (rd_L1 l0 ak) al) < (l2.length : Int) := oa_
                obtain ⟨er, d0, aT⟩ := Kd.at_int HR2.o (rd (rd_L1 l0 ak) al) b2 cc
                cases d0
                replace aT := (HB.o.cell (World.block_lt_of_cell? wb _ aT)).trans aT; replace b2 := eq_true b2; replace cc := eq_true cc
                go_wp2_with (first | ((with_reducible refine gate_builtin (b := .append) (xs := #[.tmp 62, .tmp 67]) rfl ?_); at_builtin; refine Kd.R_append (Kd.int .i64) (w0 := wb) wb.heap.size rfl (.tmp 62) (.tmp 67) 23 3 (.int .i64 0) 8 rfl Try.underlying23 info3 rfl (by decide) (by omega) u12 az (rd l2 (rd (rd_L1 l0 ak) al)) [.int .i64 (rd l2 (rd (rd_L1 l0 ak) al))] (o1 u10) (fun _ => False) rfl rfl ?aP (fun _ hk => hk.elim) ?aF ?aO ?aB ?aS ?aL ?_; (case aP => exact rfl); (case aB => exact HB.o); (case aF => exact (fun k_ hk => Kd.fresh' (Kd.R_lt am.o) k_ hk)); (case aO => exact aM.o); (case aS => exact (below_size HB.o)); (case aL => have := cN.o; omega); intro e0 w21 ho hb hg hat; rw [← cY.o] at ho; replace aw := A_ (Kd.S_after (ok := (o1 u10)) aw.o hg hat); replace am := A_ (Kd.R_after (ok := (fun _ => True)) (by exact Kd.R_mono am.o (fun _ hk => ⟨trivial, hk⟩)) hg hat); replace HB := A_ (hb); have cF := A_ (ho); clear aM; clear ho hb hg hat))
                go_roundg k2
                case measure => have := bf.o; have := bD.o; omega
                case rel => exact ⟨(dB), (wrap64 (al + 1)), (by rfl), H', ⟨by have := bf.o; have := bD.o; omega⟩, ⟨aw.o⟩, ⟨by exact Kd.R_mono am.o (fun _ hk => hk.2)⟩, ⟨cF.o⟩, ⟨HB.o⟩⟩
               rw [if_neg c20] at H
               cases H
              rw [if_neg c19] at H
              cases H
             rw [if_neg c18] at H
             cases H
            rw [if_neg c17] at H
            cases H
           rw [if_neg c16] at H
           cases H
          rw [if_neg c15] at H; have dj := decide_eq_false c15; clear c15
          by_cases c22 : ac.length < 5864062014805
          ·rw [if_pos c22] at H; have cO := A_ c22; clear c22; obtain ⟨cr, bp⟩ := ex_ ((ac ++ [az]) : List (List Int)); replace H : ((impl_firstIn.f l2 aq).bind fun av => (if 0 ≤ av then (if av < (l1.length : Int) then (if af.length < 17592186044416 then (impl_minimal2.l0 k2 l0 l1 l2 cr (af ++ [rd l1 av]) aD (wrap64 (aq + 1))) else (none)) else (none)) else (none))) = some (m1, m2) := by (rw [bp]; with_reducible exact H)
           have cZ := A_ bp; clear bp; replace H := bA_ H; obtain ⟨av, A23, H⟩ := H
           by_cases c24 : 0 ≤ av
           ·rw [if_pos c24] at H; have bU := decide_eq_true c24; clear c24
            by_cases c25 : av < (l1.length : Int)
            ·rw [if_pos c25] at H; have bV := decide_eq_true c25; clear c25
             by_cases c26 : af.length < 17592186044416
             ·rw [if_pos c26] at H; have cP := A_ c26; clear c26; obtain ⟨dC, bq⟩ := ex_ ((af ++ [rd l1 av]) : List Int); replace H : (impl_minimal2.l0 k2 l0 l1 l2 cr dC aD (wrap64 (aq + 1))) = some (m1, m2) := by (rw [bq]; with_reducible exact H)
              have da := A_ bq; clear bq
              have H' := A_ H
              clear H; obtain ⟨cB, dp, eb⟩ := Kd.R_slice aM.o; subst eb
              go_wp2_with (first | ((with_reducible refine gate_builtin (b := .append) (xs := #[.tmp 70, .tmp 72]) rfl ?_); at_builtin; refine Kd.S_append (Kd.slice 3 (Kd.int .i64)) (w0 := wb) wb.heap.size rfl (.tmp 70) (.tmp 72) 22 23 (.slice none 0 0) 24 rfl Try.underlying22 info23 rfl (by decide) (by omega) u9 ac az [.slice cB az.length dp] (o1 u10) (fun k_ => some k_ = (.slice cB az.length dp : Value).ownBlock) rfl rfl ?aP (fun k_ hk_ => ((Kd.R_mono (ok' := fun k_ => ((o1 u10)) k_ ∧ some k_ ≠ (u9 : Value).ownBlock) (Kd.R_apart' (aM.o) (Kd.S_typed aw.o) (by decide)) (fun k_ hk => ⟨hk.1, hk.2⟩))).1 k_ hk_.symm) ?aF ?aO ?aB ?aS ?aL ?_; (case aP => exact Kd.M_row (Kd.R_mono (Kd.R_tight rfl (Kd.R_mono (ok' := fun k_ => ((o1 u10)) k_ ∧ some k_ ≠ (u9 : Value).ownBlock) (Kd.R_apart' (aM.o) (Kd.S_typed aw.o) (by decide)) (fun k_ hk => ⟨hk.1, hk.2⟩))) (fun _ h_ => h_))); (case aB => exact HB.o); (case aF => exact (fun k_ hk => Kd.fresh' (Kd.R_lt am.o) k_ hk)); (case aO => exact (by exact Kd.S_mono aw.o (fun k_ hk => ⟨hk.1, fun e_ => hk.2 e_⟩))); (case aS => exact (below_size HB.o)); (case aL => have := cO.o; omega); intro e3 w27 ho hb hg hat; rw [← cZ.o] at ho; replace am := A_ (Kd.R_over' am.o (Kd.S_typed aw.o) (by decide) hg); replace HB := A_ (hb); have bh := A_ (ho); clear aw aM; clear ho hb hg hat) | ((with_reducible refine gate_dst (N := 78) rfl ?_); at_lookup; refine wpList_lookup_own_int _ rfl _ _ 68 rfl 3 3 .i64 (Maps.int_keyed Try.underlying3) Try.underlying68 Try.underlying3 (zeroI_ _) BM _ _ rfl (by repeat (first | (with_reducible exact own_below_ HMAP.o HB.o) | (with_reducible refine World.ownsMap.alloc ?_ _) | (refine own_drewN_ ?_ _))) _ _ rfl (Maps.keyOf_int_mk Try.underlying3 (firstIn_wf A23.o)) ?_; intro c_ hat_ hwc_; obtain rfl : av = c_ := (firstIn_eq hat_ A23.o).symm; clear hat_ hwc_; have b3 : 0 ≤ (av : Int) := oa_; have cd : av < (l1.length : Int) := oa_; obtain ⟨ev, d4, aU⟩ := Kd.at_int HR1.o av b3 cd; cases d4; replace aU := (HB.o.cell (World.block_lt_of_cell? wb _ aU)).trans aU; replace b3 := eq_true b3; replace cd := eq_true cd) | ((with_reducible refine gate_builtin (b := .append) (xs := #[.tmp 74, .tmp 81]) rfl ?_); at_builtin; refine Kd.R_append (Kd.int .i64) (w0 := wb) wb.heap.size rfl (.tmp 74) (.tmp 81) 23 3 (.int .i64 0) 8 rfl Try.underlying23 info3 rfl (by decide) (by omega) u10 af (rd l1 av) [.int .i64 (rd l1 av)] (fun _ => True) (fun _ => False) rfl rfl ?aP (fun _ hk => hk.elim) ?aF ?aO ?aB ?aS ?aL ?_; (case aP => exact rfl); (case aB => exact HB.o); (case aF => exact (fun _ _ => trivial)); (case aO => exact (by exact Kd.R_mono am.o (fun _ hk => trivial))); (case aS => exact (below_size HB.o)); (case aL => have := cP.o; omega); intro e4 w29 ho hb hg hat; rw [← da.o] at ho; replace bh := A_ (Kd.S_after (ok := (fun _ => True)) (by exact Kd.S_mono bh.o (fun _ hk => ⟨trivial, hk⟩)) hg hat); replace HB := A_ (hb); have cG := A_ (ho); clear am; clear ho hb hg hat))
              go_roundg k2
              case measure => have := bf.o; have := bD.o; omega
              case rel => exact ⟨(cr), (dC), (wrap64 (aq + 1)), (by rfl), H', ⟨by have := bf.o; have := bD.o; omega⟩, ⟨by exact Kd.S_mono bh.o (fun _ hk => hk.2)⟩, ⟨cG.o⟩, ⟨HB.o⟩⟩
             rw [if_neg c26] at H
             cases H
            rw [if_neg c25] at H
            cases H
           rw [if_neg c24] at H
           cases H
          rw [if_neg c22] at H
          cases H
       rw [if_neg c12] at H
       cases H
      rw [if_neg c11] at H
      cases H
     rw [if_neg c9] at H; have dn := decide_eq_false c9; clear c9; simp only [Option.some.injEq, Prod.mk.injEq] at H; obtain ⟨rfl, rfl⟩ := H; clear bf; obtain ⟨AM, cM, eM⟩ := Kd.S_slice aw.o; subst eM; obtain ⟨AT, cT, eT⟩ := Kd.R_slice am.o; subst eT; obtain ⟨wc, hwc⟩ : ∃ wc, wc = wr := ⟨_, rfl⟩; subst hwc; have HBC := A_ (below_step HBW.o HB.o); have HCM := A_ (Kd.S_reads' aw.o).2.1; have HRM := A_ (Kd.S_reads' aw.o).2.2; have HCT := A_ (Kd.R_reads' am.o).2.1; have HRT := A_ (Kd.R_reads' am.o).2.2; clear aw am HB HR0 HR1 HR2 HC0 HC1 HC2 HMAP HBW; have HB := A_ (Below.refl wc.heap.size wc)
     have H : ((impl_reached.f k ac).bind fun aa => (if 0 ≤ (ac.length : Int) then (if ((ac.length : Int) : Int).toNat ≤ 35184372088832 then (impl_minimal3.l0 k ac af aa (List.replicate ((ac.length : Int) : Int).toNat 0) aa (aa.length : Int) 0) else (none)) else (none))) = some (r1, r2) := HH3.o
     clear HH3; replace H := bA_ H; obtain ⟨aa, A3, H⟩ := H
     by_cases c4 : 0 ≤ (ac.length : Int)
     ·rw [if_pos c4] at H; have dS := eq_true c4; have dT := decide_eq_true c4; clear c4
      by_cases c5 : ((ac.length : Int) : Int).toNat ≤ 35184372088832
      ·rw [if_pos c5] at H; have dV := eq_true c5; have dW := decide_eq_true c5; clear c5; obtain ⟨dD, br⟩ := ex_ ((List.replicate ((ac.length : Int) : Int).toNat 0) : List Int); replace H : (impl_minimal3.l0 k ac af aa dD aa (aa.length : Int) 0) = some (r1, r2) := by (rw [br]; with_reducible exact H)
       have db := A_ br; clear br
       have H' := A_ H
       clear H
       go_wp2_with (first | ((with_reducible refine gc_ 59 rfl ?_); refine cM_ E59 85 (impl_reached.calls k _ _ ac aa _ (by repeat (first | exact HRM.o | (with_reducible refine Kd.C_alloc ?_ _) | (with_reducible refine Kd.C_drewN ?_ _) | (with_reducible refine Kd.C_drew ?_))) HCM.o A3.o) ?_; rintro e w6 ⟨e5, rfl, ho0, hb⟩; refine ⟨_, rfl, ?_⟩; have aK := A_ (Kd.R_lower ho0 (below_size HB.o)); replace HB := bs_ HB hb; clear hb; (try clear ho0)) | ((with_reducible refine gate_dst (N := 88) rfl ?_); refine Kd.R_make (Kd.int .i64) _ 3 rfl (N := 88) rfl 23 _ _ rfl (ac.length : Int) rfl rfl Try.underlying23 (.int .i64 0) 8 info3 rfl (by decide) (by omega) 0 (ok := fun _ => True) (okp := fun _ => True) rfl (fun _ hk => hk) trivial oa_ (Nat.le_trans (Nat.mul_le_mul_right _ (oa_ : (ac.length : Int).toNat ≤ 35184372088832)) (by omega)) (Below.refl _ _) (Nat.le_refl _) ?_; rintro au w7 ho8 hb - -; (rw [← db.o] at ho8); have cH := A_ (Kd.R_lower (Kd.R_new' ho8 (Kd.R_lt aK.o)) (below_size HB.o)); replace aK := A_ (Kd.R_elder' aK.o (Kd.R_base ho8) hb); replace HB := bs_ HB hb; clear hb ho8; obtain ⟨bO, aE, eU⟩ := Kd.R_slice aK.o; subst eU))
       go_loopg [91] k (fun kq fe w' => ∃ (ag : List Int) (aj : Int), fe = .int .i64 aj ∧ Aside0 (impl_minimal3.l0 kq ac af aa ag aa (aa.length : Int) aj = some (r1, r2)) ∧ Aside0 (kq ≤ k) ∧ Aside0 (Kd.R (Kd.int .i64) 3 w' wc.heap.size (o1 au) (.slice bO aa.length aE) aa) ∧ Aside0 (Kd.R (Kd.int .i64) 3 w' wc.heap.size (o2 (.slice bO aa.length aE) (.slice bO aa.length aE)) au ag) ∧ Aside0 (Kd.R (Kd.int .i64) 3 w' wc.heap.size (o1 au) (.slice bO aa.length aE) aa) ∧ Aside0 (Below wc.heap.size wc w'))
       case atStart => exact ⟨(dD), (0), (by rfl), H', ⟨Nat.le_refl _⟩, ⟨by exact Kd.R_mono aK.o (fun _ hk => hk.2)⟩, ⟨by exact Kd.R_mono cH.o (fun _ hk => ⟨hk.2, hk.2⟩)⟩, ⟨by exact Kd.R_mono aK.o (fun _ hk => hk.2)⟩, ⟨HB.o⟩⟩
       case round =>
        clear H'
        clear dS dT dV dW
        obtain ⟨ag, aj, rfl, HA, bf, ax, ae, ay, HB⟩ := hrel
        cases gk with
        | zero => exact nz_ HA.o
        | succ k1 =>
         have H := HA.o; clear HA; simp only [impl_minimal3.l0] at H
         by_cases c10 : aj < (aa.length : Int)
         ·rw [if_pos c10] at H; have bQ := decide_eq_true c10; clear c10
          by_cases c11 : 0 ≤ aj
          ·rw [if_pos c11] at H; have bR := decide_eq_true c11; clear c11
           by_cases c12 : aj < (aa.length : Int)
           ·rw [if_pos c12] at H; have bS := decide_eq_true c12; clear c12
            by_cases c13 : 0 ≤ (rd aa aj)
            ·rw [if_pos c13] at H; have eB := decide_eq_true c13; clear c13
             by_cases c14 : (rd aa aj) < (ag.length : Int)
             ·rw [if_pos c14] at H; have eC := decide_eq_true c14; clear c14; obtain ⟨cv, bs⟩ := ex_ ((ag.set ((rd aa aj) : Int).toNat aj) : List Int); replace H : (impl_minimal3.l0 k1 ac af aa cv aa (aa.length : Int) (wrap64 (aj + 1))) = some (r1, r2) := by (rw [bs]; with_reducible exact H)
              have dc := A_ bs; clear bs
              have H' := A_ H
              clear H
              have b5 : 0 ≤ (aj : Int) := oa_
              have cf : aj < (aa.length : Int) := oa_
              obtain ⟨bP, d5, dL⟩ := Kd.at_int (Kd.R_reads' ay.o).2.2 aj b5 cf
              cases d5
              replace b5 := eq_true b5; replace cf := eq_true cf
              have eg : 0 ≤ ((rd aa aj) : Int) := oa_
              have eh : ((rd aa aj) : Int) < ((ag.length : Int) : Int) := oa_
              obtain ⟨bZ, dX, dr, dt, gl15, cl15, HG15⟩ := Kd.R_form ae.o (by omega)
              (first | cases dr | (injection dr with ea_ en_ ec_; (first | subst ea_ | (injection ea_ with ea_; subst ea_)); subst ec_; clear en_))
              have GB15 := A_ dt; have GG15 := A_ HG15; clear dt gl15 HG15; obtain ⟨ef, ee⟩ := Kd.R_celln 0 ae.o ((rd aa aj) : Int) eg eh; replace eg := eq_true eg; replace eh := eq_true eh; have bX := Kd.R_putg ae.o ((rd aa aj) : Int) aj
              go_wp2_with (first | ((with_reducible refine gate_store (t := 3) (p := 99) rfl ?_); refine store_event (t := 3) (p := 99) (w1 := (wr.setCell ⟨bZ, ((rd aa aj) : Int).toNat, none⟩ (.int .i64 aj))) rfl rfl rfl (by go_simp; done) ?_; intro w17 hw; have hg : wr.grownBy w17 (some bZ) := (by rw [hw]; exact bX.2); have hp_ : Kd.R (Kd.int .i64) 3 w17 wc.heap.size (o2 (.slice (some bP) aa.length aE) (.slice (some bP) aa.length aE)) (.slice (some ⟨bZ, 0, none⟩) ag.length dX) cv := (by rw [hw, dc.o]; exact bX.1); clear bX; replace ax := rB_ (ok := (fun _ => True)) hp_ ax (fun _ hk => ⟨trivial, hk⟩) hg; replace ae := A_ (hp_); replace ay := rB_ (ok := (fun _ => True)) hp_ ay (fun _ hk => ⟨trivial, hk⟩) hg; replace HB := A_ ((by rw [hw]; exact below_set (HB.o) GB15.o : Below wc.heap.size wc w17)); clear hg hw hp_))
              go_roundg k1
              case measure => have := bf.o; omega
              case rel => exact ⟨(cv), (wrap64 (aj + 1)), (by rfl), H', ⟨by have := bf.o; omega⟩, ⟨by exact Kd.R_mono ax.o (fun _ hk => hk.2)⟩, ⟨ae.o⟩, ⟨by exact Kd.R_mono ay.o (fun _ hk => hk.2)⟩, ⟨HB.o⟩⟩
             rw [if_neg c14] at H
             cases H
            rw [if_neg c13] at H
            cases H
           rw [if_neg c12] at H
           cases H
          rw [if_neg c11] at H
          cases H
         rw [if_neg c10] at H; have bQ := decide_eq_false c10; clear c10; obtain ⟨cw, bt⟩ := ex_ ((([] : List (List Int))) : List (List Int)); replace H : (impl_minimal3.l1 k1 ac af ag cw (([] : List Int)) aa (aa.length : Int) 0) = some (r1, r2) := by (rw [bt]; with_reducible exact H)
         have dd := A_ bt; clear bt; obtain ⟨dE, bu⟩ := ex_ ((([] : List Int)) : List Int); replace H : (impl_minimal3.l1 k1 ac af ag cw dE aa (aa.length : Int) 0) = some (r1, r2) := by (rw [bu]; with_reducible exact H)
         have de := A_ bu; clear bu
         have H' := A_ H
         clear H
         go_wp2_with (first | ((with_reducible refine gate_dst (N := 101) rfl ?_); refine Kd.S_lit (Kd.slice 3 (Kd.int .i64)) _ 23 ?hg (N := 101) ?hd (xs := ([] : List (List Int))) (inner := []) (ok := fun _ => True) (okp := fun _ => True) ?hr ?hp (fun _ hk => hk) trivial (Below.refl _ _) (Nat.le_refl _) (by simp) ?_; (case hd | hg => rfl); (case hr => go_simp; done); (case hp => exact (Reps.none _ _)); rintro e6 w18 b0 hb - -; (rw [← dd.o] at b0); have bi := A_ (Kd.S_lower (Kd.S_new' (Kd.S_new' (Kd.S_new' b0 (Kd.R_lt ax.o)) (Kd.R_lt ae.o)) (Kd.R_lt ay.o)) (below_size HB.o)); replace ax := A_ (Kd.R_below ax.o hb); replace ae := A_ (Kd.R_below ae.o hb); replace ay := A_ (Kd.R_below ay.o hb); replace HB := bs_ HB hb; clear hb b0) | ((with_reducible refine gd_ 102 rfl ?_); refine RL_ 102 3 [] [] rfl rfl (by go_simp; done) rfl rfl ?_; rintro e7 w20 aY hb - -; (rw [← de.o] at aY); replace bi := A_ (Kd.S_elder' bi.o (Kd.R_base aY) hb); have cI := A_ (Kd.R_lower (Kd.R_new' (Kd.R_new' (Kd.R_new' aY (Kd.R_lt ax.o)) (Kd.R_lt ae.o)) (Kd.R_lt ay.o)) (below_size HB.o)); replace ax := A_ (Kd.R_elder' ax.o (Kd.R_base aY) hb); replace ae := A_ (Kd.R_elder' ae.o (Kd.R_base aY) hb); replace ay := A_ (Kd.R_elder' ay.o (Kd.R_base aY) hb); replace HB := bs_ HB hb; clear hb aY))
         go_loopg [19, 20, 105] k1 (fun kq eV dN ei w' => ∃ (aA : List (List Int)) (ar : List Int) (ab : Int), ei = .int .i64 ab ∧ Aside0 (impl_minimal3.l1 kq ac af ag aA ar aa (aa.length : Int) ab = some (r1, r2)) ∧ Aside0 (kq ≤ k1) ∧ Aside0 (Kd.R (Kd.int .i64) 3 w' wc.heap.size (o2 dN (.slice bO aa.length aE)) au ag) ∧ Aside0 (Kd.S (Kd.slice 3 (Kd.int .i64)) 23 w' wc.heap.size (o3 au dN (.slice bO aa.length aE)) eV aA) ∧ Aside0 (Kd.R (Kd.int .i64) 3 w' wc.heap.size (o2 au (.slice bO aa.length aE)) dN ar) ∧ Aside0 (Kd.R (Kd.int .i64) 3 w' wc.heap.size (o2 au dN) (.slice bO aa.length aE) aa) ∧ Aside0 (Below wc.heap.size wc w'))
         case atStart => exact ⟨(cw), (dE), (0), (by rfl), H', ⟨Nat.le_refl _⟩, ⟨by exact Kd.R_mono ae.o (fun _ hk => ⟨hk.2, hk.1.1⟩)⟩, ⟨by exact Kd.S_mono bi.o (fun _ hk => ⟨hk.1.1.2, ⟨hk.2, hk.1.1.1.2⟩⟩)⟩, ⟨by exact Kd.R_mono cI.o (fun _ hk => ⟨hk.1.2, hk.1.1.2⟩)⟩, ⟨ax.o⟩, ⟨HB.o⟩⟩
         case round =>
          clear H'
          try clear bQ
          obtain ⟨aA, ar, ab, rfl, HA, bD, ae, an, ao, ai, HB⟩ := hrel
          cases gk with
          | zero => exact nz_ HA.o
          | succ k2 =>
           have H := HA.o; clear HA; simp only [impl_minimal3.l1] at H
           by_cases c22 : ab < (aa.length : Int)
           ·rw [if_pos c22] at H; have bT := decide_eq_true c22; clear c22
            by_cases c23 : 0 ≤ ab
            ·rw [if_pos c23] at H; have dk := decide_eq_true c23; clear c23
             by_cases c24 : ab < (aa.length : Int)
             ·rw [if_pos c24] at H; have bU := decide_eq_true c24; clear c24; obtain ⟨dF, bv⟩ := ex_ ((([] : List Int)) : List Int); replace H : (if 0 ≤ (rd aa ab) then (if (rd aa ab) < (ac.length : Int) then (impl_minimal3.l2 k2 ac af ag aA ar (rd aa ab) dF aa (aa.length : Int) ab (rd_L1 ac (rd aa ab)) ((rd_L1 ac (rd aa ab)).length : Int) 0) else (none)) else (none)) = some (r1, r2) := by (rw [bv]; with_reducible exact H)
              have df := A_ bv; clear bv
              by_cases c25 : 0 ≤ (rd aa ab)
              ·rw [if_pos c25] at H; have bV := decide_eq_true c25; clear c25
               by_cases c26 : (rd aa ab) < (ac.length : Int)
               ·rw [if_pos c26] at H; have dl := decide_eq_true c26; clear c26
                have H' := A_ H
                clear H
                have bJ : 0 ≤ (ab : Int) := oa_
                have bM : ab < (aa.length : Int) := oa_
                obtain ⟨ap, d6, bH⟩ := Kd.at_int (Kd.R_reads' ai.o).2.2 ab bJ bM
                cases d6
                replace bJ := eq_true bJ; replace bM := eq_true bM
                go_wp2_with (first | ((with_reducible refine gd_ 109 rfl ?_); refine RL_ 109 3 [] [] rfl rfl (by go_simp; done) rfl rfl ?_; rintro e8 w27 aZ hb - -; (rw [← df.o] at aZ); replace an := A_ (Kd.S_elder' an.o (Kd.R_base aZ) hb); have cJ := A_ (Kd.R_lower (Kd.R_new' (Kd.R_new' (Kd.R_new' aZ (Kd.R_lt ae.o)) (Kd.R_lt ao.o)) (Kd.R_lt ai.o)) (below_size HB.o)); replace ae := A_ (Kd.R_elder' ae.o (Kd.R_base aZ) hb); replace ao := A_ (Kd.R_elder' ao.o (Kd.R_base aZ) hb); replace ai := A_ (Kd.R_elder' ai.o (Kd.R_base aZ) hb); replace HB := bs_ HB hb; clear hb aZ; have bK : 0 ≤ ((rd aa ab) : Int) := oa_; have bN : (rd aa ab) < (ac.length : Int) := oa_; obtain ⟨ex, dQ, dU, d7, aI, be, bc⟩ := at_L1 HRM.o (rd aa ab) bK bN; cases d7; replace aI := (HB.o.cell (World.block_lt_of_cell? wc _ aI)).trans aI; have bF := A_ bc; have dJ := A_ be; clear bc be; replace bK := eq_true bK; replace bN := eq_true bN))
                go_loopg [23, 115] k2 (fun kq du ej w' => ∃ (aC : List Int) (ah : Int), ej = .int .i64 ah ∧ Aside0 (impl_minimal3.l2 kq ac af ag aA ar (rd aa ab) aC aa (aa.length : Int) ab (rd_L1 ac (rd aa ab)) ((rd_L1 ac (rd aa ab)).length : Int) ah = some (r1, r2)) ∧ Aside0 (kq ≤ k2) ∧ Aside0 (Kd.R (Kd.int .i64) 3 w' wc.heap.size (o3 u20 du (.slice (some ap) aa.length aE)) au ag) ∧ Aside0 (Kd.S (Kd.slice 3 (Kd.int .i64)) 23 w' wc.heap.size (o4 au u20 du (.slice (some ap) aa.length aE)) u19 aA) ∧ Aside0 (Kd.R (Kd.int .i64) 3 w' wc.heap.size (o3 au du (.slice (some ap) aa.length aE)) u20 ar) ∧ Aside0 (Kd.R (Kd.int .i64) 3 w' wc.heap.size (o3 au u20 (.slice (some ap) aa.length aE)) du aC) ∧ Aside0 (Kd.R (Kd.int .i64) 3 w' wc.heap.size (o3 au u20 du) (.slice (some ap) aa.length aE) aa) ∧ Aside0 (Below wc.heap.size wc w'))
                case atStart => exact ⟨(dF), (0), (by rfl), H', ⟨Nat.le_refl _⟩, ⟨by exact Kd.R_mono ae.o (fun _ hk => ⟨hk.1.1, ⟨hk.2, hk.1.2⟩⟩)⟩, ⟨by exact Kd.S_mono an.o (fun _ hk => ⟨hk.1.1, ⟨hk.1.2.1, ⟨hk.2, hk.1.2.2⟩⟩⟩)⟩, ⟨by exact Kd.R_mono ao.o (fun _ hk => ⟨hk.1.1, ⟨hk.2, hk.1.2⟩⟩)⟩, ⟨by exact Kd.R_mono cJ.o (fun _ hk => ⟨hk.1.1.2, ⟨hk.1.2, hk.2⟩⟩)⟩, ⟨by exact Kd.R_mono ai.o (fun _ hk => ⟨hk.1.1, ⟨hk.1.2, hk.2⟩⟩)⟩, ⟨HB.o⟩⟩
                case round =>
                 clear H'
                 clear bT dk bU bV dl bH aI bJ bK bM bN
                 obtain ⟨aC, ah, rfl, HA, dK, ae, an, ao, aN, ai, HB⟩ := hrel
                 cases gk with
                 | zero => exact nz_ HA.o
                 | succ k3 =>
                  have H := HA.o; clear HA; simp only [impl_minimal3.l2] at H
                  by_cases c29 : ah < ((rd_L1 ac (rd aa ab)).length : Int)
                  ·rw [if_pos c29] at H; have dm := decide_eq_true c29; clear c29
                   by_cases c30 : 0 ≤ ah
                   ·rw [if_pos c30] at H; have eH := decide_eq_true c30; clear c30
                    by_cases c31 : ah < ((rd_L1 ac (rd aa ab)).length : Int)
                    ·rw [if_pos c31] at H; have eI := decide_eq_true c31; clear c31
                     by_cases c32 : 0 ≤ (rd (rd_L1 ac (rd aa ab)) ah)
                     ·rw [if_pos c32] at H; have eJ := decide_eq_true c32; clear c32
                      by_cases c33 : (rd (rd_L1 ac (rd aa ab)) ah) < (ag.length : Int)
                      ·rw [if_pos c33] at H; have eK := decide_eq_true c33; clear c33
                       by_cases c34 : aC.length < 17592186044416
                       ·rw [if_pos c34] at H; have cQ := A_ c34; clear c34; obtain ⟨dG, bw⟩ := ex_ ((aC ++ [rd ag (rd (rd_L1 ac (rd aa ab)) ah)]) : List Int); replace H : (impl_minimal3.l2 k3 ac af ag aA ar (rd aa ab) dG aa (aa.length : Int) ab (rd_L1 ac (rd aa ab)) ((rd_L1 ac (rd aa ab)).length : Int) (wrap64 (ah + 1))) = some (r1, r2) := by (rw [bw]; with_reducible exact H)
                        have dg := A_ bw; clear bw
                        have H' := A_ H
                        clear H
                        have b6 : 0 ≤ (ah : Int) := oa_
                        have cg : ah < ((rd_L1 ac (rd aa ab)).length : Int) := oa_
                        obtain ⟨ey, d8, aV⟩ := Kd.at_int bF.o ah b6 cg
                        cases d8
                        replace aV := (HB.o.cell (World.block_lt_of_cell? wc _ aV)).trans aV; replace b6 := eq_true b6; replace cg := eq_true cg; obtain ⟨eS, bG, ec⟩ := Kd.R_slice ae.o; subst ec
                        have b7 : 0 ≤ ((rd (rd_L1 ac (rd aa ab)) ah) : Int) := oa_
                        have ch : (rd (rd_L1 ac (rd aa ab)) ah) < (ag.length : Int) := oa_
                        obtain ⟨ba, d9, dM⟩ := Kd.at_int (Kd.R_reads' ae.o).2.2 (rd (rd_L1 ac (rd aa ab)) ah) b7 ch
                        cases d9
                        replace b7 := eq_true b7; replace ch := eq_true ch
                        go_wp2_with (first | ((with_reducible refine gate_builtin (b := .append) (xs := #[.tmp 119, .tmp 124]) rfl ?_); at_builtin; refine Kd.R_append (Kd.int .i64) (w0 := wc) wc.heap.size rfl (.tmp 119) (.tmp 124) 23 3 (.int .i64 0) 8 rfl Try.underlying23 info3 rfl (by decide) (by omega) u23 aC (rd ag (rd (rd_L1 ac (rd aa ab)) ah)) [.int .i64 (rd ag (rd (rd_L1 ac (rd aa ab)) ah))] (o3 (.slice (some ba) ag.length bG) u20 (.slice (some ap) aa.length aE)) (fun _ => False) rfl rfl ?aP (fun _ hk => hk.elim) ?aF ?aO ?aB ?aS ?aL ?_; (case aP => exact rfl); (case aB => exact HB.o); (case aF => exact (fun k_ hk => ⟨Kd.fresh' (Kd.R_lt ae.o) k_ hk, Kd.fresh' (Kd.R_lt ao.o) k_ hk, Kd.fresh' (Kd.R_lt ai.o) k_ hk⟩)); (case aO => exact aN.o); (case aS => exact (below_size HB.o)); (case aL => have := cQ.o; omega); intro e9 w36 ho hb hg hat; rw [← dg.o] at ho; replace ae := A_ (Kd.R_after (ok := (o2 u20 (.slice (some ap) aa.length aE))) (by exact Kd.R_mono ae.o (fun _ hk => ⟨⟨hk.1, hk.2.2⟩, hk.2.1⟩)) hg hat); replace an := A_ (Kd.S_after (ok := (o3 (.slice (some ba) ag.length bG) u20 (.slice (some ap) aa.length aE))) (by exact Kd.S_mono an.o (fun _ hk => ⟨⟨hk.1, ⟨hk.2.1, hk.2.2.2⟩⟩, hk.2.2.1⟩)) hg hat); replace ao := A_ (Kd.R_after (ok := (o2 (.slice (some ba) ag.length bG) (.slice (some ap) aa.length aE))) (by exact Kd.R_mono ao.o (fun _ hk => ⟨⟨hk.1, hk.2.2⟩, hk.2.1⟩)) hg hat); replace ai := A_ (Kd.R_after (ok := (o2 (.slice (some ba) ag.length bG) u20)) (by exact Kd.R_mono ai.o (fun _ hk => ⟨⟨hk.1, hk.2.1⟩, hk.2.2⟩)) hg hat); replace HB := A_ (hb); have cK := A_ (ho); clear aN; clear ho hb hg hat))
                        go_roundg k3
                        case measure => have := bf.o; have := bD.o; have := dK.o; omega
                        case rel => exact ⟨(dG), (wrap64 (ah + 1)), (by rfl), H', ⟨by have := bf.o; have := bD.o; have := dK.o; omega⟩, ⟨by exact Kd.R_mono ae.o (fun _ hk => ⟨hk.1.1, ⟨hk.2, hk.1.2⟩⟩)⟩, ⟨by exact Kd.S_mono an.o (fun _ hk => ⟨hk.1.1, ⟨hk.1.2.1, ⟨hk.2, hk.1.2.2⟩⟩⟩)⟩, ⟨by exact Kd.R_mono ao.o (fun _ hk => ⟨hk.1.1, ⟨hk.2, hk.1.2⟩⟩)⟩, ⟨cK.o⟩, ⟨by exact Kd.R_mono ai.o (fun _ hk => ⟨hk.1.1, ⟨hk.1.2, hk.2⟩⟩)⟩, ⟨HB.o⟩⟩
                       rw [if_neg c34] at H
                       cases H
                      rw [if_neg c33] at H
                      cases H
                     rw [if_neg c32] at H
                     cases H
                    rw [if_neg c31] at H
                    cases H
                   rw [if_neg c30] at H
                   cases H
                  rw [if_neg c29] at H; have dm := decide_eq_false c29; clear c29
                  by_cases c37 : aA.length < 5864062014805
                  ·rw [if_pos c37] at H; have cS := A_ c37; clear c37; obtain ⟨cx, bx⟩ := ex_ ((aA ++ [aC]) : List (List Int)); replace H : (if 0 ≤ (rd aa ab) then (if (rd aa ab) < (af.length : Int) then (if ar.length < 17592186044416 then (impl_minimal3.l1 k3 ac af ag cx (ar ++ [rd af (rd aa ab)]) aa (aa.length : Int) (wrap64 (ab + 1))) else (none)) else (none)) else (none)) = some (r1, r2) := by (rw [bx]; with_reducible exact H)
                   have dh := A_ bx; clear bx
                   by_cases c38 : 0 ≤ (rd aa ab)
                   ·rw [if_pos c38] at H; have eL := decide_eq_true c38; clear c38
                    by_cases c39 : (rd aa ab) < (af.length : Int)
                    ·rw [if_pos c39] at H; have eN := decide_eq_true c39; clear c39
                     by_cases c40 : ar.length < 17592186044416
                     ·rw [if_pos c40] at H; have cU := A_ c40; clear c40; obtain ⟨dH, bz⟩ := ex_ ((ar ++ [rd af (rd aa ab)]) : List Int); replace H : (impl_minimal3.l1 k3 ac af ag cx dH aa (aa.length : Int) (wrap64 (ab + 1))) = some (r1, r2) := by (rw [bz]; with_reducible exact H)
                      have di := A_ bz; clear bz
                      have H' := A_ H
                      clear H; obtain ⟨cC, dq, ed⟩ := Kd.R_slice aN.o; subst ed
                      go_wp2_with (first | ((with_reducible refine gate_builtin (b := .append) (xs := #[.tmp 127, .tmp 129]) rfl ?_); at_builtin; refine Kd.S_append (Kd.slice 3 (Kd.int .i64)) (w0 := wc) wc.heap.size rfl (.tmp 127) (.tmp 129) 22 23 (.slice none 0 0) 24 rfl Try.underlying22 info23 rfl (by decide) (by omega) u19 aA aC [.slice cC aC.length dq] (o3 au u20 (.slice (some ap) aa.length aE)) (fun k_ => some k_ = (.slice cC aC.length dq : Value).ownBlock) rfl rfl ?aP (fun k_ hk_ => ((Kd.R_mono (ok' := fun k_ => ((o3 au u20 (.slice (some ap) aa.length aE))) k_ ∧ some k_ ≠ (u19 : Value).ownBlock) (Kd.R_apart' (aN.o) (Kd.S_typed an.o) (by decide)) (fun k_ hk => ⟨⟨hk.1.1, ⟨hk.1.2.1, hk.1.2.2⟩⟩, hk.2⟩))).1 k_ hk_.symm) ?aF ?aO ?aB ?aS ?aL ?_; (case aP => exact Kd.M_row (Kd.R_mono (Kd.R_tight rfl (Kd.R_mono (ok' := fun k_ => ((o3 au u20 (.slice (some ap) aa.length aE))) k_ ∧ some k_ ≠ (u19 : Value).ownBlock) (Kd.R_apart' (aN.o) (Kd.S_typed an.o) (by decide)) (fun k_ hk => ⟨⟨hk.1.1, ⟨hk.1.2.1, hk.1.2.2⟩⟩, hk.2⟩))) (fun _ h_ => h_))); (case aB => exact HB.o); (case aF => exact (fun k_ hk => ⟨Kd.fresh' (Kd.R_lt ae.o) k_ hk, Kd.fresh' (Kd.R_lt ao.o) k_ hk, Kd.fresh' (Kd.R_lt ai.o) k_ hk⟩)); (case aO => exact (by exact Kd.S_mono an.o (fun k_ hk => ⟨⟨hk.1, ⟨hk.2.1, hk.2.2.2⟩⟩, fun e_ => hk.2.2.1 e_⟩))); (case aS => exact (below_size HB.o)); (case aL => have := cS.o; omega); intro fa w41 ho hb hg hat; rw [← dh.o] at ho; replace ae := A_ (Kd.R_over' ae.o (Kd.S_typed an.o) (by decide) hg); replace ao := A_ (Kd.R_over' ao.o (Kd.S_typed an.o) (by decide) hg); replace ai := A_ (Kd.R_over' ai.o (Kd.S_typed an.o) (by decide) hg); replace HB := A_ (hb); have bj := A_ (ho); clear an aN; clear ho hb hg hat; have b8 : 0 ≤ ((rd aa ab) : Int) := oa_; have ci : (rd aa ab) < (af.length : Int) := oa_; obtain ⟨ez, ea, aW⟩ := Kd.at_int HRT.o (rd aa ab) b8 ci; cases ea; replace aW := (HB.o.cell (World.block_lt_of_cell? wc _ aW)).trans aW; replace b8 := eq_true b8; replace ci := eq_true ci) | ((with_reducible refine gate_builtin (b := .append) (xs := #[.tmp 131, .tmp 136]) rfl ?_); at_builtin; refine Kd.R_append (Kd.int .i64) (w0 := wc) wc.heap.size rfl (.tmp 131) (.tmp 136) 23 3 (.int .i64 0) 8 rfl Try.underlying23 info3 rfl (by decide) (by omega) u20 ar (rd af (rd aa ab)) [.int .i64 (rd af (rd aa ab))] (o2 au (.slice (some ap) aa.length aE)) (fun _ => False) rfl rfl ?aP (fun _ hk => hk.elim) ?aF ?aO ?aB ?aS ?aL ?_; (case aP => exact rfl); (case aB => exact HB.o); (case aF => exact (fun k_ hk => ⟨Kd.fresh' (Kd.R_lt ae.o) k_ hk, Kd.fresh' (Kd.R_lt ai.o) k_ hk⟩)); (case aO => exact (by exact Kd.R_mono ao.o (fun _ hk => ⟨hk.1, hk.2.2⟩))); (case aS => exact (below_size HB.o)); (case aL => have := cU.o; omega); intro fb w43 ho hb hg hat; rw [← di.o] at ho; replace ae := A_ (Kd.R_after (ok := (o1 (.slice (some ap) aa.length aE))) (by exact Kd.R_mono ae.o (fun _ hk => ⟨hk.2.2, hk.1⟩)) hg hat); replace ai := A_ (Kd.R_after (ok := (o1 au)) (by exact Kd.R_mono ai.o (fun _ hk => ⟨hk.1, hk.2.1⟩)) hg hat); replace bj := A_ (Kd.S_after (ok := (o2 au (.slice (some ap) aa.length aE))) (by exact Kd.S_mono bj.o (fun _ hk => ⟨⟨hk.1, hk.2.2⟩, hk.2.1⟩)) hg hat); replace HB := A_ (hb); have cL := A_ (ho); clear ao; clear ho hb hg hat))
                      go_roundg k3
                      case measure => have := bf.o; have := bD.o; have := dK.o; omega
                      case rel => exact ⟨(cx), (dH), (wrap64 (ab + 1)), (by rfl), H', ⟨by have := bf.o; have := bD.o; have := dK.o; omega⟩, ⟨by exact Kd.R_mono ae.o (fun _ hk => ⟨hk.2, hk.1⟩)⟩, ⟨by exact Kd.S_mono bj.o (fun _ hk => ⟨hk.1.1, ⟨hk.2, hk.1.2⟩⟩)⟩, ⟨cL.o⟩, ⟨ai.o⟩, ⟨HB.o⟩⟩
                     rw [if_neg c40] at H
                     cases H
                    rw [if_neg c39] at H
                    cases H
                   rw [if_neg c38] at H
                   cases H
                  rw [if_neg c37] at H
                  cases H
               rw [if_neg c26] at H
               cases H
              rw [if_neg c25] at H
              cases H
             rw [if_neg c24] at H
             cases H
            rw [if_neg c23] at H
            cases H
           rw [if_neg c22] at H; have bT := decide_eq_false c22; clear c22; simp only [Option.some.injEq, Prod.mk.injEq] at H; obtain ⟨rfl, rfl⟩ := H
           go_wp2
           go_ret2
           exact ⟨wc, HBC.o, _, _, by rfl, by exact Kd.S_mono an.o (fun _ hk => hk.2.1), by exact Kd.R_mono ao.o (fun _ hk => trivial), HB.o⟩
      rw [if_neg c5] at H
      cases H
     rw [if_neg c4] at H
     cases H
theorem impl_minimal.calls (k : Nat) (A0 : Option Addr) (c0 : Nat) (l0 : List (List Int)) (A1 : Option Addr) (c1 : Nat) (l1 : List Int) (r1 : List (List Int)) (r2 : List Int) (w : World) (hr0 : Kd.C (Kd.slice 3 (Kd.int .i64)) w A0 l0.length l0) (hc0 : l0.length ≤ c0) (hr1 : Kd.C (Kd.int .i64) w A1 l1.length l1) (hc1 : l1.length ≤ c1) (h : impl_minimal.f k l0 l1 = some (r1, r2)) :
  Calls Try.prog 44 #[.slice A0 l0.length c0, .slice A1 l1.length c1] w fun e w' => ∃ v0_ v1_ : Value, e = .returned (.tuple #[v0_, v1_]) ∧ Kd.S (Kd.slice 3 (Kd.int .i64)) 23 w' w.heap.size (o1 v1_) v0_ r1 ∧ Kd.R (Kd.int .i64) 3 w' w.heap.size (fun _ => True) v1_ r2 ∧ Below w.heap.size w w' := by
 obtain ⟨l2, hcl, ⟨g1, g2, g3⟩, m1, m2, h2, h3⟩ := minimal_some h; refine (impl_minimal.calls1 k A0 c0 l0 A1 c1 l1 l2 m1 m2 r1 r2 w hr0 hc0 hr1 hc1 hcl g1 g2 g3 h2 h3).mono ?_; rintro e w' ⟨wb, hb, v0_, v1_, he, hS, hR, hB⟩; exact ⟨v0_, v1_, he, Kd.S_lower hS hb.size, Kd.R_lower hR hb.size, below_step hb hB⟩


end Go.Proofs.Ytgmfjcckmapkbaa.PFnExactCountingForm

