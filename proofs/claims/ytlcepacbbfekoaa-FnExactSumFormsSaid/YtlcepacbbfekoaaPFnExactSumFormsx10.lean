/- Walks of the functions that the law reaches. -/
import Derived.Test.YtlcepacbbfekoaaPFnExactSumFormsx3
import Derived.Test.YtlcepacbbfekoaaPFnExactSumFormsx7
import Derived.Test.YtlcepacbbfekoaaPFnExactSumFormsx9
namespace Go.Proofs.Ytlcepacbbfekoaa.PFnExactSumForms
open Go.RowKit Go.Proofs.YtlcepacbbfekoaaW.PrintWords Go.Proofs.YtlcepacbbfekoaaW.PrintLast Go.Proofs.YtlcepacbbfekoaaW.PrintMore
attribute [local go_sem] max2_int min2_int max_two min_two max_three min_three max_four min_four
set_option linter.unusedVariables false
set_option maxHeartbeats 8000000
set_option maxRecDepth 100000
set_option linter.unusedSimpArgs false

theorem toS3 (k : Nat) (A0 : Option Addr) (c0 : Nat) (l0 : List (List (List Int))) (w : World) (hr0 : Kd.C (Kd.slice 22 (Kd.slice 3 (Kd.int .i64))) w A0 l0.length l0) (hc0 : l0.length ≤ c0) (hl : l0.length ≤ 1048576) (h : ∀ m ∈ l0, laws_toIntSS.f k m = some m) :
  Calls Try.prog 15 #[.slice A0 l0.length c0] w fun e w' => ∃ v0_ : Value, e = .returned v0_ ∧ Kd.S (sS 22 (Kd.slice 3 (Kd.int .i64))) 37 w' w.heap.size (fun _ => True) v0_ l0 ∧ Below w.heap.size w w' := by
 have HR := A_ hr0; have HC := A_ hc0; have HL := A_ hl; have HF := A_ h; clear hr0 hc0 h hl; go_enter Try.func15, Try.ntmps15
 go_wp2_with (first | ((with_reducible refine gate_dst (N := 7) rfl ?_); refine Kd.S_make (sS 22 (Kd.slice 3 (Kd.int .i64))) _ 37 rfl (N := 7) rfl 23 _ _ rfl (l0.length : Int) rfl rfl Try.underlying23 (.slice none 0 0) 24 info37 rfl (by decide) (by omega) [] (ok := fun _ => True) (okp := fun _ => True) ⟨_, rfl, Kd.S_nil _ _ _ _ _⟩ (fun _ hk => hk) trivial (by omega) (by have := HL.o; omega) (Below.refl _ _) (Nat.le_refl _) ?_; intro v4 w4 ho hb hg_ hnew_; clear hg_ hnew_; rw [Int.toNat_natCast] at ho; obtain ⟨A, cp, e_⟩ := Kd.S_slice ho; rw [List.length_replicate] at e_; subst e_; have HI := A_ (show Below w.heap.size w w4 ∧ Kd.S (sS 22 (Kd.slice 3 (Kd.int .i64))) 37 w4 w.heap.size (fun _ => True) (.slice A l0.length cp) (fillG [] l0 id l0.length [] 0) from ⟨hb, by simpa [fillG] using ho⟩); clear ho hb))
 go_loopg [4] (l0.length + 1) (fun kq v4 W => ∃ i : Nat, v4 = .int .i64 (i : Int) ∧ i ≤ l0.length ∧ l0.length + 1 - i ≤ kq ∧ Aside0 (Below w.heap.size w W ∧ Kd.S (sS 22 (Kd.slice 3 (Kd.int .i64))) 37 W w.heap.size (fun _ => True) (.slice A l0.length cp) (fillG [] l0 id l0.length [] i)))
 case atStart => exact ⟨0, rfl, by omega, by omega, HI⟩
 case round =>
  clear HI; obtain ⟨i, rfl, hi, hk, HI⟩ := hrel
  have hib : l0.length ≤ 1048576 := HL.o
  by_cases hlt : i < l0.length
  · have cn : decide ((i : Int) < (l0.length : Int)) = true := decide_eq_true (by omega)
    have p1 : (0 ≤ (i : Int)) = True := eq_true (by omega)
    have p2 : ((i : Int) < (l0.length : Int)) = True := eq_true (by omega)
    obtain ⟨hB, hS⟩ := HI.o; obtain ⟨adr, Ar, cr, ear, hxr, hlr, hcr⟩ := at_L2 HR.o (i : Int) (by omega) (by omega)
    have er : rd_L2 l0 (i : Int) = l0[i] := by simp [rd_L2, List.getD_eq_getElem?_getD, hlt]
    have hset := fill_set [] l0 id l0.length [] [] i i hlt (Nat.le_refl _) (by simp); have hmem := List.getElem_mem hlt; rw [show id l0[i] = l0[i] from rfl] at hset; obtain ⟨X, hX⟩ : ∃ X, X = l0[i] := ⟨_, rfl⟩; rw [← hX] at er hset hmem; clear hX; rw [er] at hxr hlr hcr; rw [Int.toNat_natCast] at hxr; replace hxr := (hB.cell (World.block_lt_of_cell? w _ hxr)).trans hxr; replace hcr := Kd.C_below hcr hB; have hlen := fill_len [] l0 id l0.length [] i (by omega) (Nat.le_refl _); simp only [List.length_nil, Nat.zero_add] at hlen; obtain ⟨g, cp2, hv2, hg1, hg2, hg3⟩ := Kd.S_form hS (by rw [hlen]; omega)
    injection hv2 with ea_ en_ ec_
    subst ea_; have SX := A_ (Kd.S_mono (ok' := fun k => True ∧ ¬ wr.heap.size ≤ k) (Kd.S_bound hS) (fun _ hk => ⟨trivial, Nat.not_le.mpr hk.2.2.1⟩)); have HB := A_ hB; have HCR := A_ hcr; have HLR := A_ hlr; have HG := A_ hg2; have HST := A_ hset.1; have HM := A_ (HF.o _ hmem); subst ear; clear hB hS hcr hlr er hset hmem hlen hg1 hg2 hg3 en_ ec_ HI
    go_wp2_with (first | (go_at_call 27; (with_reducible refine (laws_toIntSS.calls k _ _ X X _ HCR.o HLR.o HM.o).mono ?_); rintro e w2 ⟨v, rfl, ho, hb⟩; obtain ⟨Av, cv, e_⟩ := Kd.S_slice ho; subst e_; have SX2 := Kd.S_below SX.o hb; obtain ⟨oki, c, hcl, ⟨u, rfl, hMu⟩, hcc, hfr, hoki, hH⟩ := Kd.S_elem SX2 [] (i : Int) (by omega) (by omega); have hsz : (i : Int).toNat * ((sS 22 (Kd.slice 3 (Kd.int .i64)))).sz + 0 = i := (by rw [Int.toNat_natCast]; exact Nat.mul_one i); have hci : w2.cell? ⟨g, i, none⟩ = some u := (by have h2 := hcc 0 u rfl; rw [hsz] at h2; exact h2); have hfi : w2.frozen? ⟨g, i, none⟩ = false := (by have h2 := hfr 0; rw [hsz] at h2; exact h2); have hseg := Kd.S_seg hH (by omega) (by omega) (seg := [.slice Av X.length cv]) (j := 0) (show 0 + 1 ≤ 1 from by decide) (x' := X) (okp := fun k => wr.heap.size ≤ k) ⟨_, rfl, Kd.S_lower (Kd.S_mono (Kd.S_bound ho) (fun _ hk => hk.2.1)) HB.o.size⟩ (fun _ hk => .inr hk) (fun k hk => ⟨trivial, fun e => by have := HG.o; omega⟩); rw [hsz, Int.toNat_natCast, HST.o] at hseg; have HN := A_ (show Below w.heap.size w (w2.setCell ⟨g, i, none⟩ (.slice Av X.length cv)) ∧ Kd.S (sS 22 (Kd.slice 3 (Kd.int .i64))) 37 (w2.setCell ⟨g, i, none⟩ (.slice Av X.length cv)) w.heap.size (fun _ => True) (.slice (some ⟨g, 0, none⟩) l0.length cp) (fillG [] l0 id l0.length [] (i + 1)) from ⟨(below_step HB.o hb).grown hseg.2 (below_size (below_step HB.o hb)) (fun k e => by have h5 := Kd.S_base SX.o k (by rw [← e]; rfl); exact h5), hseg.1⟩); clear SX2 hcl hMu hcc hfr hoki hH hseg ho hb hsz))
    go_roundg (l0.length + 1 - (i + 1))
    case measure => omega
    case rel => exact ⟨i + 1, by go_num, by omega, Nat.le_refl _, HN⟩
  · have cn : decide ((i : Int) < (l0.length : Int)) = false := decide_eq_false (by omega)
    have : i = l0.length := by omega
    subst this; have hS := HI.o.2
    have e_ : fillG [] l0 id l0.length [] l0.length = l0 := by simp [fillG]
    rw [e_] at hS; have HS := A_ hS; have HB := A_ HI.o.1; clear HI hS e_
    go_wp2
    go_ret
    exact ⟨_, rfl, HS.o, HB.o⟩
theorem toLinS (k : Nat) (ah : Int) (al : Option Addr) (ao : Nat) (ab : List Int) (am : Option Addr) (ap : Nat) (ac : List (List (List Int))) (an : Option Addr) (aq : Nat) (aa : List Int) (w : World) (aE : Kd.C (Kd.int .i64) w al ab.length ab) (aA : ab.length ≤ ao) (aG : Kd.C (Kd.slice 22 (Kd.slice 3 (Kd.int .i64))) w am ac.length ac) (aC : ac.length ≤ ap) (aH : Kd.C (Kd.int .i64) w an aa.length aa) (aD : aa.length ≤ aq)
  (hl : ac.length ≤ 1048576) (h1 : laws_toIntS.f k ab = some ab) (h2 : ∀ m ∈ ac, laws_toIntSS.f k m = some m) (h3 : laws_toIntS.f k aa = some aa) :
  Calls Try.prog 6 #[.agg #[.int .i64 ah, .slice al ab.length ao, .slice am ac.length ap, .slice an aa.length aq]] w fun e w' => ∃ v1_ v2_ v3_ : Value, e = .returned (.agg #[.int .i64 ah, v1_, v2_, v3_]) ∧ Kd.R (Kd.int .i64) 3 w' w.heap.size (o1 v3_) v1_ ab ∧ Kd.S (sS 22 (Kd.slice 3 (Kd.int .i64))) 37 w' w.heap.size (o2 v1_ v3_) v2_ ac ∧ Kd.R (Kd.int .i64) 3 w' w.heap.size (o1 v1_) v3_ aa ∧ Below w.heap.size w w' := by
 have hu27 := Try.underlying27; have hu25 := Try.underlying25; have R01 := A_ aE; have R02 := A_ aG; have R03 := A_ aH; have C01 := A_ aA; have C02 := A_ aC; have C03 := A_ aD; have L2 := A_ hl; have E1 := A_ h1; have E2 := A_ h2; have E3 := A_ h3; clear aE aG aH aA aC aD hl h1 h2 h3; have HB := A_ (Below.refl w.heap.size w); go_enter Try.func6, Try.ntmps6
 go_wp2_with (first | ((with_reducible refine gate_dst (N := 1) rfl ?_); refine box_event rfl (N := 1) rfl (cs := #[.int .i64 ah, .slice al ab.length ao, .slice am ac.length ap, .slice an aa.length aq]) (t := 25) (by go_simp; done) ?_; intro gA hg w1 hbox hb; have BA := A_ hbox; have qA := hq4' BA.o; have GA := A_ ((by rw [hg]; exact HB.o.size : w.heap.size ≤ gA)); skip; replace HB := ks_ HB hb; clear hb hbox hg) | ((with_reducible refine gate_dst (N := 2) rfl ?_); refine box_event rfl (N := 2) rfl (cs := #[.int .i64 0, .slice none 0 0, .slice none 0 0, .slice none 0 0]) (t := 27) (by go_simp; done) ?_; intro gC hg w2 hbox hb; have BC := A_ hbox; have qC := hq4' BC.o; have GC := A_ ((by rw [hg]; exact HB.o.size : w.heap.size ≤ gC)); have NAC := A_ ((by rw [hg]; exact Nat.ne_of_lt (blk_lt BA.o) : gA ≠ gC)); clear qA; replace BA := kc_ BA hb; have qA := hq4' BA.o; replace HB := ks_ HB hb; clear hb hbox hg) | ((with_reducible refine gate_dst (N := 3) rfl ?_); refine box_event rfl (N := 3) rfl (cs := #[.int .i64 0, .slice none 0 0, .slice none 0 0, .slice none 0 0]) (t := 27) (by go_simp; done) ?_; intro gX hg w3 hbox hb; have BX := A_ hbox; have qX := hq4' BX.o; have GX := A_ ((by rw [hg]; exact HB.o.size : w.heap.size ≤ gX)); have NAX := A_ ((by rw [hg]; exact Nat.ne_of_lt (blk_lt BA.o) : gA ≠ gX)); have NCX := A_ ((by rw [hg]; exact Nat.ne_of_lt (blk_lt BC.o) : gC ≠ gX)); clear qA qC; replace BA := kc_ BA hb; have qA := hq4' BA.o; replace BC := kc_ BC hb; have qC := hq4' BC.o; replace HB := ks_ HB hb; clear hb hbox hg; have n1 := NAX.o; have n2 := NCX.o; have n3 := Ne.symm n1; have n4 := Ne.symm n2) | (go_at_call 14; (with_reducible refine (laws_toIntS.calls k _ _ ab ab _ (Kd.C_below R01.o (below_set HB.o GX.o)) C01.o E1.o).mono ?_); rintro e w4 ⟨v1, rfl, ho, hb⟩; obtain ⟨A7, c7, e_⟩ := Kd.R_slice ho; subst e_; have V1 := A_ (Kd.R_lower (Kd.R_tight rfl ho) (below_size (below_set HB.o GX.o))); have N1 := A_ (fun k (h : (Value.slice A7 ab.length c7).ownBlock = some k) => (Kd.R_lt V1.o k h : k < w4.heap.size)); clear qA qC qX; replace BA := A_ (blk_below (blk_far (p := ⟨gX, 0, none⟩) BA.o NAX.o _) hb); replace BC := A_ (blk_below (blk_far (p := ⟨gX, 0, none⟩) BC.o NCX.o _) hb); replace BX := A_ (blk_below (blk_put BX.o 0 _ rfl) hb); replace HB := A_ (below_step (below_set HB.o GX.o) hb); have qA := hq4' BA.o; have qC := hq4' BC.o; have qX := hq4' BX.o; clear hb ho) | (go_at_call 15; (with_reducible refine (toS3 k _ _ ac _ (Kd.C_below R02.o (below_set HB.o GX.o)) C02.o L2.o E2.o).mono ?_); rintro e w5 ⟨v2, rfl, ho, hb⟩; obtain ⟨Am, cm, e_⟩ := Kd.S_slice ho; subst e_; have HW := A_ (Nat.le_trans (Nat.le_of_eq (by simp [World.setCell])) hb.size : w4.heap.size ≤ w5.heap.size); have V2 := A_ (Kd.S_lower (Kd.S_mono (Kd.S_bound ho) (fun _ hk => (⟨Nat.le_trans (Nat.le_of_eq (by simp [World.setCell])) hk.2.1, hk.2.2.1⟩ : w4.heap.size ≤ _ ∧ _ < w5.heap.size))) (below_size (below_set HB.o GX.o))); clear qA qC qX; replace BA := A_ (blk_below (blk_far (p := ⟨gX, 1, none⟩) BA.o NAX.o _) hb); replace BC := A_ (blk_below (blk_far (p := ⟨gX, 1, none⟩) BC.o NCX.o _) hb); replace V1 := A_ (Kd.R_below (Kd.R_set V1.o BX.o (by decide) 1 _) hb); replace BX := A_ (blk_below (blk_put BX.o 1 _ rfl) hb); replace HB := A_ (below_step (below_set HB.o GX.o) hb); have qA := hq4' BA.o; have qC := hq4' BC.o; have qX := hq4' BX.o; clear hb ho) | (go_at_call 14; (with_reducible refine (laws_toIntS.calls k _ _ aa aa _ (Kd.C_below R03.o (below_set HB.o GX.o)) C03.o E3.o).mono ?_); rintro e w6 ⟨v3, rfl, ho, hb⟩; obtain ⟨A8, c8, e_⟩ := Kd.R_slice ho; subst e_; have V3 := A_ (Kd.R_lower (Kd.R_tight rfl ho) (below_size (below_set HB.o GX.o))); have N3 := A_ (fun k (h : (Value.slice A8 aa.length c8).ownBlock = some k) => (Nat.le_trans (Nat.le_of_eq (by simp [World.setCell])) (Kd.R_base ho k h) : w5.heap.size ≤ k)); clear qA qC qX; replace BA := A_ (blk_below (blk_far (p := ⟨gX, 2, none⟩) BA.o NAX.o _) hb); replace BC := A_ (blk_below (blk_far (p := ⟨gX, 2, none⟩) BC.o NCX.o _) hb); replace V1 := A_ (Kd.R_below (Kd.R_set V1.o BX.o (by decide) 2 _) hb); replace V2 := A_ (Kd.S_below (Kd.S_set V2.o BX.o (by decide) 2 _) hb); replace BX := A_ (blk_below (blk_put BX.o 2 _ rfl) hb); replace HB := A_ (below_step (below_set HB.o GX.o) hb); have qA := hq4' BA.o; have qC := hq4' BC.o; have qX := hq4' BX.o; clear hb ho))
 refine bodyPost_ret (results_cell_row rfl _ _ gC 27 #[.int .i64 ah, .slice A7 ab.length c7, .slice Am ac.length cm, .slice A8 aa.length c8] (0, 0) _ rfl (by exact blk_put (blk_put (blk_put (blk_put (blk_far (p := ⟨gX, 3, none⟩) BC.o NCX.o _) 0 _ rfl) 1 _ rfl) 2 _ rfl) 3 _ rfl) Try.underlying27 rfl (by kernel_rfl)) rfl ?_; have HX := blk_far (p := ⟨gX, 3, none⟩) BC.o NCX.o (.slice A8 aa.length c8)
 have fin : ∀ k, k ≠ gX → k ≠ gC → _ := fun k h1 h2 => (far4 (W := w6.setCell ⟨gX, 3, none⟩ (.slice A8 aa.length c8)) (.int .i64 ah) (.slice A7 ab.length c7) (.slice Am ac.length cm) (.slice A8 aa.length c8) k h2).trans (Below.heap_setCell _ _ _ _ h1)
 refine ⟨_, _, _, rfl, Kd.R_mono (Kd.R_move (Kd.R_types (Kd.R_types V1.o BX.o (by decide)) BC.o (by decide)) (fun k hk => fin k hk.1.2 hk.2)) (fun k hk h3 => ?_), Kd.S_mono (Kd.S_move (Kd.S_types (Kd.S_types V2.o BX.o (by decide)) BC.o (by decide)) (fun k hk => fin k hk.1.2 hk.2)) (fun k hk => ⟨fun h3 => ?_, fun h3 => ?_⟩), Kd.R_mono (Kd.R_move (Kd.R_types (Kd.R_types V3.o BX.o (by decide)) BC.o (by decide)) (fun k hk => fin k hk.1.2 hk.2)) (fun k hk h3 => ?_), ?_⟩
 · have h4 := N1.o k hk.1.1.symm
   have h5 := N3.o k h3.symm
   have := HW.o
   omega
 · have h4 := N1.o k h3.symm
   have := hk.1.1.1
   omega
 · have h5 := N3.o k h3.symm
   have := hk.1.1.2
   omega
 · have h4 := N1.o k h3.symm
   have h5 := N3.o k hk.1.1.symm
   have := HW.o
   omega
 · exact below_set (below_set (below_set (below_set (below_set HB.o GX.o) GC.o) GC.o) GC.o) GC.o
def mks1 (m : Int) : Nat → List Int
 | 0 => []
 | n + 1 => m :: mks1 (m + 1) n
def mks2 (m : Int) : List (List Int) → List (List Int)
 | [] => []
 | x :: xs => mks1 m x.length :: mks2 (m + (x.length : Int)) xs
def mtot2 (m : Int) : List (List Int) → Int
 | [] => m
 | x :: xs => mtot2 (m + (x.length : Int)) xs
def mks3 (m : Int) : List (List (List Int)) → List (List (List Int))
 | [] => []
 | x :: xs => mks2 m x :: mks3 (mtot2 m x) xs
def mtot3 (m : Int) : List (List (List Int)) → Int
 | [] => m
 | x :: xs => mtot3 (mtot2 m x) xs
def mlim1 (l : List Int) : Prop := l.length ≤ 1048576
def mlim2 (l : List (List Int)) : Prop := l.length ≤ 1048576 ∧ ∀ r ∈ l, mlim1 r
def mlim3 (l : List (List (List Int))) : Prop := l.length ≤ 1048576 ∧ ∀ r ∈ l, mlim2 r
theorem hsucc {α : Type} {g : Nat → Option α} {r : α} (h : Ev (fun k => g (k + 1)) r) : Ev g r := Ev.step (fun _ => rfl) h
theorem hpos {α : Type} {c : Prop} [Decidable c] {g f : Nat → Option α} {r : α} (hc : c) (h : Ev g r) : Ev (fun k => if c then g k else f k) r := by
 simp only [if_pos hc]; exact h
theorem hneg {α : Type} {c : Prop} [Decidable c] {g f : Nat → Option α} {r : α} (hc : ¬ c) (h : Ev f r) : Ev (fun k => if c then g k else f k) r := by
 simp only [if_neg hc]; exact h
theorem hsome {α : Type} {r r' : α} (h : r = r') : Ev (fun _ => some r) r' := by subst h; exact Ev.now r
theorem hw1 {i : Int} (h0 : 0 ≤ i) (h1 : i ≤ 4611686018427387904) : wrap64 (i + 1) = i + 1 := by unfold wrap64; omega
theorem hlen (n : Nat) : ∀ m, (mks1 m n).length = n := by
 induction n with
 | zero => intro m; rfl
 | succ n ih => intro m; simp [mks1, ih]
theorem hget (n : Nat) : ∀ (m : Int) (i : Nat), i < n → (mks1 m n)[i]? = some (m + i) := by
 induction n with
 | zero => intro m i h; omega
 | succ n ih =>
  intro m i h
  cases i with
  | zero => simp [mks1]
  | succ i => simp only [mks1, List.getElem?_cons_succ]; rw [ih (m + 1) i (by omega)]; congr 1; omega
theorem hmark_l0 (n : Nat) (m : Int) (h0 : 0 ≤ m) (hm : m + n ≤ 4611686018427387904) (d : Nat) : ∀ (i : Nat) (x : List Int), x.length = n → i + d = n → (∀ j, j < i → x[j]? = some (m + j)) →
  Ev (fun k => laws_markIntS.l0 k x (m + i) (i : Int)) (m + n, mks1 m n) := by
 induction d with
 | zero =>
  intro i x hx hi hj; refine hsucc ?_; simp only [laws_markIntS.l0]; refine hneg (by omega) (hsome ?_)
  have : i = n := by omega
  subst this
  congr 1
  apply List.ext_getElem?
  intro j
  by_cases h : j < i
  · rw [hj j h, hget i m j h]
  · rw [List.getElem?_eq_none (by omega), List.getElem?_eq_none (by rw [hlen]; omega)]
 | succ d ih =>
  intro i x hx hi hj; refine hsucc ?_; simp only [laws_markIntS.l0, hw1 (show (0 : Int) ≤ (i : Int) by omega) (by omega), hw1 (show (0 : Int) ≤ m + (i : Int) by omega) (by omega)]; refine hpos (by omega) (hpos (by omega) ?_)
  have := ih (i + 1) (x.set i (m + i)) (by simp [hx]) (by omega) (by
   intro j hj'; rw [List.getElem?_set]
   by_cases e : i = j
   · subst e
     rw [if_pos rfl, if_pos (by omega)]
   · rw [if_neg e]; exact hj j (by omega))
  rw [Int.toNat_natCast, Int.add_assoc]; exact this
theorem hmark_ev (l : List Int) (m : Int) (h0 : 0 ≤ m) (hm : m + l.length ≤ 4611686018427387904) : ∃ k, laws_markIntS.f k l m = some (m + l.length, mks1 m l.length) := by
 have h : Ev (fun k => laws_markIntS.f k l m) (m + l.length, mks1 m l.length) := by
  simp only [laws_markIntS.f]
  have := hmark_l0 l.length m h0 hm l.length 0 l rfl (by omega) (by intro j hj; omega)
  simpa using this
 obtain ⟨K, hK⟩ := h; exact ⟨K, hK K (Nat.le_refl _)⟩
theorem mtot2_bd (xs : List (List Int)) : ∀ m, (∀ r ∈ xs, mlim1 r) → m ≤ mtot2 m xs ∧ mtot2 m xs ≤ m + 1048576 * (xs.length : Int) := by
 induction xs with
 | nil => intro m _; simp [mtot2]
 | cons x xs ih =>
  intro m h; have h1 := ih (m + (x.length : Int)) (fun r hr => h r (List.mem_cons_of_mem _ hr)); have h2 := h x List.mem_cons_self; unfold mlim1 at h2; simp only [mtot2, List.length_cons]
  omega
theorem mtot3_bd (xs : List (List (List Int))) : ∀ m, (∀ r ∈ xs, mlim2 r) → m ≤ mtot3 m xs ∧ mtot3 m xs ≤ m + 1099511627776 * (xs.length : Int) := by
 induction xs with
 | nil => intro m _; simp [mtot3]
 | cons x xs ih =>
  intro m h; have h1 := ih (mtot2 m x) (fun r hr => h r (List.mem_cons_of_mem _ hr)); have h2 := h x List.mem_cons_self; have h3 := mtot2_bd x m h2.2; have h4 := h2.1; simp only [mtot3, List.length_cons]
  omega
theorem mkS (m : Int) (w0 w : World) (ok : Nat → Prop) (v : Value) (x : List Int) (hB : Below w0.heap.size w0 w) (hR : Kd.R (Kd.int .i64) 3 w w0.heap.size ok v x) (h0 : 0 ≤ m) (hm : m ≤ 4611686018426339328) (hx : mlim1 x) :
  Calls Try.prog 21 #[v, .int .i64 m] w fun e w' => e = .returned (.int .i64 (m + (x.length : Int))) ∧ Kd.R (Kd.int .i64) 3 w' w0.heap.size ok v (mks1 m x.length) ∧ Below w0.heap.size w0 w' ∧ Kept w w' ok := by
 unfold mlim1 at hx; obtain ⟨K, hK⟩ := hmark_ev x m h0 (by omega); refine (laws_markIntS.calls K ok v x m _ _ w0 w hB hR hK).mono ?_; rintro e w' ⟨rfl, hr, hb, hk⟩; exact ⟨rfl, Kd.R_mono (Kd.R_tight rfl hr) (fun k hk2 => hR.1 k hk2.symm), hb, hk⟩
theorem set2 (xs : List (List Int)) : ∀ (m : Int) (i : Nat) (hi : i < xs.length), (mks2 m (xs.take i) ++ xs.drop i).set i (mks1 (mtot2 m (xs.take i)) xs[i].length) = mks2 m (xs.take (i + 1)) ++ xs.drop (i + 1) ∧ mtot2 m (xs.take (i + 1)) = mtot2 m (xs.take i) + (xs[i].length : Int) ∧ (mks2 m (xs.take i) ++ xs.drop i).getD i [] = xs[i] := by
 induction xs with
 | nil => intro m i hi; simp at hi
 | cons x xs ih =>
  intro m i hi
  cases i with
  | zero => simp [mks2, mtot2]
  | succ i =>
   have h := ih (m + (x.length : Int)) i (by simpa using hi); simp only [List.take_succ_cons, List.drop_succ_cons, mks2, mtot2, List.cons_append, mF, List.getElem_cons_succ, List.getD_cons_succ]; exact ⟨by rw [h.1], h.2.1, h.2.2⟩
theorem len2 (xs : List (List Int)) : ∀ m, (mks2 m xs).length = xs.length := by
 induction xs with
 | nil => intro m; rfl
 | cons x xs ih => intro m; simp [mks2, ih]
def MI2 (w0 w w' : World) (ok : Nat → Prop) (A : Option Addr) (cp : Nat) (xs : List (List Int)) (m : Int) (i : Nat) : Prop := Below w0.heap.size w0 w' ∧ Kd.S (Kd.slice 3 (Kd.int .i64)) 22 w' w0.heap.size ok (.slice A xs.length cp) (mks2 m (xs.take i) ++ xs.drop i) ∧ Kept w w' ok
theorem mkS2 (m : Int) (w0 w : World) (ok : Nat → Prop) (v : Value) (xs : List (List Int)) (hB : Below w0.heap.size w0 w) (hS : Kd.S (Kd.slice 3 (Kd.int .i64)) 22 w w0.heap.size ok v xs) (h0 : 0 ≤ m) (hm : m ≤ 4611681620380876800) (hx : mlim2 xs) :
  Calls Try.prog 32 #[v, .int .i64 m] w fun e w' => e = .returned (.int .i64 (mtot2 m xs)) ∧ Kd.S (Kd.slice 3 (Kd.int .i64)) 22 w' w0.heap.size ok v (mks2 m xs) ∧ Below w0.heap.size w0 w' ∧ Kept w w' ok := by
 obtain ⟨A, cp, rfl⟩ := Kd.S_slice hS; have HI := A_ (show MI2 w0 w w ok A cp xs m 0 from ⟨hB, by simpa [mks2] using hS, Kept.refl _ _⟩); have HX := A_ hx; have hxl := hx.1; clear hB hS hx; go_enter Try.func32, Try.ntmps32
 go_wp2
 go_loopg [1, 5] (xs.length + 1) (fun kq v1 v5 w' => ∃ i : Nat, v5 = .int .i64 (i : Int) ∧ v1 = .int .i64 (mtot2 m (xs.take i)) ∧ i ≤ xs.length ∧ xs.length + 1 - i ≤ kq ∧ Aside0 (MI2 w0 w w' ok A cp xs m i))
 case atStart => exact ⟨0, rfl, by simp [mtot2], by omega, by omega, HI⟩
 case round =>
  clear HI; obtain ⟨i, rfl, rfl, hi, hk, HI⟩ := hrel
  by_cases hlt : i < xs.length
  · have cn : decide ((i : Int) < (xs.length : Int)) = true := decide_eq_true (by omega)
    have p1 : (0 ≤ (i : Int)) = True := eq_true (by omega)
    have p2 : ((i : Int) < (xs.length : Int)) = True := eq_true (by omega)
    obtain ⟨hB, hS, hK⟩ := HI.o
    have hll : (mks2 m (xs.take i) ++ xs.drop i).length = xs.length := by rw [List.length_append, len2, List.length_take, List.length_drop]; omega
    have hset := set2 xs m i hlt; obtain ⟨g, cp2, hv2, hgr⟩ := Kd.S_form hS (by omega)
    injection hv2 with ea_ en_ ec_
    subst ea_; obtain ⟨oki, c, hcl, ⟨u, rfl, hM⟩, hcc, hoki, hH⟩ := Kd.S_lend hS [] (i : Int) (by omega) (by omega); rw [Int.toNat_natCast, hset.2.2] at hM
    have hci : wr.cell? ⟨g, i, none⟩ = some u := by
      have h2 := hcc 0 u rfl
      have h3 : (i : Int).toNat * ((Kd.slice 3 (Kd.int .i64))).sz + 0 = i := by rw [Int.toNat_natCast]; exact Nat.mul_one i
      rw [h3] at h2; exact h2
    have hbd := mtot2_bd (xs.take i) m (fun r hr => HX.o.2 r (List.mem_of_mem_take hr)); rw [List.length_take, Nat.min_eq_left (by omega)] at hbd; have hlx := HX.o.2 _ (List.getElem_mem hlt); obtain ⟨Au, cu, eu⟩ := Kd.R_slice hM; subst eu
    have HBK := A_ (fun (w1 : World) (hr : Kd.R (Kd.int .i64) 3 w1 w0.heap.size oki (.slice Au xs[i].length cu) (mks1 (mtot2 m (xs.take i)) xs[i].length)) (hb : Below w0.heap.size w0 w1) (hk1 : Kept wr w1 oki) =>
      (show MI2 w0 w w1 ok (some ⟨g, 0, none⟩) cp xs m (i + 1) from ⟨hb, by
        have h5 := Kd.H_back (Kd.H_step hH (fun k _ hn hlt2 => hk1.2 k hlt2 hn)) (x' := mks1 (mtot2 m (xs.take i)) xs[i].length) ⟨_, rfl, hr⟩ (fun _ h6 => h6); rw [Int.toNat_natCast, hset.1] at h5; exact h5, hK.then_ hk1 (fun k h6 => .inl (hoki k h6).1)⟩))
    have HT := A_ hset.2.1; have HB := A_ hB; have HM := A_ hM; have HL := A_ hlx; obtain ⟨ti, hti⟩ : ∃ ti, ti = mtot2 m (xs.take i) := ⟨_, rfl⟩; rw [← hti] at HBK HT hbd ⊢; have HD := A_ hbd; clear hbd; obtain ⟨xi, hxi⟩ : ∃ xi, xi = xs[i] := ⟨_, rfl⟩; rw [← hxi] at hci HBK HT HM HL; clear hB hS hK hll hset hcc hoki hH hM hlx hti hxi HI hcl ec_ en_ hgr
    go_wp2_with (first | (go_at_call 21; refine (mkS ti w0 _ oki _ xi HB.o HM.o (by have := HD.o; omega) (by have := HD.o; omega) HL.o).mono ?_; rintro e w1 ⟨rfl, hr, hb, hk1⟩; have HN := A_ (HBK.o w1 hr hb hk1); clear hr hb hk1))
    go_roundg (xs.length + 1 - (i + 1))
    case measure => omega
    case rel => exact ⟨i + 1, by go_num, by rw [HT.o], by omega, Nat.le_refl _, HN⟩
  · have cn : decide ((i : Int) < (xs.length : Int)) = false := decide_eq_false (by omega)
    have : i = xs.length := by omega
    subst this; have h7 := HI.o; rw [show MI2 w0 w wr ok A cp xs m xs.length = (Below w0.heap.size w0 wr ∧ Kd.S (Kd.slice 3 (Kd.int .i64)) 22 wr w0.heap.size ok (.slice A xs.length cp) (mks2 m (xs.take xs.length) ++ xs.drop xs.length) ∧ Kept w wr ok) from rfl, List.take_length, List.drop_length, List.append_nil] at h7; have H7 := A_ h7; rw [List.take_length]; clear HI h7
    go_wp2
    go_ret
    exact ⟨rfl, H7.o.2.1, H7.o.1, H7.o.2.2⟩
theorem set3 (xs : List (List (List Int))) : ∀ (m : Int) (i : Nat) (hi : i < xs.length), (mks3 m (xs.take i) ++ xs.drop i).set i (mks2 (mtot3 m (xs.take i)) xs[i]) = mks3 m (xs.take (i + 1)) ++ xs.drop (i + 1) ∧ mtot3 m (xs.take (i + 1)) = mtot2 (mtot3 m (xs.take i)) xs[i] ∧ (mks3 m (xs.take i) ++ xs.drop i).getD i [] = xs[i] := by
 induction xs with
 | nil => intro m i hi; simp at hi
 | cons x xs ih =>
  intro m i hi
  cases i with
  | zero => simp [mks3, mtot3]
  | succ i =>
   have h := ih (mtot2 m x) i (by simpa using hi); simp only [List.take_succ_cons, List.drop_succ_cons, mks3, mtot3, List.cons_append, mF, List.getElem_cons_succ, List.getD_cons_succ]; exact ⟨by rw [h.1], h.2.1, h.2.2⟩
theorem len3 (xs : List (List (List Int))) : ∀ m, (mks3 m xs).length = xs.length := by
 induction xs with
 | nil => intro m; rfl
 | cons x xs ih => intro m; simp [mks3, ih]
def MI3 (w0 w w' : World) (ok : Nat → Prop) (A : Option Addr) (cp : Nat) (xs : List (List (List Int))) (m : Int) (i : Nat) : Prop := Below w0.heap.size w0 w' ∧ Kd.S (sS 22 (Kd.slice 3 (Kd.int .i64))) 37 w' w0.heap.size ok (.slice A xs.length cp) (mks3 m (xs.take i) ++ xs.drop i) ∧ Kept w w' ok
theorem mkS3 (m : Int) (w0 w : World) (ok : Nat → Prop) (v : Value) (xs : List (List (List Int))) (hB : Below w0.heap.size w0 w) (hS : Kd.S (sS 22 (Kd.slice 3 (Kd.int .i64))) 37 w w0.heap.size ok v xs) (h0 : 0 ≤ m) (hm : m ≤ 3458760115774029824) (hx : mlim3 xs) :
  Calls Try.prog 22 #[v, .int .i64 m] w fun e w' => e = .returned (.int .i64 (mtot3 m xs)) ∧ Kd.S (sS 22 (Kd.slice 3 (Kd.int .i64))) 37 w' w0.heap.size ok v (mks3 m xs) ∧ Below w0.heap.size w0 w' ∧ Kept w w' ok := by
 obtain ⟨A, cp, rfl⟩ := Kd.S_slice hS; have HI := A_ (show MI3 w0 w w ok A cp xs m 0 from ⟨hB, by simpa [mks3] using hS, Kept.refl _ _⟩); have HX := A_ hx; have hxl := hx.1; clear hB hS hx; go_enter Try.func22, Try.ntmps22
 go_wp2
 go_loopg [1, 5] (xs.length + 1) (fun kq v1 v5 w' => ∃ i : Nat, v5 = .int .i64 (i : Int) ∧ v1 = .int .i64 (mtot3 m (xs.take i)) ∧ i ≤ xs.length ∧ xs.length + 1 - i ≤ kq ∧ Aside0 (MI3 w0 w w' ok A cp xs m i))
 case atStart => exact ⟨0, rfl, by simp [mtot3], by omega, by omega, HI⟩
 case round =>
  clear HI; obtain ⟨i, rfl, rfl, hi, hk, HI⟩ := hrel
  by_cases hlt : i < xs.length
  · have cn : decide ((i : Int) < (xs.length : Int)) = true := decide_eq_true (by omega)
    have p1 : (0 ≤ (i : Int)) = True := eq_true (by omega)
    have p2 : ((i : Int) < (xs.length : Int)) = True := eq_true (by omega)
    obtain ⟨hB, hS, hK⟩ := HI.o
    have hll : (mks3 m (xs.take i) ++ xs.drop i).length = xs.length := by rw [List.length_append, len3, List.length_take, List.length_drop]; omega
    have hset := set3 xs m i hlt; obtain ⟨g, cp2, hv2, hgr⟩ := Kd.S_form hS (by omega)
    injection hv2 with ea_ en_ ec_
    subst ea_; obtain ⟨oki, c, hcl, ⟨u, rfl, hM⟩, hcc, hoki, hH⟩ := Kd.S_lend hS [] (i : Int) (by omega) (by omega); rw [Int.toNat_natCast, hset.2.2] at hM
    have hci : wr.cell? ⟨g, i, none⟩ = some u := by
      have h2 := hcc 0 u rfl
      have h3 : (i : Int).toNat * ((sS 22 (Kd.slice 3 (Kd.int .i64)))).sz + 0 = i := by rw [Int.toNat_natCast]; exact Nat.mul_one i
      rw [h3] at h2; exact h2
    have hbd := mtot3_bd (xs.take i) m (fun r hr => HX.o.2 r (List.mem_of_mem_take hr)); rw [List.length_take, Nat.min_eq_left (by omega)] at hbd; have hlx := HX.o.2 _ (List.getElem_mem hlt); obtain ⟨Au, cu, eu⟩ := Kd.S_slice hM; subst eu
    have HBK := A_ (fun (w1 : World) (hr : Kd.S (Kd.slice 3 (Kd.int .i64)) 22 w1 w0.heap.size oki (.slice Au xs[i].length cu) (mks2 (mtot3 m (xs.take i)) xs[i])) (hb : Below w0.heap.size w0 w1) (hk1 : Kept wr w1 oki) =>
      (show MI3 w0 w w1 ok (some ⟨g, 0, none⟩) cp xs m (i + 1) from ⟨hb, by
        have h5 := Kd.H_back (Kd.H_step hH (fun k _ hn hlt2 => hk1.2 k hlt2 hn)) (x' := mks2 (mtot3 m (xs.take i)) xs[i]) ⟨_, rfl, hr⟩ (fun _ h6 => h6); rw [Int.toNat_natCast, hset.1] at h5; exact h5, hK.then_ hk1 (fun k h6 => .inl (hoki k h6).1)⟩))
    have HT := A_ hset.2.1; have HB := A_ hB; have HM := A_ hM; have HL := A_ hlx; obtain ⟨ti, hti⟩ : ∃ ti, ti = mtot3 m (xs.take i) := ⟨_, rfl⟩; rw [← hti] at HBK HT hbd ⊢; have HD := A_ hbd; clear hbd; obtain ⟨xi, hxi⟩ : ∃ xi, xi = xs[i] := ⟨_, rfl⟩; rw [← hxi] at hci HBK HT HM HL; clear hB hS hK hll hset hcc hoki hH hM hlx hti hxi HI hcl ec_ en_ hgr
    go_wp2_with (first | (go_at_call 32; refine (mkS2 ti w0 _ oki _ xi HB.o HM.o (by have := HD.o; omega) (by have := HD.o; omega) HL.o).mono ?_; rintro e w1 ⟨rfl, hr, hb, hk1⟩; have HN := A_ (HBK.o w1 hr hb hk1); clear hr hb hk1))
    go_roundg (xs.length + 1 - (i + 1))
    case measure => omega
    case rel => exact ⟨i + 1, by go_num, by rw [HT.o], by omega, Nat.le_refl _, HN⟩
  · have cn : decide ((i : Int) < (xs.length : Int)) = false := decide_eq_false (by omega)
    have : i = xs.length := by omega
    subst this; have h7 := HI.o; rw [show MI3 w0 w wr ok A cp xs m xs.length = (Below w0.heap.size w0 wr ∧ Kd.S (sS 22 (Kd.slice 3 (Kd.int .i64))) 37 wr w0.heap.size ok (.slice A xs.length cp) (mks3 m (xs.take xs.length) ++ xs.drop xs.length) ∧ Kept w wr ok) from rfl, List.take_length, List.drop_length, List.append_nil] at h7; have H7 := A_ h7; rw [List.take_length]; clear HI h7
    go_wp2
    go_ret
    exact ⟨rfl, H7.o.2.1, H7.o.1, H7.o.2.2⟩

def Un (lo hi : Nat) (Wa W : World) : Prop := hi ≤ W.heap.size ∧ ∀ k, lo ≤ k → k < hi → W.heap[k]? = Wa.heap[k]?
section
variable {α : Type} {d : Kd α} {lo hi e base g : Nat} {Wa W W' : World} {Sx ok : Nat → Prop} {o : Obj} {v a b c f : Value} {xs : List α} {l : List Value} {t : TypeId}
theorem Un.rfl' (W : World) (lo : Nat) : Aside0 (Un lo W.heap.size W W) := ⟨Nat.le_refl _, fun _ _ _ => rfl⟩
theorem Un.below (h : Aside0 (Un lo hi Wa W)) (hb : Below W.heap.size W W') : Aside0 (Un lo hi Wa W') := ⟨Nat.le_trans h.out.1 hb.size, fun k h1 h2 => (hb.block k (Nat.lt_of_lt_of_le h2 h.out.1)).trans (h.out.2 k h1 h2)⟩
theorem Un.kept (h : Aside0 (Un lo hi Wa W)) (hk : Kept W W' Sx) (hs : ∀ k, lo ≤ k → k < hi → ¬ Sx k) : Aside0 (Un lo hi Wa W') := ⟨Nat.le_trans h.out.1 hk.1, fun k h1 h2 => (hk.2 k (Nat.lt_of_lt_of_le h2 h.out.1) (hs k h1 h2)).trans (h.out.2 k h1 h2)⟩
theorem Un.R (u : Aside0 (Un lo hi Wa W)) (h : Aside0 (Kd.R d e Wa base (fun k => (lo ≤ k ∧ k < hi) ∧ ok k) v xs)) : Kd.R d e W base (fun k => (lo ≤ k ∧ k < hi) ∧ ok k) v xs := Kd.R_move h.out (fun k hk => u.o.2 k hk.1.1 hk.1.2)
theorem Un.S (u : Aside0 (Un lo hi Wa W)) (h : Aside0 (Kd.S d e Wa base (fun k => (lo ≤ k ∧ k < hi) ∧ ok k) v xs)) : Kd.S d e W base (fun k => (lo ≤ k ∧ k < hi) ∧ ok k) v xs := Kd.S_move h.out (fun k hk => u.o.2 k hk.1.1 hk.1.2)
theorem bndR (h : Kd.R d e W lo ok v xs) : Aside0 (Kd.R d e W lo (fun k => (lo ≤ k ∧ k < W.heap.size) ∧ ok k) v xs) := ⟨Kd.R_mono (Kd.R_bound h) (fun _ hk => ⟨⟨hk.2.1, hk.2.2.1⟩, hk.1⟩)⟩
theorem bndS (h : Kd.S d e W lo ok v xs) : Aside0 (Kd.S d e W lo (fun k => (lo ≤ k ∧ k < W.heap.size) ∧ ok k) v xs) := ⟨Kd.S_mono (Kd.S_bound h) (fun _ hk => ⟨⟨hk.2.1, hk.2.2.1⟩, hk.1⟩)⟩
theorem kb1 (h : Aside0 (W.heap[g]? = some o)) (hb : Below W.heap.size W W') : Aside0 (W'.heap[g]? = some o) := ⟨blk_below h.out hb⟩
theorem kb2 (h : Aside0 (W.heap[g]? = some o)) (hk : Kept W W' Sx) (hs : ¬ Sx g) : Aside0 (W'.heap[g]? = some o) := ⟨blk_kept h.out hk hs⟩
theorem kb3 {w : World} (h : Aside0 (Below w.heap.size w W)) (hb : Below W.heap.size W W') : Aside0 (Below w.heap.size w W') := ⟨below_step h.out hb⟩
theorem hq3 (h : Aside0 (W.heap[g]? = some (.cells (a :: b :: c :: l).toArray t (0, 0)))) : (W.cell? ⟨g, 0, none⟩ = some a ∧ W.cell? ⟨g, 1, none⟩ = some b ∧ W.cell? ⟨g, 2, none⟩ = some c) ∧ W.frozen? ⟨g, 0, none⟩ = false ∧ W.frozen? ⟨g, 1, none⟩ = false ∧ W.frozen? ⟨g, 2, none⟩ = false :=
 ⟨(bc3 h), blk_frozen h.out 0, blk_frozen h.out 1, blk_frozen h.out 2⟩
theorem hq4 (h : Aside0 (W.heap[g]? = some (.cells (a :: b :: c :: f :: l).toArray t (0, 0)))) : (W.cell? ⟨g, 0, none⟩ = some a ∧ W.cell? ⟨g, 1, none⟩ = some b ∧ W.cell? ⟨g, 2, none⟩ = some c ∧ W.cell? ⟨g, 3, none⟩ = some f) ∧ W.frozen? ⟨g, 0, none⟩ = false ∧ W.frozen? ⟨g, 1, none⟩ = false ∧ W.frozen? ⟨g, 2, none⟩ = false ∧ W.frozen? ⟨g, 3, none⟩ = false :=
 ⟨(bc4 h), blk_frozen h.out 0, blk_frozen h.out 1, blk_frozen h.out 2, blk_frozen h.out 3⟩
theorem read1 {w : World} {A : Option Addr} {n cp : Nat} (h : Kd.R d e w base ok (.slice A n cp) xs) : d.C w A xs.length xs ∧ xs.length ≤ cp := by
 have h2 := Kd.R_reads' h; exact ⟨h2.2.2, by have := h2.1; have := h2.2.1; omega⟩
theorem read2 {w : World} {A : Option Addr} {n cp : Nat} (h : Kd.S d e w base ok (.slice A n cp) xs) : d.C w A xs.length xs ∧ xs.length ≤ cp := read1 (Kd.S_R h)
theorem readS3 {w : World} {A : Option Addr} {n cp : Nat} {ys : List (List (List Int))} (h : Kd.S (sS 22 (Kd.slice 3 (Kd.int .i64))) e w base ok (.slice A n cp) ys) : Kd.C (Kd.slice 22 (Kd.slice 3 (Kd.int .i64))) w A ys.length ys ∧ ys.length ≤ cp := read1 (sS_R h)
theorem tight1 (h : Kd.R d e W base (fun k => (lo ≤ k ∧ k < hi) ∧ ok k) v xs) (hE : d.E = []) : Kd.R d e W base (fun k => (lo ≤ k ∧ k < hi) ∧ some k = v.ownBlock) v xs := Kd.R_mono (Kd.R_tight hE h) (fun k hk => ⟨(h.1 k hk.symm).1, hk⟩)
end
theorem mkLin (m : Int) (m0 : 0 ≤ m) (m1 : m ≤ 1152921504615235584) (w0 w : World) (b : Int) (v1 v2 v3 : Value) (rw_ : List Int) (mx : List (List (List Int))) (cl : List Int) (ok1 ok2 ok3 : Nat → Prop) (hB : Below w0.heap.size w0 w) (h1 : Kd.R (Kd.int .i64) 3 w w0.heap.size ok1 v1 rw_) (h2 : Kd.S (sS 22 (Kd.slice 3 (Kd.int .i64))) 37 w w0.heap.size ok2 v2 mx) (h3 : Kd.R (Kd.int .i64) 3 w w0.heap.size ok3 v3 cl)
  (d12 : ∀ k, ok1 k → ¬ ok2 k) (d13 : ∀ k, ok1 k → ¬ ok3 k) (d23 : ∀ k, ok2 k → ¬ ok3 k) (l1 : mlim1 rw_) (l2 : mlim3 mx) (l3 : mlim1 cl) :
  Calls Try.prog 9 #[.agg #[.int .i64 b, v1, v2, v3], .int .i64 m] w fun e w' => e = .returned (.int .i64 (mtot3 (m + (rw_.length : Int)) mx + (cl.length : Int))) ∧ Kd.R (Kd.int .i64) 3 w' w0.heap.size ok1 v1 (mks1 m rw_.length) ∧ Kd.S (sS 22 (Kd.slice 3 (Kd.int .i64))) 37 w' w0.heap.size ok2 v2 (mks3 (m + (rw_.length : Int)) mx) ∧ Kd.R (Kd.int .i64) 3 w' w0.heap.size ok3 v3 (mks1 (mtot3 (m + (rw_.length : Int)) mx) cl.length) ∧ Below w0.heap.size w0 w' ∧ Kept w w' (fun k => ok1 k ∨ ok2 k ∨ ok3 k) := by
 obtain ⟨A1, c1, rfl⟩ := Kd.R_slice h1; obtain ⟨A2, c2, rfl⟩ := Kd.S_slice h2; obtain ⟨A3, c3, rfl⟩ := Kd.R_slice h3; have MM := A_ (And.intro m0 (show m ≤ 4611686018426339328 by omega)); have hbd := mtot3_bd mx (m + (rw_.length : Int)) l2.2; have HBD := A_ (show ((0 : Int) ≤ m + (rw_.length : Int) ∧ m + (rw_.length : Int) ≤ 3458760115774029824) ∧ 0 ≤ mtot3 (m + (rw_.length : Int)) mx ∧ mtot3 (m + (rw_.length : Int)) mx ≤ 4611686018426339328 by have := l2.1; unfold mlim1 at l1; omega); have HL1 := A_ l1; have HL2 := A_ l2; have HL3 := A_ l3; have D12 := A_ d12; have D13 := A_ d13; have D23 := A_ d23; have HB := A_ hB; have H1 := A_ (Kd.R_mono (Kd.R_bound h1) (fun _ hk => (⟨hk.1, hk.2.2.1⟩ : _ ∧ _ < w.heap.size))); have H2 := A_ (Kd.S_mono (Kd.S_bound h2) (fun _ hk => (⟨hk.1, hk.2.2.1⟩ : _ ∧ _ < w.heap.size))); have H3 := A_ (Kd.R_mono (Kd.R_bound h3) (fun _ hk => (⟨hk.1, hk.2.2.1⟩ : _ ∧ _ < w.heap.size))); clear m0 m1 hB h1 h2 h3 d12 d13 d23 l1 l2 l3 hbd; have hu27 := Try.underlying27; go_enter Try.func9, Try.ntmps9; obtain ⟨ta, hta⟩ : ∃ ta : Int, ta = m + (rw_.length : Int) := ⟨_, rfl⟩; rw [← hta] at HBD ⊢; have HTA := A_ hta; clear hta; obtain ⟨tb, htb⟩ : ∃ tb : Int, tb = mtot3 ta mx := ⟨_, rfl⟩; rw [← htb] at HBD ⊢; have HTB := A_ htb; clear htb
 go_wp2_with (first | ((with_reducible refine gate_dst (N := 2) rfl ?_); refine box_event rfl (N := 2) rfl (cs := #[.int .i64 b, .slice A1 rw_.length c1, .slice A2 mx.length c2, .slice A3 cl.length c3]) (t := 27) (by go_simp; done) ?_; intro gb hg wa hbox hb; have BK := A_ hbox; have hq := (hq4 BK).1; have GE := A_ (Nat.le_of_eq hg.symm); replace HB := kb3 HB hb; replace H1 := A_ (Kd.R_below H1.o hb); replace H2 := A_ (Kd.S_below H2.o hb); replace H3 := A_ (Kd.R_below H3.o hb); have HK := A_ (Kept.of_below hb (fun k => ok1 k ∨ ok2 k ∨ ok3 k)); clear hb hbox hg) | (go_at_call 21; refine (mkS m w0 _ _ _ rw_ HB.o H1.o MM.o.1 MM.o.2 HL1.o).mono ?_; rw [← HTA.o]; rintro e wb ⟨rfl, hr, hb2, hk⟩; have aV := kb2 BK hk (fun h => Nat.lt_irrefl _ (Nat.lt_of_lt_of_le h.2 GE.o)); have hq := (hq4 aV).1; have R1 := A_ hr; have S2 := A_ (Kd.S_step H2.o (fun k hk2 hlt => hk.2 k hlt (fun h => D12.o k h.1 hk2.1))); have R3 := A_ (Kd.R_step H3.o (fun k hk2 hlt => hk.2 k hlt (fun h => D13.o k h.1 hk2.1))); have aX := A_ (HK.o.then_ hk (fun k h => .inl (.inl h.1))); have HB2 := A_ hb2; clear hr hb2 hk BK H1 H2 H3) | (go_at_call 22; refine (mkS3 ta w0 _ _ _ mx HB2.o S2.o HBD.o.1.1 HBD.o.1.2 HL2.o).mono ?_; rw [← HTB.o]; rintro e wc ⟨rfl, hr, hb2, hk⟩; have aW := kb2 aV hk (fun h => Nat.lt_irrefl _ (Nat.lt_of_lt_of_le h.2 GE.o)); have hq := (hq4 aW).1; have U2 := A_ hr; have T1 := A_ (Kd.R_step R1.o (fun k hk2 hlt => hk.2 k hlt (fun h => D12.o k hk2.1 h.1))); have T3 := A_ (Kd.R_step R3.o (fun k hk2 hlt => hk.2 k hlt (fun h => D23.o k h.1 hk2.1))); have aY := A_ (aX.o.then_ hk (fun k h => .inl (.inr (.inl h.1)))); have HB3 := A_ hb2; clear hr hb2 hk aV R1 S2 R3) | (go_at_call 21; refine (mkS tb w0 _ _ _ cl HB3.o T3.o HBD.o.2.1 HBD.o.2.2 HL3.o).mono ?_; rintro e wd ⟨rfl, hr, hb2, hk⟩; have E1 := A_ (Kd.R_step T1.o (fun k hk2 hlt => hk.2 k hlt (fun h => D13.o k hk2.1 h.1))); have E2 := A_ (Kd.S_step U2.o (fun k hk2 hlt => hk.2 k hlt (fun h => D23.o k hk2.1 h.1))); have E3 := A_ hr; have HE := A_ (And.intro hb2 (aY.o.then_ hk (fun k h => .inl (.inr (.inr h.1))))); clear hr hb2 hk))
 go_ret
 exact ⟨rfl, Kd.R_mono E1.o (fun _ hk => hk.1), Kd.S_mono E2.o (fun _ hk => hk.1), Kd.R_mono E3.o (fun _ hk => hk.1), HE.o.1, HE.o.2⟩
def mlim1b (l : List Int) : Bool := decide (l.length ≤ 1048576)
def mlim2b (l : List (List Int)) : Bool := decide (l.length ≤ 1048576) && l.all mlim1b
def mlim3b (l : List (List (List Int))) : Bool := decide (l.length ≤ 1048576) && l.all mlim2b
theorem mlim1_of {l : List Int} (h : mlim1b l = true) : mlim1 l := by unfold mlim1b at h; unfold mlim1; exact of_decide_eq_true h
theorem mlim2_of {l : List (List Int)} (h : mlim2b l = true) : mlim2 l := by
 unfold mlim2b at h; rw [Bool.and_eq_true, List.all_eq_true] at h; exact ⟨of_decide_eq_true h.1, fun r hr => mlim1_of (h.2 r hr)⟩
theorem mlim3_of {l : List (List (List Int))} (h : mlim3b l = true) : mlim3 l := by
 unfold mlim3b at h; rw [Bool.and_eq_true, List.all_eq_true] at h; exact ⟨of_decide_eq_true h.1, fun r hr => mlim2_of (h.2 r hr)⟩
def LinR (W : World) (b0 lo hi : Nat) (v1 v2 v3 : Value) (r2 : List Int) (r3 : List (List (List Int))) (r4 : List Int) : Prop := hi ≤ W.heap.size ∧ Kd.R (Kd.int .i64) 3 W b0 (fun k => lo ≤ k ∧ k < hi) v1 r2 ∧ Kd.R (Kd.slice 22 (Kd.slice 3 (Kd.int .i64))) 37 W b0 (fun k => lo ≤ k ∧ k < hi) v2 r3 ∧ Kd.R (Kd.int .i64) 3 W b0 (fun k => lo ≤ k ∧ k < hi) v3 r4
def LinS (W : World) (b0 lo hi : Nat) (v1 v2 v3 : Value) (r2 : List Int) (r3 : List (List (List Int))) (r4 : List Int) : Prop := hi ≤ W.heap.size ∧ Kd.R (Kd.int .i64) 3 W b0 (fun k => (lo ≤ k ∧ k < hi) ∧ some k ≠ v3.ownBlock) v1 r2 ∧ Kd.S (sS 22 (Kd.slice 3 (Kd.int .i64))) 37 W b0 (fun k => (lo ≤ k ∧ k < hi) ∧ some k ≠ v1.ownBlock ∧ some k ≠ v3.ownBlock) v2 r3 ∧ Kd.R (Kd.int .i64) 3 W b0 (fun k => (lo ≤ k ∧ k < hi) ∧ some k ≠ v1.ownBlock) v3 r4
section
variable {W W' : World} {b0 lo hi : Nat} {v1 v2 v3 : Value} {r2 r4 : List Int} {r3 : List (List (List Int))} {Sx : Nat → Prop}
theorem LinS.r (h : LinS W b0 lo hi v1 v2 v3 r2 r3 r4) : LinR W b0 lo hi v1 v2 v3 r2 r3 r4 := ⟨h.1, Kd.R_mono h.2.1 (fun _ hk => hk.1), Kd.R_mono (sS_R h.2.2.1) (fun _ hk => hk.1), Kd.R_mono h.2.2.2 (fun _ hk => hk.1)⟩
theorem LinR.mv (h : LinR W b0 lo hi v1 v2 v3 r2 r3 r4) (hs : W.heap.size ≤ W'.heap.size) (hm : ∀ k, lo ≤ k → k < hi → W'.heap[k]? = W.heap[k]?) : LinR W' b0 lo hi v1 v2 v3 r2 r3 r4 := ⟨Nat.le_trans h.1 hs, Kd.R_move h.2.1 (fun k hk => hm k hk.1 hk.2), Kd.R_move h.2.2.1 (fun k hk => hm k hk.1 hk.2), Kd.R_move h.2.2.2 (fun k hk => hm k hk.1 hk.2)⟩
theorem LinS.mv (h : LinS W b0 lo hi v1 v2 v3 r2 r3 r4) (hs : W.heap.size ≤ W'.heap.size) (hm : ∀ k, lo ≤ k → k < hi → W'.heap[k]? = W.heap[k]?) : LinS W' b0 lo hi v1 v2 v3 r2 r3 r4 := ⟨Nat.le_trans h.1 hs, Kd.R_move h.2.1 (fun k hk => hm k hk.1.1 hk.1.2), Kd.S_move h.2.2.1 (fun k hk => hm k hk.1.1 hk.1.2), Kd.R_move h.2.2.2 (fun k hk => hm k hk.1.1 hk.1.2)⟩
theorem LinR.b (h : Aside0 (LinR W b0 lo hi v1 v2 v3 r2 r3 r4)) (hb : Below W.heap.size W W') : Aside0 (LinR W' b0 lo hi v1 v2 v3 r2 r3 r4) := ⟨h.out.mv hb.size (fun k _ h2 => hb.block k (Nat.lt_of_lt_of_le h2 h.out.1))⟩
theorem LinS.b (h : Aside0 (LinS W b0 lo hi v1 v2 v3 r2 r3 r4)) (hb : Below W.heap.size W W') : Aside0 (LinS W' b0 lo hi v1 v2 v3 r2 r3 r4) := ⟨h.out.mv hb.size (fun k _ h2 => hb.block k (Nat.lt_of_lt_of_le h2 h.out.1))⟩
theorem LinR.k (h : Aside0 (LinR W b0 lo hi v1 v2 v3 r2 r3 r4)) (hk : Kept W W' Sx) (hs : ∀ k, lo ≤ k → k < hi → ¬ Sx k) : Aside0 (LinR W' b0 lo hi v1 v2 v3 r2 r3 r4) := ⟨h.out.mv hk.1 (fun k h1 h2 => hk.2 k (Nat.lt_of_lt_of_le h2 h.out.1) (hs k h1 h2))⟩
theorem LinS.k (h : Aside0 (LinS W b0 lo hi v1 v2 v3 r2 r3 r4)) (hk : Kept W W' Sx) (hs : ∀ k, lo ≤ k → k < hi → ¬ Sx k) : Aside0 (LinS W' b0 lo hi v1 v2 v3 r2 r3 r4) := ⟨h.out.mv hk.1 (fun k h1 h2 => hk.2 k (Nat.lt_of_lt_of_le h2 h.out.1) (hs k h1 h2))⟩
theorem LinR.of (h1 : Kd.R (Kd.int .i64) 3 W lo (o1 v3) v1 r2) (h2 : Kd.R (Kd.slice 22 (Kd.slice 3 (Kd.int .i64))) 37 W lo (o2 v1 v3) v2 r3) (h3 : Kd.R (Kd.int .i64) 3 W lo (o1 v1) v3 r4) (hb : b0 ≤ lo) : LinR W b0 lo W.heap.size v1 v2 v3 r2 r3 r4 :=
 ⟨Nat.le_refl _, Kd.R_lower (Kd.R_mono (Kd.R_bound h1) (fun _ hk => ⟨hk.2.1, hk.2.2.1⟩)) hb, Kd.R_lower (Kd.R_mono (Kd.R_bound h2) (fun _ hk => ⟨hk.2.1, hk.2.2.1⟩)) hb, Kd.R_lower (Kd.R_mono (Kd.R_bound h3) (fun _ hk => ⟨hk.2.1, hk.2.2.1⟩)) hb⟩
theorem LinS.of (h1 : Kd.R (Kd.int .i64) 3 W lo (o1 v3) v1 r2) (h2 : Kd.S (sS 22 (Kd.slice 3 (Kd.int .i64))) 37 W lo (o2 v1 v3) v2 r3) (h3 : Kd.R (Kd.int .i64) 3 W lo (o1 v1) v3 r4) (hb : b0 ≤ lo) : LinS W b0 lo W.heap.size v1 v2 v3 r2 r3 r4 :=
 ⟨Nat.le_refl _, Kd.R_lower (Kd.R_mono (Kd.R_bound h1) (fun _ hk => ⟨⟨hk.2.1, hk.2.2.1⟩, hk.1⟩)) hb, Kd.S_lower (Kd.S_mono (Kd.S_bound h2) (fun _ hk => ⟨⟨hk.2.1, hk.2.2.1⟩, hk.1⟩)) hb, Kd.R_lower (Kd.R_mono (Kd.R_bound h3) (fun _ hk => ⟨⟨hk.2.1, hk.2.2.1⟩, hk.1⟩)) hb⟩
end
theorem LinR.c1 {W : World} {b0 lo hi n2 n3 n4 c1 c2 c3 : Nat} {A1 A2 A3 : Option Addr} {r2 r4 : List Int} {r3 : List (List (List Int))} (h : LinR W b0 lo hi (.slice A1 n2 c1) (.slice A2 n3 c2) (.slice A3 n4 c3) r2 r3 r4) : Kd.C (Kd.int .i64) W A1 r2.length r2 := (rd_ h.2.1).1
theorem LinR.c2 {W : World} {b0 lo hi n2 n3 n4 c1 c2 c3 : Nat} {A1 A2 A3 : Option Addr} {r2 r4 : List Int} {r3 : List (List (List Int))} (h : LinR W b0 lo hi (.slice A1 n2 c1) (.slice A2 n3 c2) (.slice A3 n4 c3) r2 r3 r4) : Kd.C (Kd.slice 22 (Kd.slice 3 (Kd.int .i64))) W A2 r3.length r3 := (rd_ h.2.2.1).1
theorem LinR.c3 {W : World} {b0 lo hi n2 n3 n4 c1 c2 c3 : Nat} {A1 A2 A3 : Option Addr} {r2 r4 : List Int} {r3 : List (List (List Int))} (h : LinR W b0 lo hi (.slice A1 n2 c1) (.slice A2 n3 c2) (.slice A3 n4 c3) r2 r3 r4) : Kd.C (Kd.int .i64) W A3 r4.length r4 := (rd_ h.2.2.2).1
theorem LinR.l1 {W : World} {b0 lo hi n2 n3 n4 c1 c2 c3 : Nat} {A1 A2 A3 : Option Addr} {r2 r4 : List Int} {r3 : List (List (List Int))} (h : LinR W b0 lo hi (.slice A1 n2 c1) (.slice A2 n3 c2) (.slice A3 n4 c3) r2 r3 r4) : r2.length ≤ c1 := (rd_ h.2.1).2
theorem LinR.l2 {W : World} {b0 lo hi n2 n3 n4 c1 c2 c3 : Nat} {A1 A2 A3 : Option Addr} {r2 r4 : List Int} {r3 : List (List (List Int))} (h : LinR W b0 lo hi (.slice A1 n2 c1) (.slice A2 n3 c2) (.slice A3 n4 c3) r2 r3 r4) : r3.length ≤ c2 := (rd_ h.2.2.1).2
theorem LinR.l3 {W : World} {b0 lo hi n2 n3 n4 c1 c2 c3 : Nat} {A1 A2 A3 : Option Addr} {r2 r4 : List Int} {r3 : List (List (List Int))} (h : LinR W b0 lo hi (.slice A1 n2 c1) (.slice A2 n3 c2) (.slice A3 n4 c3) r2 r3 r4) : r4.length ≤ c3 := (rd_ h.2.2.2).2
theorem LinS.marked {w W : World} {lo hi : Nat} {v1 v2 v3 : Value} {r2 r4 : List Int} {r3 : List (List (List Int))} (b : Int) (m : Int) (m0 : 0 ≤ m) (m1 : m ≤ 1152921504615235584) (h : LinS W w.heap.size lo hi v1 v2 v3 r2 r3 r4) (hB : Below w.heap.size w W) (l1 : mlim1 r2) (l2 : mlim3 r3) (l3 : mlim1 r4) :
  Calls Try.prog 9 #[.agg #[.int .i64 b, v1, v2, v3], .int .i64 m] W fun e w' => e = .returned (.int .i64 (mtot3 (m + (r2.length : Int)) r3 + (r4.length : Int))) ∧ LinS w' w.heap.size lo hi v1 v2 v3 (mks1 m r2.length) (mks3 (m + (r2.length : Int)) r3) (mks1 (mtot3 (m + (r2.length : Int)) r3) r4.length) ∧ Below w.heap.size w w' ∧ Kept W w' (fun k => lo ≤ k ∧ k < hi) := by
 have g1 := Kd.R_mono (Kd.R_tight rfl h.2.1) (ok' := fun k => ((lo ≤ k ∧ k < hi) ∧ some k ≠ v3.ownBlock) ∧ some k = v1.ownBlock) (fun k hk => ⟨h.2.1.1 k hk.symm, hk⟩); have g3 := Kd.R_mono (Kd.R_tight rfl h.2.2.2) (ok' := fun k => ((lo ≤ k ∧ k < hi) ∧ some k ≠ v1.ownBlock) ∧ some k = v3.ownBlock) (fun k hk => ⟨h.2.2.2.1 k hk.symm, hk⟩); refine (mkLin m m0 m1 w W b v1 v2 v3 r2 r3 r4 _ _ _ hB g1 h.2.2.1 g3 (fun k a c => c.2.1 a.2) (fun k a c => c.1.2 a.2) (fun k a c => a.2.2 c.2) l1 l2 l3).mono ?_; rintro e w' ⟨rfl, e1, e2, e3, hb, hk⟩; exact ⟨rfl, ⟨Nat.le_trans h.1 hk.1, Kd.R_mono e1 (fun _ hk => hk.1), e2, Kd.R_mono e3 (fun _ hk => hk.1)⟩, hb, hk.mono (fun k hk => by rcases hk with h4 | h4 | h4; exact h4.1.1; exact h4.1; exact h4.1.1)⟩
section
variable {W W' : World} {b0 lo lo' hi g : Nat} {v1 v2 v3 : Value} {r2 r4 : List Int} {r3 : List (List (List Int))}
theorem LinR.low (h : LinR W b0 lo hi v1 v2 v3 r2 r3 r4) (hl : lo' ≤ lo) : LinR W b0 lo' hi v1 v2 v3 r2 r3 r4 := ⟨h.1, Kd.R_mono h.2.1 (fun _ hk => ⟨Nat.le_trans hl hk.1, hk.2⟩), Kd.R_mono h.2.2.1 (fun _ hk => ⟨Nat.le_trans hl hk.1, hk.2⟩), Kd.R_mono h.2.2.2 (fun _ hk => ⟨Nat.le_trans hl hk.1, hk.2⟩)⟩
theorem LinR.up {hi' : Nat} (h : LinR W b0 lo hi v1 v2 v3 r2 r3 r4) (hl : hi ≤ hi') (hw : hi' ≤ W.heap.size) : LinR W b0 lo hi' v1 v2 v3 r2 r3 r4 := ⟨hw, Kd.R_mono h.2.1 (fun _ hk => ⟨hk.1, Nat.lt_of_lt_of_le hk.2 hl⟩), Kd.R_mono h.2.2.1 (fun _ hk => ⟨hk.1, Nat.lt_of_lt_of_le hk.2 hl⟩), Kd.R_mono h.2.2.2 (fun _ hk => ⟨hk.1, Nat.lt_of_lt_of_le hk.2 hl⟩)⟩
theorem LinR.set4 {cells : Array Value} (h : LinR W b0 lo hi v1 v2 v3 r2 r3 r4) (hb : W.heap[g]? = some (.cells cells 27 (0, 0))) (a b c d : Value) : LinR ((((W.setCell ⟨g, 0, none⟩ a).setCell ⟨g, 1, none⟩ b).setCell ⟨g, 2, none⟩ c).setCell ⟨g, 3, none⟩ d) b0 lo hi v1 v2 v3 r2 r3 r4 :=
 ⟨Nat.le_trans h.1 (Nat.le_of_eq (by simp [World.setCell])), Kd.R_mono (Kd.R_move (Kd.R_types h.2.1 hb (by decide)) (fun k hk => far4 a b c d k hk.2)) (fun _ hk => hk.1), Kd.R_mono (Kd.R_move (Kd.R_types h.2.2.1 hb (by decide)) (fun k hk => far4 a b c d k hk.2)) (fun _ hk => hk.1), Kd.R_mono (Kd.R_move (Kd.R_types h.2.2.2 hb (by decide)) (fun k hk => far4 a b c d k hk.2)) (fun _ hk => hk.1)⟩
theorem LinR.s (h : Aside0 (LinR W b0 lo hi v1 v2 v3 r2 r3 r4)) (hz : W'.heap.size = W.heap.size) (hf : ∀ k, k ≠ g → W'.heap[k]? = W.heap[k]?) (hg : hi ≤ g ∨ g < lo) : Aside0 (LinR W' b0 lo hi v1 v2 v3 r2 r3 r4) := ⟨h.out.mv (Nat.le_of_eq hz.symm) (fun k h1 h2 => hf k (by omega))⟩
theorem LinS.s (h : Aside0 (LinS W b0 lo hi v1 v2 v3 r2 r3 r4)) (hz : W'.heap.size = W.heap.size) (hf : ∀ k, k ≠ g → W'.heap[k]? = W.heap[k]?) (hg : hi ≤ g ∨ g < lo) : Aside0 (LinS W' b0 lo hi v1 v2 v3 r2 r3 r4) := ⟨h.out.mv (Nat.le_of_eq hz.symm) (fun k h1 h2 => hf k (by omega))⟩
theorem kk_ {S : Nat → Prop} {o : Obj} (h : Aside0 (W.heap[g]? = some o)) (hk : Kept W W' S) (hs : ¬ S g) : Aside0 (W'.heap[g]? = some o) := ⟨blk_kept h.out hk hs⟩
end
def toOk (k : Nat) (l1 : List Int) (l2 : List (List (List Int))) (l3 : List Int) : Bool := decide (laws_toIntS.f k l1 = some l1) && l2.all (fun m => decide (laws_toIntSS.f k m = some m)) && decide (laws_toIntS.f k l3 = some l3)
def limOk (l1 : List Int) (l2 : List (List (List Int))) (l3 : List Int) : Bool := mlim1b l1 && mlim3b l2 && mlim1b l3
def laws_FnExactSumForms.f (k : Nat) (ah : Int) (ab : List Int) (ac : List (List (List Int))) (aa : List Int) (ai : Int) (ae : List Int) (af : List (List (List Int))) (ag : List Int) : Option Bool := (laws_szLinear.f k ah ab ac aa 1048576).bind fun z => if z < 0 then some true else (laws_szLinear.f k ai ae af ag z).bind fun y => if y < 0 then some true else (laws_toLinear.f k ah ab ac aa).bind fun s1 => (laws_toLinear.f k ai ae af ag).bind fun s2 => (spec_SumForms.f k ah ab ac aa ai ae af ag).bind fun g => (impl_SumForms.f k ah ab ac aa ai ae af ag).bind fun g2 => (laws_eqLinear.f k g.1 g.2.1 g.2.2.1 g.2.2.2.1 g.1 g.2.1 g.2.2.1 g.2.2.2.1).bind fun e1 => (laws_eqLinear.f k ah ab ac aa ah ab ac aa).bind fun ea => (laws_eqLinear.f k ai ae af ag ai ae af ag).bind fun eb => (laws_heldLinear.f k g.1 (mks1 1 g.2.1.length) (mks3 (1 + (g.2.1.length : Int)) g.2.2.1) (mks1 (mtot3 (1 + (g.2.1.length : Int)) g.2.2.1) g.2.2.2.1.length) 1).bind fun q => if s1 = (ah, ab, ac, aa) ∧ s2 = (ai, ae, af, ag) ∧ g2 = g then (if (e1 = true ∧ ea = true ∧ eb = true) ∧ q = mtot3 (1 + (g.2.1.length : Int)) g.2.2.1 + (g.2.2.2.1.length : Int) ∧ (toOk k ab ac aa = true ∧ toOk k ae af ag = true) ∧ limOk ab ac aa = true ∧ limOk ae af ag = true ∧ limOk g.2.1 g.2.2.1 g.2.2.2.1 = true then some true else none) else none
set_option maxHeartbeats 16000000 in
set_option maxRecDepth 100000 in
theorem laws_FnExactSumForms.calls (k : Nat) (ah : Int) (al : Option Addr) (ao : Nat) (ab : List Int) (am : Option Addr) (ap : Nat) (ac : List (List (List Int))) (an : Option Addr) (aq : Nat) (aa : List Int) (ai : Int) (au : Option Addr) (ax : Nat) (ae : List Int) (av : Option Addr) (ay : Nat) (af : List (List (List Int))) (aw : Option Addr) (az : Nat) (ag : List Int) (r : Bool) (w : World) (aE : Kd.C (Kd.int .i64) w al ab.length ab) (aA : ab.length ≤ ao) (aG : Kd.C (Kd.slice 22 (Kd.slice 3 (Kd.int .i64))) w am ac.length ac) (aC : ac.length ≤ ap) (aH : Kd.C (Kd.int .i64) w an aa.length aa) (aD : aa.length ≤ aq) (aN : Kd.C (Kd.int .i64) w au ae.length ae) (aI : ae.length ≤ ax) (aQ : Kd.C (Kd.slice 22 (Kd.slice 3 (Kd.int .i64))) w av af.length af) (aJ : af.length ≤ ay) (aT : Kd.C (Kd.int .i64) w aw ag.length ag) (aM : ag.length ≤ az) (h : laws_FnExactSumForms.f k ah ab ac aa ai ae af ag = some r) :
  Calls Try.prog 3 #[.agg #[.int .i64 ah, .slice al ab.length ao, .slice am ac.length ap, .slice an aa.length aq], .agg #[.int .i64 ai, .slice au ae.length ax, .slice av af.length ay, .slice aw ag.length az]] w fun e w' => e = .returned (.bool r) ∧ Below w.heap.size w w' := by
 have hu25 := Try.underlying25; have hu27 := Try.underlying27; have R01 := A_ aE; have C01 := A_ aA; have R02 := A_ aG; have C02 := A_ aC; have R03 := A_ aH; have C03 := A_ aD; have R11 := A_ aN; have C11 := A_ aI; have R12 := A_ aQ; have C12 := A_ aJ; have R13 := A_ aT; have C13 := A_ aM; clear aE aA aG aC aH aD aN aI aQ aJ aT aM; have HB := A_ (Below.refl w.heap.size w); unfold laws_FnExactSumForms.f at h; replace h := Option.bind_eq_some_iff.mp h; obtain ⟨z, hz, h⟩ := h; have AZ := A_ hz; clear hz
 by_cases cz : z < 0
 · rw [if_pos cz] at h
   have cz0 : decide (z < 0) = true := decide_eq_true cz
   clear cz; obtain rfl := Option.some.inj h; go_enter Try.func3, Try.ntmps3
   go_wp2_with (first | ((with_reducible refine gate_dst (N := 2) rfl ?_); refine box_event rfl (N := 2) rfl (cs := #[.int .i64 ah, .slice al ab.length ao, .slice am ac.length ap, .slice an aa.length aq]) (t := 25) (by go_simp; done) ?_; intro gA hg w1 hbox hb; have BA := A_ hbox; have qA := hq4' BA.o; replace HB := ks_ HB hb; clear hb hbox hg) | ((with_reducible refine gate_dst (N := 3) rfl ?_); refine box_event rfl (N := 3) rfl (cs := #[.int .i64 ai, .slice au ae.length ax, .slice av af.length ay, .slice aw ag.length az]) (t := 25) (by go_simp; done) ?_; intro gB hg w2 hbox hb; have BB := A_ hbox; have qB := hq4' BB.o; clear qA; replace BA := kc_ BA hb; have qA := hq4' BA.o; replace HB := ks_ HB hb; clear hb hbox hg) | (go_at_call 4; (with_reducible refine (laws_szLinear.calls k ah _ _ ab _ _ ac _ _ aa 1048576 z _ (Kd.C_below R01.o HB.o) C01.o (Kd.C_below R02.o HB.o) C02.o (Kd.C_below R03.o HB.o) C03.o AZ.o).mono ?_); rintro e w3 ⟨rfl, hb⟩; clear qA qB; replace BA := kc_ BA hb; have qA := hq4' BA.o; replace BB := kc_ BB hb; have qB := hq4' BB.o; replace HB := ks_ HB hb; clear hb))
   go_ret
   exact ⟨rfl, HB.o⟩
 rw [if_neg cz] at h
 have cz0 : decide (z < 0) = false := decide_eq_false cz
 clear cz; replace h := Option.bind_eq_some_iff.mp h; obtain ⟨y, hy, h⟩ := h; have AY := A_ hy; clear hy
 by_cases cy : y < 0
 · rw [if_pos cy] at h
   have cy0 : decide (y < 0) = true := decide_eq_true cy
   clear cy; obtain rfl := Option.some.inj h; go_enter Try.func3, Try.ntmps3
   go_wp2_with (first | ((with_reducible refine gate_dst (N := 2) rfl ?_); refine box_event rfl (N := 2) rfl (cs := #[.int .i64 ah, .slice al ab.length ao, .slice am ac.length ap, .slice an aa.length aq]) (t := 25) (by go_simp; done) ?_; intro gA hg w1 hbox hb; have BA := A_ hbox; have qA := hq4' BA.o; replace HB := ks_ HB hb; clear hb hbox hg) | ((with_reducible refine gate_dst (N := 3) rfl ?_); refine box_event rfl (N := 3) rfl (cs := #[.int .i64 ai, .slice au ae.length ax, .slice av af.length ay, .slice aw ag.length az]) (t := 25) (by go_simp; done) ?_; intro gB hg w2 hbox hb; have BB := A_ hbox; have qB := hq4' BB.o; clear qA; replace BA := kc_ BA hb; have qA := hq4' BA.o; replace HB := ks_ HB hb; clear hb hbox hg) | (go_at_call 4; (with_reducible refine (laws_szLinear.calls k ah _ _ ab _ _ ac _ _ aa 1048576 z _ (Kd.C_below R01.o HB.o) C01.o (Kd.C_below R02.o HB.o) C02.o (Kd.C_below R03.o HB.o) C03.o AZ.o).mono ?_); rintro e w3 ⟨rfl, hb⟩; clear qA qB; replace BA := kc_ BA hb; have qA := hq4' BA.o; replace BB := kc_ BB hb; have qB := hq4' BB.o; replace HB := ks_ HB hb; clear hb) | (go_at_call 4; (with_reducible refine (laws_szLinear.calls k ai _ _ ae _ _ af _ _ ag z y _ (Kd.C_below R11.o HB.o) C11.o (Kd.C_below R12.o HB.o) C12.o (Kd.C_below R13.o HB.o) C13.o AY.o).mono ?_); rintro e w4 ⟨rfl, hb⟩; clear qA qB; replace BA := kc_ BA hb; have qA := hq4' BA.o; replace BB := kc_ BB hb; have qB := hq4' BB.o; replace HB := ks_ HB hb; clear hb))
   go_ret
   exact ⟨rfl, HB.o⟩
 rw [if_neg cy] at h
 have cy0 : decide (y < 0) = false := decide_eq_false cy
 clear cy; replace h := Option.bind_eq_some_iff.mp h; obtain ⟨s1, hs1, h⟩ := h; replace h := Option.bind_eq_some_iff.mp h; obtain ⟨s2, hs2, h⟩ := h; replace h := Option.bind_eq_some_iff.mp h; obtain ⟨⟨t1, t2, t3, t4, t5⟩, hg, h⟩ := h; replace h := Option.bind_eq_some_iff.mp h; obtain ⟨g2, hg2, h⟩ := h; replace h := Option.bind_eq_some_iff.mp h; obtain ⟨e1, he1, h⟩ := h; replace h := Option.bind_eq_some_iff.mp h; obtain ⟨ea, hea, h⟩ := h; replace h := Option.bind_eq_some_iff.mp h; obtain ⟨eb, heb, h⟩ := h; replace h := Option.bind_eq_some_iff.mp h; obtain ⟨q, hq, h⟩ := h; dsimp only at h he1 hq; obtain ⟨tm, htm⟩ : ∃ tm : Int, tm = mtot3 (1 + (t2.length : Int)) t3 + (t4.length : Int) := ⟨_, rfl⟩; rw [← htm] at h
 split at h
 case isFalse => cases h
 case isTrue hc =>
 obtain ⟨rfl, rfl, rfl⟩ := hc
 split at h
 case isFalse => cases h
 case isTrue hc =>
 obtain ⟨⟨rfl, rfl, rfl⟩, c5, ⟨c6, c7⟩, c8, c9, c10⟩ := hc; rw [c5] at hq; clear c5; obtain rfl := Option.some.inj h; simp only [toOk, limOk, Bool.and_eq_true, List.all_eq_true, decide_eq_true_eq] at c6 c7 c8 c9 c10; have AS1 := A_ hs1; have AS2 := A_ hs2; have AG := A_ hg; have AI := A_ hg2; have AE := A_ he1; have AEA := A_ hea; have AEB := A_ heb; have AH := A_ hq; have T0 := A_ c6; have T1 := A_ c7; have M0 := A_ (⟨mlim1_of c8.1.1, mlim3_of c8.1.2, mlim1_of c8.2⟩ : mlim1 ab ∧ mlim3 ac ∧ mlim1 aa); have M1 := A_ (⟨mlim1_of c9.1.1, mlim3_of c9.1.2, mlim1_of c9.2⟩ : mlim1 ae ∧ mlim3 af ∧ mlim1 ag); have MG := A_ (⟨mlim1_of c10.1.1, mlim3_of c10.1.2, mlim1_of c10.2⟩ : mlim1 t2 ∧ mlim3 t3 ∧ mlim1 t4); have HTM := A_ htm; have D0 := A_ (show ac.length ≤ 1048576 from M0.o.2.1.1); have D1 := A_ (show af.length ≤ 1048576 from M1.o.2.1.1); clear c6 c7 c8 c9 c10; obtain ⟨ta, hta⟩ : ∃ ta : Int, ta = mtot3 (1 + (ab.length : Int)) ac + (aa.length : Int) := ⟨_, rfl⟩; obtain ⟨tb, htb⟩ : ∃ tb : Int, tb = mtot3 (ta + (ae.length : Int)) af + (ag.length : Int) := ⟨_, rfl⟩; have HTA := A_ hta; have HTB := A_ htb; have ma := mtot3_bd ac (1 + (ab.length : Int)) M0.o.2.1.2; have mb := mtot3_bd af (ta + (ae.length : Int)) M1.o.2.1.2; have mg := mtot3_bd t3 (1 + (t2.length : Int)) MG.o.2.1.2
 have x7_ : t2.length ≤ 1048576 := MG.o.1
 have x8_ : t4.length ≤ 1048576 := MG.o.2.2
 have x0_ : ab.length ≤ 1048576 := M0.o.1
 have x1_ : aa.length ≤ 1048576 := M0.o.2.2
 have x2_ : ae.length ≤ 1048576 := M1.o.1
 have x3_ : ag.length ≤ 1048576 := M1.o.2.2
 have x4_ := D0.o; have x5_ := D1.o; have x6_ := HTM.o; have BTA := A_ (show 0 ≤ ta ∧ ta ≤ 1152921504615235584 by omega)
 have ctb : decide (tb < 0) = false := decide_eq_false (by omega)
 have ctm0 : decide (tm < 0) = false := decide_eq_false (by omega)
 have ctm : (tm != tm) = false := bne_self_eq_false tm
 clear hta htb ma mb mg x0_ x1_ x2_ x3_ x4_ x5_ x6_ x7_ x8_ hs1 hs2 hg hg2 he1 hea heb hq htm h; go_enter Try.func3, Try.ntmps3
 go_upto_region 8 with (first | ((with_reducible refine gate_dst (N := 2) rfl ?_); refine box_event rfl (N := 2) rfl (cs := #[.int .i64 ah, .slice al ab.length ao, .slice am ac.length ap, .slice an aa.length aq]) (t := 25) (by go_simp; done) ?_; intro gA hg w1 hbox hb; have BA := A_ hbox; have qA := hq4' BA.o; replace HB := ks_ HB hb; clear hb hbox hg) | ((with_reducible refine gate_dst (N := 3) rfl ?_); refine box_event rfl (N := 3) rfl (cs := #[.int .i64 ai, .slice au ae.length ax, .slice av af.length ay, .slice aw ag.length az]) (t := 25) (by go_simp; done) ?_; intro gB hg w2 hbox hb; have BB := A_ hbox; have qB := hq4' BB.o; clear qA; replace BA := kc_ BA hb; have qA := hq4' BA.o; replace HB := ks_ HB hb; clear hb hbox hg) | (go_at_call 4; (with_reducible refine (laws_szLinear.calls k ah _ _ ab _ _ ac _ _ aa 1048576 z _ (Kd.C_below R01.o HB.o) C01.o (Kd.C_below R02.o HB.o) C02.o (Kd.C_below R03.o HB.o) C03.o AZ.o).mono ?_); rintro e w3 ⟨rfl, hb⟩; clear qA qB; replace BA := kc_ BA hb; have qA := hq4' BA.o; replace BB := kc_ BB hb; have qB := hq4' BB.o; replace HB := ks_ HB hb; clear hb) | (go_at_call 4; (with_reducible refine (laws_szLinear.calls k ai _ _ ae _ _ af _ _ ag z y _ (Kd.C_below R11.o HB.o) C11.o (Kd.C_below R12.o HB.o) C12.o (Kd.C_below R13.o HB.o) C13.o AY.o).mono ?_); rintro e w4 ⟨rfl, hb⟩; clear qA qB; replace BA := kc_ BA hb; have qA := hq4' BA.o; replace BB := kc_ BB hb; have qB := hq4' BB.o; replace HB := ks_ HB hb; clear hb))
 (try simp only [Act.put, mD, mE, mF])
 try go_wp2
 have hb : Below w4.heap.size w4 w4.drew := below_drew (Below.refl _ _)
 clear qA qB; replace BA := kc_ BA hb; have qA := hq4' BA.o; replace BB := kc_ BB hb; have qB := hq4' BB.o; replace HB := ks_ HB hb; clear hb qA qB; refine start_ (n := 11) (S := fun W => W.heap[gA]? = some (.cells #[.int .i64 ah, .slice al ab.length ao, .slice am ac.length ap, .slice an aa.length aq] 25 (0, 0)) ∧ W.heap[gB]? = some (.cells #[.int .i64 ai, .slice au ae.length ax, .slice av af.length ay, .slice aw ag.length az] 25 (0, 0))) (ds := []) (mk_ 11 0) (by kernel_rfl) rfl rfl ⟨BA.o, BB.o⟩ (fun aj => ?_)
 generalize w4.drew = w6 at BA BB HB aj ⊢
 refine take_ (i := 0) (N := some 28) (v := ?_) (a' := ?_) (mk_ 11 1) rfl rfl (by kernel_rfl) (fun _ _ _ h => h) (Or.inl ⟨by rfl, ?_⟩) aj ?_ ?_; rotate_left
 · rintro w' ⟨s0, s1⟩
   have q0 := hq4' s0; have q1 := hq4' s1; clear s0 s1; go_simp; with_reducible rfl
 rotate_left
 · simp only [Act.put, mD, mE, mF, i64_w, i32_w]
   rfl
 refine take_ (i := 2) (N := some 30) (v := ?_) (a' := ?_) (mk_ 11 5) rfl rfl (by kernel_rfl) (fun _ _ _ h => h) (Or.inl ⟨by rfl, ?_⟩) aj ?_ ?_; rotate_left
 · rintro w' ⟨s0, s1⟩
   have q0 := hq4' s0; have q1 := hq4' s1; clear s0 s1; go_simp; with_reducible rfl
 rotate_left
 · simp only [Act.put, mD, mE, mF, i64_w, i32_w]
   rfl
 refine any_ (fuel := 1) (mk_ 11 1023) [⟨1, some 29, [], fun vs W => ∃ hi A1 c1 A2 c2 A3 c3, vs 1 = .agg #[.int .i64 ah, .slice A1 ab.length c1, .slice A2 ac.length c2, .slice A3 aa.length c3] ∧ LinR W w.heap.size w6.heap.size hi (.slice A1 ab.length c1) (.slice A2 ac.length c2) (.slice A3 aa.length c3) ab ac aa⟩, ⟨3, some 31, [], fun vs W => ∃ hi A1 c1 A2 c2 A3 c3, vs 3 = .agg #[.int .i64 ai, .slice A1 ae.length c1, .slice A2 af.length c2, .slice A3 ag.length c3] ∧ LinR W w.heap.size w6.heap.size hi (.slice A1 ae.length c1) (.slice A2 af.length c2) (.slice A3 ag.length c3) ae af ag⟩, ⟨4, some 32, [], fun vs W => ∃ hi A1 c1 A2 c2 A3 c3, vs 4 = .tuple #[.agg #[.int .i64 t1, .slice A1 t2.length c1, .slice A2 t3.length c2, .slice A3 t4.length c3], .bool t5] ∧ LinR W w.heap.size w6.heap.size hi (.slice A1 t2.length c1) (.slice A2 t3.length c2) (.slice A3 t4.length c3) t2 t3 t4⟩, ⟨5, some 27, [4], fun vs W => vs 5 = vs 4 ∧ ∃ A1 c1 A2 c2 A3 c3, vs 5 = .tuple #[.agg #[.int .i64 t1, .slice A1 t2.length c1, .slice A2 t3.length c2, .slice A3 t4.length c3], .bool t5]⟩, ⟨6, some 33, [5], fun vs W => ∃ x, vs 5 = .tuple #[vs 6, x]⟩, ⟨7, some 34, [5], fun vs W => ∃ x, vs 5 = .tuple #[x, vs 7]⟩, ⟨8, some 6, [], fun vs W => ∃ g x y z u, vs 8 = .pointer (some ⟨g, 0, none⟩) ∧ w6.heap.size ≤ g ∧ W.heap[g]? = some (.cells #[x, y, z, u] 27 (0, 0))⟩, ⟨9, none, [6, 8], fun vs W => ∃ g x y z u, vs 8 = .pointer (some ⟨g, 0, none⟩) ∧ vs 6 = .agg #[x, y, z, u] ∧ W.heap[g]? = some (.cells #[x, y, z, u] 27 (0, 0))⟩] (by kernel_rfl) rfl (fun W W' hb s => ⟨blk_below s.1 hb, blk_below s.2 hb⟩) aj ?step ?cont
 case step =>
  refine All.cons rfl (fun vs vs' W W' hv hb ⟨hi, A1, c1, A2, c2, A3, c3, e, h⟩ => ⟨hi, A1, c1, A2, c2, A3, c3, (hv 1 (.inl rfl)).symm.trans e, (LinR.b ⟨h⟩ hb).out⟩) ?_ ?_
  · intro vs a W hS hB hn ho K hK
    have e0 : a.eval (.tmp 28) = .agg #[.int .i64 ah, .slice al ab.length ao, .slice am ac.length ap, .slice an aa.length aq] := ho 28 (by rfl)
    have hbw := below_step HB.o hB; refine goes_ Try.func6 (by kernel_rfl) rfl #[.agg #[.int .i64 ah, .slice al ab.length ao, .slice am ac.length ap, .slice an aa.length aq]] (by rfl) rfl rfl (by simp [e0]) ?_; refine (laws_toLinear.calls k ah _ _ ab _ _ ac _ _ aa ah ab ac aa _ (Kd.C_below R01.o hbw) C01.o (Kd.C_below R02.o hbw) C02.o (Kd.C_below R03.o hbw) C03.o AS1.o).mono ?_; rintro e w' ⟨v1, v2, v3, rfl, h1, h2, h3, hb⟩; obtain ⟨A1, c1, e_⟩ := Kd.R_slice h1; subst e_; obtain ⟨A2, c2, e_⟩ := Kd.R_slice h2; subst e_; obtain ⟨A3, c3, e_⟩ := Kd.R_slice h3; subst e_; exact ⟨_, rfl, hK _ _ hb ⟨_, _, _, _, _, _, _, rfl, (LinR.of h1 h2 h3 (below_size hbw)).low hB.size⟩⟩
  refine All.cons rfl (fun vs vs' W W' hv hb ⟨hi, A1, c1, A2, c2, A3, c3, e, h⟩ => ⟨hi, A1, c1, A2, c2, A3, c3, (hv 3 (.inl rfl)).symm.trans e, (LinR.b ⟨h⟩ hb).out⟩) ?_ ?_
  · intro vs a W hS hB hn ho K hK
    have e0 : a.eval (.tmp 30) = .agg #[.int .i64 ai, .slice au ae.length ax, .slice av af.length ay, .slice aw ag.length az] := ho 30 (by rfl)
    have hbw := below_step HB.o hB; refine goes_ Try.func6 (by kernel_rfl) rfl #[.agg #[.int .i64 ai, .slice au ae.length ax, .slice av af.length ay, .slice aw ag.length az]] (by rfl) rfl rfl (by simp [e0]) ?_; refine (laws_toLinear.calls k ai _ _ ae _ _ af _ _ ag ai ae af ag _ (Kd.C_below R11.o hbw) C11.o (Kd.C_below R12.o hbw) C12.o (Kd.C_below R13.o hbw) C13.o AS2.o).mono ?_; rintro e w' ⟨v1, v2, v3, rfl, h1, h2, h3, hb⟩; obtain ⟨A1, c1, e_⟩ := Kd.R_slice h1; subst e_; obtain ⟨A2, c2, e_⟩ := Kd.R_slice h2; subst e_; obtain ⟨A3, c3, e_⟩ := Kd.R_slice h3; subst e_; exact ⟨_, rfl, hK _ _ hb ⟨_, _, _, _, _, _, _, rfl, (LinR.of h1 h2 h3 (below_size hbw)).low hB.size⟩⟩
  refine All.cons rfl (fun vs vs' W W' hv hb ⟨hi, A1, c1, A2, c2, A3, c3, e, h⟩ => ⟨hi, A1, c1, A2, c2, A3, c3, (hv 4 (.inl rfl)).symm.trans e, (LinR.b ⟨h⟩ hb).out⟩) ?_ ?_
  · intro vs a W hS hB hn ho K hK
    obtain ⟨v1, hi, A1, c1, A2, c2, A3, c3, eA, hA⟩ := hn _ (.head _) (by kernel_rfl); replace v1 := v1 _ rfl; obtain ⟨v3, hi2, B1, d1, B2, d2, B3, d3, eB, hB2⟩ := hn _ (.tail _ (.head _)) (by kernel_rfl); replace v3 := v3 _ rfl; have hbw := below_step HB.o hB; refine goes_ Try.func5 (by kernel_rfl) rfl #[.agg #[.int .i64 ah, .slice A1 ab.length c1, .slice A2 ac.length c2, .slice A3 aa.length c3], .agg #[.int .i64 ai, .slice B1 ae.length d1, .slice B2 af.length d2, .slice B3 ag.length d3]] (by rfl) rfl rfl (by simp [v1, v3, eA, eB]) ?_; refine (spec_SumForms.calls k ah _ _ ab _ _ ac _ _ aa ai _ _ ae _ _ af _ _ ag t1 t2 t3 t4 t5 _ hA.c1 hA.l1 hA.c2 hA.l2 hA.c3 hA.l3 hB2.c1 hB2.l1 hB2.c2 hB2.l2 hB2.c3 hB2.l3 AG.o).mono ?_; rintro e w' ⟨v1, v2, v3, rfl, h1, h2, h3, hb⟩; obtain ⟨A1, c1, e_⟩ := Kd.R_slice h1; subst e_; obtain ⟨A2, c2, e_⟩ := Kd.R_slice h2; subst e_; obtain ⟨A3, c3, e_⟩ := Kd.R_slice h3; subst e_; exact ⟨_, rfl, hK _ _ hb ⟨_, _, _, _, _, _, _, rfl, (LinR.of h1 h2 h3 (below_size hbw)).low hB.size⟩⟩
  refine All.cons rfl (fun vs vs' W W' hv hb h => by dsimp only at h ⊢; rw [← hv 5 (.inl rfl), ← hv 4 (.inr (.head _))]; exact h) ?_ ?_
  · intro vs a W hS hB hn ho K hK
    obtain ⟨v4, hi, A1, c1, A2, c2, A3, c3, e4, -⟩ := hn _ (.tail _ (.tail _ (.head _))) (by kernel_rfl); replace v4 := ev_ (v4 _ rfl); refine event_step rfl (v := vs 4) (w1 := W) ?_ (hK _ _ (Below.refl _ _) ⟨rfl, _, _, _, _, _, _, e4⟩); clear e4; dsimp only at v4; go_simp
  refine All.cons rfl (fun vs vs' W W' hv hb ⟨x, h⟩ => ⟨x, by rw [← hv 6 (.inl rfl), ← hv 5 (.inr (.head _))]; exact h⟩) ?_ ?_
  · intro vs a W hS hB hn ho K hK
    obtain ⟨v5, -, A1, c1, A2, c2, A3, c3, e5⟩ := hn _ (.tail _ (.tail _ (.tail _ (.head _)))) (by kernel_rfl); replace v5 := v5 _ rfl; dsimp only at v5 e5; rw [e5] at v5; replace v5 := ev_ v5; refine event_step rfl (v := .agg #[.int .i64 t1, .slice A1 t2.length c1, .slice A2 t3.length c2, .slice A3 t4.length c3]) (w1 := W) ?_ (hK _ _ (Below.refl _ _) ⟨_, e5⟩); clear e5; go_simp
  refine All.cons rfl (fun vs vs' W W' hv hb ⟨x, h⟩ => ⟨x, by rw [← hv 7 (.inl rfl), ← hv 5 (.inr (.head _))]; exact h⟩) ?_ ?_
  · intro vs a W hS hB hn ho K hK
    obtain ⟨v5, -, A1, c1, A2, c2, A3, c3, e5⟩ := hn _ (.tail _ (.tail _ (.tail _ (.head _)))) (by kernel_rfl); replace v5 := v5 _ rfl; dsimp only at v5 e5; rw [e5] at v5; replace v5 := ev_ v5; refine event_step rfl (v := .bool t5) (w1 := W) ?_ (hK _ _ (Below.refl _ _) ⟨_, e5⟩); clear e5; go_simp
  refine All.cons rfl (fun vs vs' W W' hv hb ⟨g, x, y, z, u, e, h1, h2⟩ => ⟨g, x, y, z, u, (hv 8 (.inl rfl)).symm.trans e, h1, blk_below h2 hb⟩) ?_ ?_
  · intro vs a W hS hB hn ho K hK
    refine box_step rfl (N := 6) rfl (cs := #[.int .i64 0, .slice none 0 0, .slice none 0 0, .slice none 0 0]) (t := 27) (by go_simp; done) ?_; intro g hg w1 hbox hb; exact hK _ _ hb ⟨g, _, _, _, _, rfl, by rw [hg]; exact hB.size, hbox⟩
  refine All.more rfl (fun vs vs' W W' hv hb ⟨g, x, y, z, u, e, h1, h2⟩ => ⟨g, x, y, z, u, (hv 8 (.inr (.tail _ (.head _)))).symm.trans e, (hv 6 (.inr (.head _))).symm.trans h1, blk_below h2 hb⟩) (.inr ?_) All.nil; intro vs a W hS hB hn ho K hK; obtain ⟨v6, x6, e6⟩ := hn _ (.tail _ (.tail _ (.tail _ (.tail _ (.head _))))) (by kernel_rfl); replace v6 := v6 _ rfl; obtain ⟨v8, g, x, y, z, u, e8, hg, hO⟩ := hn _ (.tail _ (.tail _ (.tail _ (.tail _ (.tail _ (.tail _ (.head _))))))) (by kernel_rfl); replace v8 := v8 _ rfl; obtain ⟨-, hi, A1, c1, A2, c2, A3, c3, e4, -⟩ := hn _ (.tail _ (.tail _ (.head _))) (by kernel_rfl); obtain ⟨-, e5, -⟩ := hn _ (.tail _ (.tail _ (.tail _ (.head _)))) (by kernel_rfl); dsimp only at e4 e5 e6 v6 v8 e8; rw [e5, e4] at e6
  injection e6 with e6
  injection e6 with e6
  injection e6 with e6 e7
  rw [← e6] at v6; rw [e8] at v8; replace v6 := ev_ v6; replace v8 := ev_ v8; have qg := hq4' hO; have hg0 := Nat.le_trans HB.o.size hg
  have NgA : gA ≠ g := by have := blk_lt BA.o; omega
  have NgB : gB ≠ g := by have := blk_lt BB.o; omega
  obtain ⟨w7, hw7, hb7, hO7, hz7, hf7⟩ := box4 hO hB hg (.int .i64 t1) (.slice A1 t2.length c1) (.slice A2 t3.length c2) (.slice A3 t4.length c3); refine skip_ (w1 := w7) (by rfl) rfl ?_ ?_
  · rw [hw7]
    clear e6 e7 e5 e4 e8 hw7 hO7 hz7 hf7 hb7 hK; go_simp
  · refine hK undef w7 ⟨(hf7 gA NgA).trans hS.1, (hf7 gB NgB).trans hS.2⟩ hb7 ?_ ⟨g, _, _, _, _, e8, e6.symm, hO7⟩
    intro y hy hne hnd h; rw [hw7]; simp only [List.mem_cons, List.not_mem_nil, or_false] at hy
    rcases hy with rfl | rfl | rfl | rfl | rfl | rfl | rfl | rfl
    · obtain ⟨hi, A1, c1, A2, c2, A3, c3, e, h⟩ := h
      exact ⟨hi, A1, c1, A2, c2, A3, c3, e, h.set4 hO _ _ _ _⟩
    · obtain ⟨hi, A1, c1, A2, c2, A3, c3, e, h⟩ := h
      exact ⟨hi, A1, c1, A2, c2, A3, c3, e, h.set4 hO _ _ _ _⟩
    · obtain ⟨hi, A1, c1, A2, c2, A3, c3, e, h⟩ := h
      exact ⟨hi, A1, c1, A2, c2, A3, c3, e, h.set4 hO _ _ _ _⟩
    · exact h
    · exact h
    · exact h
    · obtain ⟨g', x', y', z', u', e, h1, h2⟩ := h
      replace e : vs 8 = _ := e; rw [e8] at e
      injection e with e
      injection e with e
      injection e with e
      subst e; exact ⟨g, _, _, _, _, e8, hg, hw7 ▸ hO7⟩
    · exact absurd rfl hne
 case cont =>
  intro vs W hS hB hx; obtain ⟨hi, A1, c1, A2, c2, A3, c3, e4, hL⟩ := hx _ (.tail _ (.tail _ (.head _))); obtain ⟨-, B1, d1, B2, d2, B3, d3, e5⟩ := hx _ (.tail _ (.tail _ (.tail _ (.head _)))); obtain ⟨x6, e6⟩ := hx _ (.tail _ (.tail _ (.tail _ (.tail _ (.head _))))); obtain ⟨x7, e7⟩ := hx _ (.tail _ (.tail _ (.tail _ (.tail _ (.tail _ (.head _)))))); obtain ⟨g6, -, -, -, -, e8, hg, -⟩ := hx _ (.tail _ (.tail _ (.tail _ (.tail _ (.tail _ (.tail _ (.head _))))))); obtain ⟨g, xa, xb, xc, xd, e9, ar, hO⟩ := hx _ (.tail _ (.tail _ (.tail _ (.tail _ (.tail _ (.tail _ (.tail _ (.head _)))))))); obtain ⟨aU, -⟩ := hx _ (.tail _ (.tail _ (.tail _ (.head _))))
  try dsimp only at e4
  try dsimp only at e5
  try dsimp only at e6
  try dsimp only at e7
  try dsimp only at e8
  try dsimp only at e9
  try dsimp only at ar
  try dsimp only at aU
  clear hx aj; rw [aU, e4] at e5 e6 e7
  injection e6 with e6
  injection e6 with e6
  injection e6 with e6 e6b
  injection e7 with e7
  injection e7 with e7
  injection e7 with e7 e7b
  injection e7b with e7b e7c
  rw [← e6] at ar
  injection ar with ar
  injection ar with ar
  injection ar with f1 ar
  injection ar with f2 ar
  injection ar with f3 ar
  injection ar with f4 ar
  subst f1; subst f2; subst f3; subst f4; rw [e8] at e9
  injection e9 with e9
  injection e9 with e9
  injection e9 with e9
  subst e9; refine norm_ (a' := ?_) ?_ ?_; rotate_left
  · simp only [puts, List.filterMap_cons, List.filterMap_nil, Option.map_some, Option.map_none, putAll, Act.put, mD, mE, mF, e8, ← e7b]
    rfl
  clear e4 e5 e6 e6b e7 e7b e7c e8 ar aU hS; refine pure_ (i := 10) (N := some 7) (v := ?_) (a' := ?_) (mk_ 11 2047) rfl rfl (by kernel_rfl) (fun _ _ _ h => h) (Or.inl ⟨by rfl, ?_⟩) ?_ ?_; rotate_left
  · intro w'
    go_simp; with_reducible rfl
  rotate_left
  · simp only [Act.put, mD, mE, mF, i64_w, i32_w]
    rfl
  refine done_ (by kernel_rfl) ?_; have NA := A_ (blk_lt BA.o); have NB := A_ (blk_lt BB.o); replace BA := kc_ BA hB; have qA := hq4' BA.o; replace BB := kc_ BB hB; have qB := hq4' BB.o; replace HB := ks_ HB hB; have B6 := A_ hO; have q6 := hq4' B6.o; have W6 := A_ (hL.up hL.1 (Nat.le_refl _)); obtain ⟨w8, ew⟩ : ∃ w8, w8 = W := ⟨_, rfl⟩; subst ew; have N6 := A_ (blk_lt hO); have N5 := A_ hg; have N4 := A_ (below_size HB.o); clear hL hB hO hg
  go_upto_region 10 with (first | (go_at_call 6; (with_reducible refine (toLinS k ah _ _ ab _ _ ac _ _ aa _ (Kd.C_below R01.o HB.o) C01.o (Kd.C_below R02.o HB.o) C02.o (Kd.C_below R03.o HB.o) C03.o D0.o T0.o.1.1 T0.o.1.2 T0.o.2).mono ?_); rintro e wa ⟨v1, v2, v3, rfl, h1, h2, h3, hb⟩; obtain ⟨X1, Xc1, e_⟩ := Kd.R_slice h1; subst e_; obtain ⟨X2, Xc2, e_⟩ := Kd.S_slice h2; subst e_; obtain ⟨X3, Xc3, e_⟩ := Kd.R_slice h3; subst e_; have FX := A_ (LinS.of (b0 := w.heap.size) h1 h2 h3 (below_size HB.o)); have SX := A_ hb.size; clear qA qB q6; replace BA := kc_ BA hb; have qA := hq4' BA.o; replace BB := kc_ BB hb; have qB := hq4' BB.o; replace B6 := kc_ B6 hb; have q6 := hq4' B6.o; replace W6 := LinR.b W6 hb; replace HB := ks_ HB hb; clear hb h1 h2 h3) | ((with_reducible refine gate_dst (N := 8) rfl ?_); refine box_event rfl (N := 8) rfl (cs := #[.int .i64 0, .slice none 0 0, .slice none 0 0, .slice none 0 0]) (t := 27) (by go_simp; done) ?_; intro g8 hg wb hbox hb; have B8 := A_ hbox; have q8 := hq4' B8.o; have E8 := A_ hg; clear qA qB q6; replace BA := kc_ BA hb; have qA := hq4' BA.o; replace BB := kc_ BB hb; have qB := hq4' BB.o; replace B6 := kc_ B6 hb; have q6 := hq4' B6.o; replace W6 := LinR.b W6 hb; replace FX := LinS.b FX hb; replace HB := ks_ HB hb; clear hb hbox hg))
  (try simp only [Act.put, mD, mE, mF])
  have N8 := A_ (blk_lt B8.o); obtain ⟨w9, hw, hb, hO, hz, hf⟩ := box4 (B := w.heap.size) B8.o HB.o (by have := NA.o; have := NB.o; have := N6.o; have := N5.o; have := N4.o; have := SX.o; have := E8.o; have := N8.o; omega) (.int .i64 ah) (.slice X1 ab.length Xc1) (.slice X2 ac.length Xc2) (.slice X3 aa.length Xc3); rw [← hw]; clear hw qA qB q6 q8; replace BA := A_ ((hf gA (by have := NA.o; have := NB.o; have := N6.o; have := N5.o; have := N4.o; have := SX.o; have := E8.o; have := N8.o; omega)).trans BA.o); have qA := hq4' BA.o; replace BB := A_ ((hf gB (by have := NA.o; have := NB.o; have := N6.o; have := N5.o; have := N4.o; have := SX.o; have := E8.o; have := N8.o; omega)).trans BB.o); have qB := hq4' BB.o; replace B6 := A_ ((hf g6 (by have := NA.o; have := NB.o; have := N6.o; have := N5.o; have := N4.o; have := SX.o; have := E8.o; have := N8.o; omega)).trans B6.o); have q6 := hq4' B6.o; replace W6 := LinR.s W6 hz hf (by have := NA.o; have := NB.o; have := N6.o; have := N5.o; have := N4.o; have := SX.o; have := E8.o; have := N8.o; omega); replace FX := LinS.s FX hz hf (by have := NA.o; have := NB.o; have := N6.o; have := N5.o; have := N4.o; have := SX.o; have := E8.o; have := N8.o; omega); replace HB := A_ hb; replace B8 := A_ hO; have q8 := hq4' B8.o; have Z8 := A_ hz; clear hb hO hz hf
  go_upto_region 11 with (first | (go_at_call 6; (with_reducible refine (toLinS k ai _ _ ae _ _ af _ _ ag _ (Kd.C_below R11.o HB.o) C11.o (Kd.C_below R12.o HB.o) C12.o (Kd.C_below R13.o HB.o) C13.o D1.o T1.o.1.1 T1.o.1.2 T1.o.2).mono ?_); rintro e wc ⟨v1, v2, v3, rfl, h1, h2, h3, hb⟩; obtain ⟨Y1, Yc1, e_⟩ := Kd.R_slice h1; subst e_; obtain ⟨Y2, Yc2, e_⟩ := Kd.S_slice h2; subst e_; obtain ⟨Y3, Yc3, e_⟩ := Kd.R_slice h3; subst e_; have FY := A_ (LinS.of (b0 := w.heap.size) h1 h2 h3 (below_size HB.o)); have SY := A_ hb.size; clear qA qB q6 q8; replace BA := kc_ BA hb; have qA := hq4' BA.o; replace BB := kc_ BB hb; have qB := hq4' BB.o; replace B6 := kc_ B6 hb; have q6 := hq4' B6.o; replace B8 := kc_ B8 hb; have q8 := hq4' B8.o; replace W6 := LinR.b W6 hb; replace FX := LinS.b FX hb; replace HB := ks_ HB hb; clear hb h1 h2 h3) | ((with_reducible refine gate_dst (N := 9) rfl ?_); refine box_event rfl (N := 9) rfl (cs := #[.int .i64 0, .slice none 0 0, .slice none 0 0, .slice none 0 0]) (t := 27) (by go_simp; done) ?_; intro g9 hg wd hbox hb; have B9 := A_ hbox; have q9 := hq4' B9.o; have E9 := A_ hg; clear qA qB q6 q8; replace BA := kc_ BA hb; have qA := hq4' BA.o; replace BB := kc_ BB hb; have qB := hq4' BB.o; replace B6 := kc_ B6 hb; have q6 := hq4' B6.o; replace B8 := kc_ B8 hb; have q8 := hq4' B8.o; replace W6 := LinR.b W6 hb; replace FX := LinS.b FX hb; replace FY := LinS.b FY hb; replace HB := ks_ HB hb; clear hb hbox hg))
  (try simp only [Act.put, mD, mE, mF])
  have N9 := A_ (blk_lt B9.o); obtain ⟨w10, hw, hb, hO, hz, hf⟩ := box4 (B := w.heap.size) B9.o HB.o (by have := NA.o; have := NB.o; have := N6.o; have := N5.o; have := N4.o; have := SX.o; have := E8.o; have := N8.o; have := Z8.o; have := SY.o; have := E9.o; have := N9.o; omega) (.int .i64 ai) (.slice Y1 ae.length Yc1) (.slice Y2 af.length Yc2) (.slice Y3 ag.length Yc3); rw [← hw]; clear hw qA qB q6 q8 q9; replace BA := A_ ((hf gA (by have := NA.o; have := NB.o; have := N6.o; have := N5.o; have := N4.o; have := SX.o; have := E8.o; have := N8.o; have := Z8.o; have := SY.o; have := E9.o; have := N9.o; omega)).trans BA.o); have qA := hq4' BA.o; replace BB := A_ ((hf gB (by have := NA.o; have := NB.o; have := N6.o; have := N5.o; have := N4.o; have := SX.o; have := E8.o; have := N8.o; have := Z8.o; have := SY.o; have := E9.o; have := N9.o; omega)).trans BB.o); have qB := hq4' BB.o; replace B6 := A_ ((hf g6 (by have := NA.o; have := NB.o; have := N6.o; have := N5.o; have := N4.o; have := SX.o; have := E8.o; have := N8.o; have := Z8.o; have := SY.o; have := E9.o; have := N9.o; omega)).trans B6.o); have q6 := hq4' B6.o; replace B8 := A_ ((hf g8 (by have := NA.o; have := NB.o; have := N6.o; have := N5.o; have := N4.o; have := SX.o; have := E8.o; have := N8.o; have := Z8.o; have := SY.o; have := E9.o; have := N9.o; omega)).trans B8.o); have q8 := hq4' B8.o; replace W6 := LinR.s W6 hz hf (by have := NA.o; have := NB.o; have := N6.o; have := N5.o; have := N4.o; have := SX.o; have := E8.o; have := N8.o; have := Z8.o; have := SY.o; have := E9.o; have := N9.o; omega); replace FX := LinS.s FX hz hf (by have := NA.o; have := NB.o; have := N6.o; have := N5.o; have := N4.o; have := SX.o; have := E8.o; have := N8.o; have := Z8.o; have := SY.o; have := E9.o; have := N9.o; omega); replace FY := LinS.s FY hz hf (by have := NA.o; have := NB.o; have := N6.o; have := N5.o; have := N4.o; have := SX.o; have := E8.o; have := N8.o; have := Z8.o; have := SY.o; have := E9.o; have := N9.o; omega); replace HB := A_ hb; replace B9 := A_ hO; have q9 := hq4' B9.o; have Z9 := A_ hz; clear hb hO hz hf
  go_upto_region 12 with (first | (go_at_call 7; (with_reducible refine (impl_SumForms.calls k ah _ _ ab _ _ ac _ _ aa ai _ _ ae _ _ af _ _ ag t1 t2 t3 t4 t5 _ FX.o.r.c1 FX.o.r.l1 FX.o.r.c2 FX.o.r.l2 FX.o.r.c3 FX.o.r.l3 FY.o.r.c1 FY.o.r.l1 FY.o.r.c2 FY.o.r.l2 FY.o.r.c3 FY.o.r.l3 AI.o).mono ?_); rintro e we ⟨v1, v2, v3, rfl, h1, h2, h3, hb⟩; obtain ⟨G1, Gc1, e_⟩ := Kd.R_slice h1; subst e_; obtain ⟨G2, Gc2, e_⟩ := Kd.S_slice h2; subst e_; obtain ⟨G3, Gc3, e_⟩ := Kd.R_slice h3; subst e_; have FG := A_ (LinS.of (b0 := w.heap.size) h1 h2 h3 (below_size HB.o)); have SG := A_ hb.size; clear qA qB q6 q8 q9; replace BA := kc_ BA hb; have qA := hq4' BA.o; replace BB := kc_ BB hb; have qB := hq4' BB.o; replace B6 := kc_ B6 hb; have q6 := hq4' B6.o; replace B8 := kc_ B8 hb; have q8 := hq4' B8.o; replace B9 := kc_ B9 hb; have q9 := hq4' B9.o; replace W6 := LinR.b W6 hb; replace FX := LinS.b FX hb; replace FY := LinS.b FY hb; replace HB := ks_ HB hb; clear hb h1 h2 h3) | ((with_reducible refine gate_dst (N := 10) rfl ?_); refine box_event rfl (N := 10) rfl (cs := #[.int .i64 0, .slice none 0 0, .slice none 0 0, .slice none 0 0]) (t := 27) (by go_simp; done) ?_; intro g10 hg wf hbox hb; have B10 := A_ hbox; have ak := hq4' B10.o; have E10 := A_ hg; clear qA qB q6 q8 q9; replace BA := kc_ BA hb; have qA := hq4' BA.o; replace BB := kc_ BB hb; have qB := hq4' BB.o; replace B6 := kc_ B6 hb; have q6 := hq4' B6.o; replace B8 := kc_ B8 hb; have q8 := hq4' B8.o; replace B9 := kc_ B9 hb; have q9 := hq4' B9.o; replace W6 := LinR.b W6 hb; replace FX := LinS.b FX hb; replace FY := LinS.b FY hb; replace FG := LinS.b FG hb; replace HB := ks_ HB hb; clear hb hbox hg))
  (try simp only [Act.put, mD, mE, mF])
  have N10 := A_ (blk_lt B10.o); obtain ⟨w11, hw, hb, hO, hz, hf⟩ := box4 (B := w.heap.size) B10.o HB.o (by have := NA.o; have := NB.o; have := N6.o; have := N5.o; have := N4.o; have := SX.o; have := E8.o; have := N8.o; have := Z8.o; have := SY.o; have := E9.o; have := N9.o; have := Z9.o; have := SG.o; have := E10.o; have := N10.o; omega) (.int .i64 t1) (.slice G1 t2.length Gc1) (.slice G2 t3.length Gc2) (.slice G3 t4.length Gc3); rw [← hw]; clear hw qA qB q6 q8 q9 ak; replace BA := A_ ((hf gA (by have := NA.o; have := NB.o; have := N6.o; have := N5.o; have := N4.o; have := SX.o; have := E8.o; have := N8.o; have := Z8.o; have := SY.o; have := E9.o; have := N9.o; have := Z9.o; have := SG.o; have := E10.o; have := N10.o; omega)).trans BA.o); have qA := hq4' BA.o; replace BB := A_ ((hf gB (by have := NA.o; have := NB.o; have := N6.o; have := N5.o; have := N4.o; have := SX.o; have := E8.o; have := N8.o; have := Z8.o; have := SY.o; have := E9.o; have := N9.o; have := Z9.o; have := SG.o; have := E10.o; have := N10.o; omega)).trans BB.o); have qB := hq4' BB.o; replace B6 := A_ ((hf g6 (by have := NA.o; have := NB.o; have := N6.o; have := N5.o; have := N4.o; have := SX.o; have := E8.o; have := N8.o; have := Z8.o; have := SY.o; have := E9.o; have := N9.o; have := Z9.o; have := SG.o; have := E10.o; have := N10.o; omega)).trans B6.o); have q6 := hq4' B6.o; replace B8 := A_ ((hf g8 (by have := NA.o; have := NB.o; have := N6.o; have := N5.o; have := N4.o; have := SX.o; have := E8.o; have := N8.o; have := Z8.o; have := SY.o; have := E9.o; have := N9.o; have := Z9.o; have := SG.o; have := E10.o; have := N10.o; omega)).trans B8.o); have q8 := hq4' B8.o; replace B9 := A_ ((hf g9 (by have := NA.o; have := NB.o; have := N6.o; have := N5.o; have := N4.o; have := SX.o; have := E8.o; have := N8.o; have := Z8.o; have := SY.o; have := E9.o; have := N9.o; have := Z9.o; have := SG.o; have := E10.o; have := N10.o; omega)).trans B9.o); have q9 := hq4' B9.o; replace W6 := LinR.s W6 hz hf (by have := NA.o; have := NB.o; have := N6.o; have := N5.o; have := N4.o; have := SX.o; have := E8.o; have := N8.o; have := Z8.o; have := SY.o; have := E9.o; have := N9.o; have := Z9.o; have := SG.o; have := E10.o; have := N10.o; omega); replace FX := LinS.s FX hz hf (by have := NA.o; have := NB.o; have := N6.o; have := N5.o; have := N4.o; have := SX.o; have := E8.o; have := N8.o; have := Z8.o; have := SY.o; have := E9.o; have := N9.o; have := Z9.o; have := SG.o; have := E10.o; have := N10.o; omega); replace FY := LinS.s FY hz hf (by have := NA.o; have := NB.o; have := N6.o; have := N5.o; have := N4.o; have := SX.o; have := E8.o; have := N8.o; have := Z8.o; have := SY.o; have := E9.o; have := N9.o; have := Z9.o; have := SG.o; have := E10.o; have := N10.o; omega); replace FG := LinS.s FG hz hf (by have := NA.o; have := NB.o; have := N6.o; have := N5.o; have := N4.o; have := SX.o; have := E8.o; have := N8.o; have := Z8.o; have := SY.o; have := E9.o; have := N9.o; have := Z9.o; have := SG.o; have := E10.o; have := N10.o; omega); replace HB := A_ hb; replace B10 := A_ hO; have ak := hq4' B10.o; have Z10 := A_ hz; clear hb hO hz hf
  have ct5 : (t5 != t5) = false := bne_self_eq_false t5
  go_upto_region 14 with (first | (go_at_call 8; (with_reducible refine (laws_eqLinear.calls k t1 _ _ t2 _ _ t3 _ _ t4 t1 _ _ t2 _ _ t3 _ _ t4 true _ FG.o.r.c1 FG.o.r.l1 FG.o.r.c2 FG.o.r.l2 FG.o.r.c3 FG.o.r.l3 W6.o.c1 W6.o.l1 W6.o.c2 W6.o.l2 W6.o.c3 W6.o.l3 AE.o).mono ?_); rintro e w12 ⟨rfl, hb⟩; clear qA qB q6 q8 q9 ak; replace BA := kc_ BA hb; have qA := hq4' BA.o; replace BB := kc_ BB hb; have qB := hq4' BB.o; replace B6 := kc_ B6 hb; have q6 := hq4' B6.o; replace B8 := kc_ B8 hb; have q8 := hq4' B8.o; replace B9 := kc_ B9 hb; have q9 := hq4' B9.o; replace B10 := kc_ B10 hb; have ak := hq4' B10.o; replace W6 := LinR.b W6 hb; replace FX := LinS.b FX hb; replace FY := LinS.b FY hb; replace FG := LinS.b FG hb; replace HB := ks_ HB hb; clear hb))
  try go_wp2
  have hb : Below w12.heap.size w12 w12.drew := below_drew (Below.refl _ _)
  clear qA qB q6 q8 q9 ak; replace BA := kc_ BA hb; have qA := hq4' BA.o; replace BB := kc_ BB hb; have qB := hq4' BB.o; replace B6 := kc_ B6 hb; have q6 := hq4' B6.o; replace B8 := kc_ B8 hb; have q8 := hq4' B8.o; replace B9 := kc_ B9 hb; have q9 := hq4' B9.o; replace B10 := kc_ B10 hb; have ak := hq4' B10.o; replace W6 := LinR.b W6 hb; replace FX := LinS.b FX hb; replace FY := LinS.b FY hb; replace FG := LinS.b FG hb; replace HB := ks_ HB hb; clear hb qA qB q6 q8 q9 ak; refine start_ (n := 5) (S := fun W => W.heap[g8]? = some (.cells #[.int .i64 ah, .slice X1 ab.length Xc1, .slice X2 ac.length Xc2, .slice X3 aa.length Xc3] 27 (0, 0)) ∧ W.heap[gA]? = some (.cells #[.int .i64 ah, .slice al ab.length ao, .slice am ac.length ap, .slice an aa.length aq] 25 (0, 0))) (ds := []) (mk_ 5 0) (by kernel_rfl) rfl rfl ⟨B8.o, BA.o⟩ (fun aj => ?_)
  generalize w12.drew = w13 at BA BB B6 B8 B9 B10 W6 FX FY FG HB aj ⊢
  refine take_ (i := 0) (N := some 54) (v := ?_) (a' := ?_) (mk_ 5 1) rfl rfl (by kernel_rfl) (fun _ _ _ h => h) (Or.inl ⟨by rfl, ?_⟩) aj ?_ ?_; rotate_left
  · rintro w' ⟨s0, s1⟩
    have q0 := hq4' s0; have q1 := hq4' s1; clear s0 s1; go_simp; with_reducible rfl
  rotate_left
  · simp only [Act.put, mD, mE, mF, i64_w, i32_w]
    rfl
  refine take_ (i := 1) (N := some 55) (v := ?_) (a' := ?_) (mk_ 5 3) rfl rfl (by kernel_rfl) (fun _ _ _ h => h) (Or.inl ⟨by rfl, ?_⟩) aj ?_ ?_; rotate_left
  · rintro w' ⟨s0, s1⟩
    have q0 := hq4' s0; have q1 := hq4' s1; clear s0 s1; go_simp; with_reducible rfl
  rotate_left
  · simp only [Act.put, mD, mE, mF, i64_w, i32_w]
    rfl
  refine one_ (i := 2) (N := some 56) (mk_ 5 7) rfl rfl (by kernel_rfl) (by decide) (fun K hK => ?_); refine goes_ Try.func6 (by kernel_rfl) rfl #[.agg #[.int .i64 ah, .slice al ab.length ao, .slice am ac.length ap, .slice an aa.length aq]] (by rfl) rfl rfl (by (try simp only [mA, mB, mC]); first | done | rfl) ?_; refine (laws_toLinear.calls k ah _ _ ab _ _ ac _ _ aa ah ab ac aa _ (Kd.C_below R01.o HB.o) C01.o (Kd.C_below R02.o HB.o) C02.o (Kd.C_below R03.o HB.o) C03.o AS1.o).mono ?_; rintro e w14 ⟨v1, v2, v3, rfl, h1, h2, h3, hb⟩; refine ⟨_, rfl, ?_⟩; obtain ⟨V1, Vc1, e_⟩ := Kd.R_slice h1; subst e_; obtain ⟨V2, Vc2, e_⟩ := Kd.R_slice h2; subst e_; obtain ⟨V3, Vc3, e_⟩ := Kd.R_slice h3; subst e_; have FV := A_ (LinR.of (b0 := w.heap.size) h1 h2 h3 (below_size HB.o)); clear h1 h2 h3; replace BA := kc_ BA hb; have qA := hq4' BA.o; replace BB := kc_ BB hb; have qB := hq4' BB.o; replace B6 := kc_ B6 hb; have q6 := hq4' B6.o; replace B8 := kc_ B8 hb; have q8 := hq4' B8.o; replace B9 := kc_ B9 hb; have q9 := hq4' B9.o; replace B10 := kc_ B10 hb; have ak := hq4' B10.o; replace W6 := LinR.b W6 hb; replace FX := LinS.b FX hb; replace FY := LinS.b FY hb; replace FG := LinS.b FG hb; replace HB := ks_ HB hb; clear aj qA qB q6 q8 q9 ak; refine hK.out _ _ ⟨B8.o, BA.o⟩ (fun aj => ?_); clear hK K; refine norm_ (a' := ?_) ?_ ?_; rotate_left
  · show Act.put _ (some 56) _ = _
    simp only [Act.put, mD, mE, mF, i64_w, i32_w]
    rfl
  clear hb; refine one_ (i := 3) (N := some 57) (mk_ 5 15) rfl rfl (by kernel_rfl) (by decide) (fun K hK => ?_); refine goes_ Try.func8 (by kernel_rfl) rfl #[.agg #[.int .i64 ah, .slice X1 ab.length Xc1, .slice X2 ac.length Xc2, .slice X3 aa.length Xc3], .agg #[.int .i64 ah, .slice V1 ab.length Vc1, .slice V2 ac.length Vc2, .slice V3 aa.length Vc3]] (by rfl) rfl rfl (by (try simp only [mA, mB, mC]); first | done | rfl) ?_; refine (laws_eqLinear.calls k ah _ _ ab _ _ ac _ _ aa ah _ _ ab _ _ ac _ _ aa true _ FX.o.r.c1 FX.o.r.l1 FX.o.r.c2 FX.o.r.l2 FX.o.r.c3 FX.o.r.l3 FV.o.c1 FV.o.l1 FV.o.c2 FV.o.l2 FV.o.c3 FV.o.l3 AEA.o).mono ?_; rintro e w15 ⟨rfl, hb⟩; refine ⟨_, rfl, ?_⟩; replace BA := kc_ BA hb; have qA := hq4' BA.o; replace BB := kc_ BB hb; have qB := hq4' BB.o; replace B6 := kc_ B6 hb; have q6 := hq4' B6.o; replace B8 := kc_ B8 hb; have q8 := hq4' B8.o; replace B9 := kc_ B9 hb; have q9 := hq4' B9.o; replace B10 := kc_ B10 hb; have ak := hq4' B10.o; replace W6 := LinR.b W6 hb; replace FX := LinS.b FX hb; replace FY := LinS.b FY hb; replace FG := LinS.b FG hb; replace HB := ks_ HB hb; clear aj qA qB q6 q8 q9 ak; refine hK.out _ _ ⟨B8.o, BA.o⟩ (fun aj => ?_); clear hK K; refine norm_ (a' := ?_) ?_ ?_; rotate_left
  · show Act.put _ (some 57) _ = _
    simp only [Act.put, mD, mE, mF, i64_w, i32_w]
    rfl
  clear hb FV; refine pure_ (i := 4) (N := some 58) (v := ?_) (a' := ?_) (mk_ 5 31) rfl rfl (by kernel_rfl) (fun _ _ _ h => h) (Or.inl ⟨by rfl, ?_⟩) ?_ ?_; rotate_left
  · intro w'
    go_simp; with_reducible rfl
  rotate_left
  · simp only [Act.put, mD, mE, mF, i64_w, i32_w]
    rfl
  refine done_ (by kernel_rfl) ?_; clear aj; have qA := hq4' BA.o; have qB := hq4' BB.o; have q6 := hq4' B6.o; have q8 := hq4' B8.o; have q9 := hq4' B9.o; have ak := hq4' B10.o
  go_upto_region 16 with (first | (go_at_call 99; skip))
  try go_wp2
  have hb : Below w15.heap.size w15 w15.drew := below_drew (Below.refl _ _)
  clear qA qB q6 q8 q9 ak; replace BA := kc_ BA hb; have qA := hq4' BA.o; replace BB := kc_ BB hb; have qB := hq4' BB.o; replace B6 := kc_ B6 hb; have q6 := hq4' B6.o; replace B8 := kc_ B8 hb; have q8 := hq4' B8.o; replace B9 := kc_ B9 hb; have q9 := hq4' B9.o; replace B10 := kc_ B10 hb; have ak := hq4' B10.o; replace W6 := LinR.b W6 hb; replace FX := LinS.b FX hb; replace FY := LinS.b FY hb; replace FG := LinS.b FG hb; replace HB := ks_ HB hb; clear hb qA qB q6 q8 q9 ak; refine start_ (n := 5) (S := fun W => W.heap[g9]? = some (.cells #[.int .i64 ai, .slice Y1 ae.length Yc1, .slice Y2 af.length Yc2, .slice Y3 ag.length Yc3] 27 (0, 0)) ∧ W.heap[gB]? = some (.cells #[.int .i64 ai, .slice au ae.length ax, .slice av af.length ay, .slice aw ag.length az] 25 (0, 0))) (ds := []) (mk_ 5 0) (by kernel_rfl) rfl rfl ⟨B9.o, BB.o⟩ (fun aj => ?_)
  generalize w15.drew = w16 at BA BB B6 B8 B9 B10 W6 FX FY FG HB aj ⊢
  refine take_ (i := 0) (N := some 59) (v := ?_) (a' := ?_) (mk_ 5 1) rfl rfl (by kernel_rfl) (fun _ _ _ h => h) (Or.inl ⟨by rfl, ?_⟩) aj ?_ ?_; rotate_left
  · rintro w' ⟨s0, s1⟩
    have q0 := hq4' s0; have q1 := hq4' s1; clear s0 s1; go_simp; with_reducible rfl
  rotate_left
  · simp only [Act.put, mD, mE, mF, i64_w, i32_w]
    rfl
  refine take_ (i := 1) (N := some 60) (v := ?_) (a' := ?_) (mk_ 5 3) rfl rfl (by kernel_rfl) (fun _ _ _ h => h) (Or.inl ⟨by rfl, ?_⟩) aj ?_ ?_; rotate_left
  · rintro w' ⟨s0, s1⟩
    have q0 := hq4' s0; have q1 := hq4' s1; clear s0 s1; go_simp; with_reducible rfl
  rotate_left
  · simp only [Act.put, mD, mE, mF, i64_w, i32_w]
    rfl
  refine one_ (i := 2) (N := some 61) (mk_ 5 7) rfl rfl (by kernel_rfl) (by decide) (fun K hK => ?_); refine goes_ Try.func6 (by kernel_rfl) rfl #[.agg #[.int .i64 ai, .slice au ae.length ax, .slice av af.length ay, .slice aw ag.length az]] (by rfl) rfl rfl (by (try simp only [mA, mB, mC]); first | done | rfl) ?_; refine (laws_toLinear.calls k ai _ _ ae _ _ af _ _ ag ai ae af ag _ (Kd.C_below R11.o HB.o) C11.o (Kd.C_below R12.o HB.o) C12.o (Kd.C_below R13.o HB.o) C13.o AS2.o).mono ?_; rintro e w17 ⟨v1, v2, v3, rfl, h1, h2, h3, hb⟩; refine ⟨_, rfl, ?_⟩; obtain ⟨V1, Vc1, e_⟩ := Kd.R_slice h1; subst e_; obtain ⟨V2, Vc2, e_⟩ := Kd.R_slice h2; subst e_; obtain ⟨V3, Vc3, e_⟩ := Kd.R_slice h3; subst e_; have FV := A_ (LinR.of (b0 := w.heap.size) h1 h2 h3 (below_size HB.o)); clear h1 h2 h3; replace BA := kc_ BA hb; have qA := hq4' BA.o; replace BB := kc_ BB hb; have qB := hq4' BB.o; replace B6 := kc_ B6 hb; have q6 := hq4' B6.o; replace B8 := kc_ B8 hb; have q8 := hq4' B8.o; replace B9 := kc_ B9 hb; have q9 := hq4' B9.o; replace B10 := kc_ B10 hb; have ak := hq4' B10.o; replace W6 := LinR.b W6 hb; replace FX := LinS.b FX hb; replace FY := LinS.b FY hb; replace FG := LinS.b FG hb; replace HB := ks_ HB hb; clear aj qA qB q6 q8 q9 ak; refine hK.out _ _ ⟨B9.o, BB.o⟩ (fun aj => ?_); clear hK K; refine norm_ (a' := ?_) ?_ ?_; rotate_left
  · show Act.put _ (some 61) _ = _
    simp only [Act.put, mD, mE, mF, i64_w, i32_w]
    rfl
  clear hb; refine one_ (i := 3) (N := some 62) (mk_ 5 15) rfl rfl (by kernel_rfl) (by decide) (fun K hK => ?_); refine goes_ Try.func8 (by kernel_rfl) rfl #[.agg #[.int .i64 ai, .slice Y1 ae.length Yc1, .slice Y2 af.length Yc2, .slice Y3 ag.length Yc3], .agg #[.int .i64 ai, .slice V1 ae.length Vc1, .slice V2 af.length Vc2, .slice V3 ag.length Vc3]] (by rfl) rfl rfl (by (try simp only [mA, mB, mC]); first | done | rfl) ?_; refine (laws_eqLinear.calls k ai _ _ ae _ _ af _ _ ag ai _ _ ae _ _ af _ _ ag true _ FY.o.r.c1 FY.o.r.l1 FY.o.r.c2 FY.o.r.l2 FY.o.r.c3 FY.o.r.l3 FV.o.c1 FV.o.l1 FV.o.c2 FV.o.l2 FV.o.c3 FV.o.l3 AEB.o).mono ?_; rintro e w18 ⟨rfl, hb⟩; refine ⟨_, rfl, ?_⟩; replace BA := kc_ BA hb; have qA := hq4' BA.o; replace BB := kc_ BB hb; have qB := hq4' BB.o; replace B6 := kc_ B6 hb; have q6 := hq4' B6.o; replace B8 := kc_ B8 hb; have q8 := hq4' B8.o; replace B9 := kc_ B9 hb; have q9 := hq4' B9.o; replace B10 := kc_ B10 hb; have ak := hq4' B10.o; replace W6 := LinR.b W6 hb; replace FX := LinS.b FX hb; replace FY := LinS.b FY hb; replace FG := LinS.b FG hb; replace HB := ks_ HB hb; clear aj qA qB q6 q8 q9 ak; refine hK.out _ _ ⟨B9.o, BB.o⟩ (fun aj => ?_); clear hK K; refine norm_ (a' := ?_) ?_ ?_; rotate_left
  · show Act.put _ (some 62) _ = _
    simp only [Act.put, mD, mE, mF, i64_w, i32_w]
    rfl
  clear hb FV; refine pure_ (i := 4) (N := some 63) (v := ?_) (a' := ?_) (mk_ 5 31) rfl rfl (by kernel_rfl) (fun _ _ _ h => h) (Or.inl ⟨by rfl, ?_⟩) ?_ ?_; rotate_left
  · intro w'
    go_simp; with_reducible rfl
  rotate_left
  · simp only [Act.put, mD, mE, mF, i64_w, i32_w]
    rfl
  refine done_ (by kernel_rfl) ?_; clear aj; have qA := hq4' BA.o; have qB := hq4' BB.o; have q6 := hq4' B6.o; have q8 := hq4' B8.o; have q9 := hq4' B9.o; have ak := hq4' B10.o
  go_upto_region 20 with (first | (go_at_call 9; (with_reducible refine (LinS.marked ah 1 (by decide) (by decide) FX.o HB.o M0.o.1 M0.o.2.1 M0.o.2.2).mono ?_); rw [← HTA.o]; rintro e w19 ⟨rfl, hF, hb, hk⟩; clear qA qB q6 q8 q9 ak; replace BA := kk_ BA hk (fun h => by have := h.1; have := h.2; have := NA.o; have := NB.o; have := N6.o; have := N5.o; have := N4.o; have := SX.o; have := E8.o; have := N8.o; have := Z8.o; have := SY.o; have := E9.o; have := N9.o; have := Z9.o; have := SG.o; have := E10.o; have := N10.o; have := Z10.o; omega); have qA := hq4' BA.o; replace BB := kk_ BB hk (fun h => by have := h.1; have := h.2; have := NA.o; have := NB.o; have := N6.o; have := N5.o; have := N4.o; have := SX.o; have := E8.o; have := N8.o; have := Z8.o; have := SY.o; have := E9.o; have := N9.o; have := Z9.o; have := SG.o; have := E10.o; have := N10.o; have := Z10.o; omega); have qB := hq4' BB.o; replace B6 := kk_ B6 hk (fun h => by have := h.1; have := h.2; have := NA.o; have := NB.o; have := N6.o; have := N5.o; have := N4.o; have := SX.o; have := E8.o; have := N8.o; have := Z8.o; have := SY.o; have := E9.o; have := N9.o; have := Z9.o; have := SG.o; have := E10.o; have := N10.o; have := Z10.o; omega); have q6 := hq4' B6.o; replace B8 := kk_ B8 hk (fun h => by have := h.1; have := h.2; have := NA.o; have := NB.o; have := N6.o; have := N5.o; have := N4.o; have := SX.o; have := E8.o; have := N8.o; have := Z8.o; have := SY.o; have := E9.o; have := N9.o; have := Z9.o; have := SG.o; have := E10.o; have := N10.o; have := Z10.o; omega); have q8 := hq4' B8.o; replace B9 := kk_ B9 hk (fun h => by have := h.1; have := h.2; have := NA.o; have := NB.o; have := N6.o; have := N5.o; have := N4.o; have := SX.o; have := E8.o; have := N8.o; have := Z8.o; have := SY.o; have := E9.o; have := N9.o; have := Z9.o; have := SG.o; have := E10.o; have := N10.o; have := Z10.o; omega); have q9 := hq4' B9.o; replace B10 := kk_ B10 hk (fun h => by have := h.1; have := h.2; have := NA.o; have := NB.o; have := N6.o; have := N5.o; have := N4.o; have := SX.o; have := E8.o; have := N8.o; have := Z8.o; have := SY.o; have := E9.o; have := N9.o; have := Z9.o; have := SG.o; have := E10.o; have := N10.o; have := Z10.o; omega); have ak := hq4' B10.o; replace W6 := LinR.k W6 hk (fun k h1 h2 h3 => by have := h3.1; have := h3.2; have := NA.o; have := NB.o; have := N6.o; have := N5.o; have := N4.o; have := SX.o; have := E8.o; have := N8.o; have := Z8.o; have := SY.o; have := E9.o; have := N9.o; have := Z9.o; have := SG.o; have := E10.o; have := N10.o; have := Z10.o; omega); replace FY := LinS.k FY hk (fun k h1 h2 h3 => by have := h3.1; have := h3.2; have := NA.o; have := NB.o; have := N6.o; have := N5.o; have := N4.o; have := SX.o; have := E8.o; have := N8.o; have := Z8.o; have := SY.o; have := E9.o; have := N9.o; have := Z9.o; have := SG.o; have := E10.o; have := N10.o; have := Z10.o; omega); replace FG := LinS.k FG hk (fun k h1 h2 h3 => by have := h3.1; have := h3.2; have := NA.o; have := NB.o; have := N6.o; have := N5.o; have := N4.o; have := SX.o; have := E8.o; have := N8.o; have := Z8.o; have := SY.o; have := E9.o; have := N9.o; have := Z9.o; have := SG.o; have := E10.o; have := N10.o; have := Z10.o; omega); replace HB := A_ hb; replace FX := A_ hF; clear hF hb hk))
  clear FX
  go_upto_region 21 with (first | (go_at_call 9; (with_reducible refine (LinS.marked ai ta BTA.o.1 BTA.o.2 FY.o HB.o M1.o.1 M1.o.2.1 M1.o.2.2).mono ?_); rw [← HTB.o]; rintro e w20 ⟨rfl, hF, hb, hk⟩; clear qA qB q6 q8 q9 ak; replace BA := kk_ BA hk (fun h => by have := h.1; have := h.2; have := NA.o; have := NB.o; have := N6.o; have := N5.o; have := N4.o; have := SX.o; have := E8.o; have := N8.o; have := Z8.o; have := SY.o; have := E9.o; have := N9.o; have := Z9.o; have := SG.o; have := E10.o; have := N10.o; have := Z10.o; omega); have qA := hq4' BA.o; replace BB := kk_ BB hk (fun h => by have := h.1; have := h.2; have := NA.o; have := NB.o; have := N6.o; have := N5.o; have := N4.o; have := SX.o; have := E8.o; have := N8.o; have := Z8.o; have := SY.o; have := E9.o; have := N9.o; have := Z9.o; have := SG.o; have := E10.o; have := N10.o; have := Z10.o; omega); have qB := hq4' BB.o; replace B6 := kk_ B6 hk (fun h => by have := h.1; have := h.2; have := NA.o; have := NB.o; have := N6.o; have := N5.o; have := N4.o; have := SX.o; have := E8.o; have := N8.o; have := Z8.o; have := SY.o; have := E9.o; have := N9.o; have := Z9.o; have := SG.o; have := E10.o; have := N10.o; have := Z10.o; omega); have q6 := hq4' B6.o; replace B8 := kk_ B8 hk (fun h => by have := h.1; have := h.2; have := NA.o; have := NB.o; have := N6.o; have := N5.o; have := N4.o; have := SX.o; have := E8.o; have := N8.o; have := Z8.o; have := SY.o; have := E9.o; have := N9.o; have := Z9.o; have := SG.o; have := E10.o; have := N10.o; have := Z10.o; omega); have q8 := hq4' B8.o; replace B9 := kk_ B9 hk (fun h => by have := h.1; have := h.2; have := NA.o; have := NB.o; have := N6.o; have := N5.o; have := N4.o; have := SX.o; have := E8.o; have := N8.o; have := Z8.o; have := SY.o; have := E9.o; have := N9.o; have := Z9.o; have := SG.o; have := E10.o; have := N10.o; have := Z10.o; omega); have q9 := hq4' B9.o; replace B10 := kk_ B10 hk (fun h => by have := h.1; have := h.2; have := NA.o; have := NB.o; have := N6.o; have := N5.o; have := N4.o; have := SX.o; have := E8.o; have := N8.o; have := Z8.o; have := SY.o; have := E9.o; have := N9.o; have := Z9.o; have := SG.o; have := E10.o; have := N10.o; have := Z10.o; omega); have ak := hq4' B10.o; replace W6 := LinR.k W6 hk (fun k h1 h2 h3 => by have := h3.1; have := h3.2; have := NA.o; have := NB.o; have := N6.o; have := N5.o; have := N4.o; have := SX.o; have := E8.o; have := N8.o; have := Z8.o; have := SY.o; have := E9.o; have := N9.o; have := Z9.o; have := SG.o; have := E10.o; have := N10.o; have := Z10.o; omega); replace FG := LinS.k FG hk (fun k h1 h2 h3 => by have := h3.1; have := h3.2; have := NA.o; have := NB.o; have := N6.o; have := N5.o; have := N4.o; have := SX.o; have := E8.o; have := N8.o; have := Z8.o; have := SY.o; have := E9.o; have := N9.o; have := Z9.o; have := SG.o; have := E10.o; have := N10.o; have := Z10.o; omega); replace HB := A_ hb; replace FY := A_ hF; clear hF hb hk))
  clear FY
  go_upto_region 24 with (first | (go_at_call 8; (with_reducible refine (laws_eqLinear.calls k t1 _ _ t2 _ _ t3 _ _ t4 t1 _ _ t2 _ _ t3 _ _ t4 true _ FG.o.r.c1 FG.o.r.l1 FG.o.r.c2 FG.o.r.l2 FG.o.r.c3 FG.o.r.l3 W6.o.c1 W6.o.l1 W6.o.c2 W6.o.l2 W6.o.c3 W6.o.l3 AE.o).mono ?_); rintro e w21 ⟨rfl, hb⟩; clear qA qB q6 q8 q9 ak; replace BA := kc_ BA hb; have qA := hq4' BA.o; replace BB := kc_ BB hb; have qB := hq4' BB.o; replace B6 := kc_ B6 hb; have q6 := hq4' B6.o; replace B8 := kc_ B8 hb; have q8 := hq4' B8.o; replace B9 := kc_ B9 hb; have q9 := hq4' B9.o; replace B10 := kc_ B10 hb; have ak := hq4' B10.o; replace W6 := LinR.b W6 hb; replace FG := LinS.b FG hb; replace HB := ks_ HB hb; clear hb))
  go_upto_region 26 with (first | (go_at_call 9; (with_reducible refine (LinS.marked t1 1 (by decide) (by decide) FG.o HB.o MG.o.1 MG.o.2.1 MG.o.2.2).mono ?_); rw [← HTM.o]; rintro e w22 ⟨rfl, hF, hb, hk⟩; clear qA qB q6 q8 q9 ak; replace BA := kk_ BA hk (fun h => by have := h.1; have := h.2; have := NA.o; have := NB.o; have := N6.o; have := N5.o; have := N4.o; have := SX.o; have := E8.o; have := N8.o; have := Z8.o; have := SY.o; have := E9.o; have := N9.o; have := Z9.o; have := SG.o; have := E10.o; have := N10.o; have := Z10.o; omega); have qA := hq4' BA.o; replace BB := kk_ BB hk (fun h => by have := h.1; have := h.2; have := NA.o; have := NB.o; have := N6.o; have := N5.o; have := N4.o; have := SX.o; have := E8.o; have := N8.o; have := Z8.o; have := SY.o; have := E9.o; have := N9.o; have := Z9.o; have := SG.o; have := E10.o; have := N10.o; have := Z10.o; omega); have qB := hq4' BB.o; replace B6 := kk_ B6 hk (fun h => by have := h.1; have := h.2; have := NA.o; have := NB.o; have := N6.o; have := N5.o; have := N4.o; have := SX.o; have := E8.o; have := N8.o; have := Z8.o; have := SY.o; have := E9.o; have := N9.o; have := Z9.o; have := SG.o; have := E10.o; have := N10.o; have := Z10.o; omega); have q6 := hq4' B6.o; replace B8 := kk_ B8 hk (fun h => by have := h.1; have := h.2; have := NA.o; have := NB.o; have := N6.o; have := N5.o; have := N4.o; have := SX.o; have := E8.o; have := N8.o; have := Z8.o; have := SY.o; have := E9.o; have := N9.o; have := Z9.o; have := SG.o; have := E10.o; have := N10.o; have := Z10.o; omega); have q8 := hq4' B8.o; replace B9 := kk_ B9 hk (fun h => by have := h.1; have := h.2; have := NA.o; have := NB.o; have := N6.o; have := N5.o; have := N4.o; have := SX.o; have := E8.o; have := N8.o; have := Z8.o; have := SY.o; have := E9.o; have := N9.o; have := Z9.o; have := SG.o; have := E10.o; have := N10.o; have := Z10.o; omega); have q9 := hq4' B9.o; replace B10 := kk_ B10 hk (fun h => by have := h.1; have := h.2; have := NA.o; have := NB.o; have := N6.o; have := N5.o; have := N4.o; have := SX.o; have := E8.o; have := N8.o; have := Z8.o; have := SY.o; have := E9.o; have := N9.o; have := Z9.o; have := SG.o; have := E10.o; have := N10.o; have := Z10.o; omega); have ak := hq4' B10.o; replace W6 := LinR.k W6 hk (fun k h1 h2 h3 => by have := h3.1; have := h3.2; have := NA.o; have := NB.o; have := N6.o; have := N5.o; have := N4.o; have := SX.o; have := E8.o; have := N8.o; have := Z8.o; have := SY.o; have := E9.o; have := N9.o; have := Z9.o; have := SG.o; have := E10.o; have := N10.o; have := Z10.o; omega); replace HB := A_ hb; replace FG := A_ hF; clear hF hb hk))
  go_upto_region 31 with (first | (go_at_call 10; refine calls_of_args (args' := #[.agg #[.int .i64 t1, .slice G1 (mks1 1 t2.length).length Gc1, .slice G2 (mks3 (1 + (t2.length : Int)) t3).length Gc2, .slice G3 (mks1 (mtot3 (1 + (t2.length : Int)) t3) t4.length).length Gc3], .int .i64 1]) (by rw [hlen, len3, hlen]) ?_; (with_reducible refine (laws_heldLinear.calls k t1 _ _ (mks1 1 t2.length) _ _ (mks3 (1 + (t2.length : Int)) t3) _ _ (mks1 (mtot3 (1 + (t2.length : Int)) t3) t4.length) 1 tm _ FG.o.r.c1 FG.o.r.l1 FG.o.r.c2 FG.o.r.l2 FG.o.r.c3 FG.o.r.l3 AH.o).mono ?_); rintro e w23 ⟨rfl, hb⟩; clear qA qB q6 q8 q9 ak; replace BA := kc_ BA hb; have qA := hq4' BA.o; replace BB := kc_ BB hb; have qB := hq4' BB.o; replace B6 := kc_ B6 hb; have q6 := hq4' B6.o; replace B8 := kc_ B8 hb; have q8 := hq4' B8.o; replace B9 := kc_ B9 hb; have q9 := hq4' B9.o; replace B10 := kc_ B10 hb; have ak := hq4' B10.o; replace W6 := LinR.b W6 hb; replace FG := LinS.b FG hb; replace HB := ks_ HB hb; clear hb))
  try go_wp2
  have hb : Below w23.heap.size w23 w23.drew := below_drew (Below.refl _ _)
  clear qA qB q6 q8 q9 ak; replace BA := kc_ BA hb; have qA := hq4' BA.o; replace BB := kc_ BB hb; have qB := hq4' BB.o; replace B6 := kc_ B6 hb; have q6 := hq4' B6.o; replace B8 := kc_ B8 hb; have q8 := hq4' B8.o; replace B9 := kc_ B9 hb; have q9 := hq4' B9.o; replace B10 := kc_ B10 hb; have ak := hq4' B10.o; replace W6 := LinR.b W6 hb; replace FG := LinS.b FG hb; replace HB := ks_ HB hb; clear hb qA qB q6 q8 q9 ak; refine start_ (n := 11) (S := fun W => W.heap[gA]? = some (.cells #[.int .i64 ah, .slice al ab.length ao, .slice am ac.length ap, .slice an aa.length aq] 25 (0, 0)) ∧ W.heap[gB]? = some (.cells #[.int .i64 ai, .slice au ae.length ax, .slice av af.length ay, .slice aw ag.length az] 25 (0, 0))) (ds := []) (mk_ 11 0) (by kernel_rfl) rfl rfl ⟨BA.o, BB.o⟩ (fun aj => ?_)
  generalize w23.drew = w24 at BA BB B6 B8 B9 B10 W6 FG HB aj ⊢
  refine take_ (i := 0) (N := some 95) (v := ?_) (a' := ?_) (mk_ 11 1) rfl rfl (by kernel_rfl) (fun _ _ _ h => h) (Or.inl ⟨by rfl, ?_⟩) aj ?_ ?_; rotate_left
  · rintro w' ⟨s0, s1⟩
    have q0 := hq4' s0; have q1 := hq4' s1; clear s0 s1; go_simp; with_reducible rfl
  rotate_left
  · simp only [Act.put, mD, mE, mF, i64_w, i32_w]
    rfl
  refine take_ (i := 2) (N := some 97) (v := ?_) (a' := ?_) (mk_ 11 5) rfl rfl (by kernel_rfl) (fun _ _ _ h => h) (Or.inl ⟨by rfl, ?_⟩) aj ?_ ?_; rotate_left
  · rintro w' ⟨s0, s1⟩
    have q0 := hq4' s0; have q1 := hq4' s1; clear s0 s1; go_simp; with_reducible rfl
  rotate_left
  · simp only [Act.put, mD, mE, mF, i64_w, i32_w]
    rfl
  refine any_ (fuel := 1) (mk_ 11 1023) [⟨1, some 96, [], fun vs W => ∃ hi A1 c1 A2 c2 A3 c3, vs 1 = .agg #[.int .i64 ah, .slice A1 ab.length c1, .slice A2 ac.length c2, .slice A3 aa.length c3] ∧ LinR W w.heap.size w24.heap.size hi (.slice A1 ab.length c1) (.slice A2 ac.length c2) (.slice A3 aa.length c3) ab ac aa⟩, ⟨3, some 98, [], fun vs W => ∃ hi A1 c1 A2 c2 A3 c3, vs 3 = .agg #[.int .i64 ai, .slice A1 ae.length c1, .slice A2 af.length c2, .slice A3 ag.length c3] ∧ LinR W w.heap.size w24.heap.size hi (.slice A1 ae.length c1) (.slice A2 af.length c2) (.slice A3 ag.length c3) ae af ag⟩, ⟨4, some 99, [], fun vs W => ∃ hi A1 c1 A2 c2 A3 c3, vs 4 = .tuple #[.agg #[.int .i64 t1, .slice A1 t2.length c1, .slice A2 t3.length c2, .slice A3 t4.length c3], .bool t5] ∧ LinR W w.heap.size w24.heap.size hi (.slice A1 t2.length c1) (.slice A2 t3.length c2) (.slice A3 t4.length c3) t2 t3 t4⟩, ⟨5, some 94, [4], fun vs W => vs 5 = vs 4 ∧ ∃ A1 c1 A2 c2 A3 c3, vs 5 = .tuple #[.agg #[.int .i64 t1, .slice A1 t2.length c1, .slice A2 t3.length c2, .slice A3 t4.length c3], .bool t5]⟩, ⟨6, some 100, [5], fun vs W => ∃ x, vs 5 = .tuple #[vs 6, x]⟩, ⟨7, some 101, [5], fun vs W => ∃ x, vs 5 = .tuple #[x, vs 7]⟩, ⟨8, some 15, [], fun vs W => ∃ g x y z u, vs 8 = .pointer (some ⟨g, 0, none⟩) ∧ w24.heap.size ≤ g ∧ W.heap[g]? = some (.cells #[x, y, z, u] 27 (0, 0))⟩, ⟨9, none, [6, 8], fun vs W => ∃ g x y z u, vs 8 = .pointer (some ⟨g, 0, none⟩) ∧ vs 6 = .agg #[x, y, z, u] ∧ W.heap[g]? = some (.cells #[x, y, z, u] 27 (0, 0))⟩] (by kernel_rfl) rfl (fun W W' hb s => ⟨blk_below s.1 hb, blk_below s.2 hb⟩) aj ?step ?cont
  case step =>
   refine All.cons rfl (fun vs vs' W W' hv hb ⟨hi, A1, c1, A2, c2, A3, c3, e, h⟩ => ⟨hi, A1, c1, A2, c2, A3, c3, (hv 1 (.inl rfl)).symm.trans e, (LinR.b ⟨h⟩ hb).out⟩) ?_ ?_
   · intro vs a W hS hB hn ho K hK
     have e0 : a.eval (.tmp 95) = .agg #[.int .i64 ah, .slice al ab.length ao, .slice am ac.length ap, .slice an aa.length aq] := ho 95 (by rfl)
     have hbw := below_step HB.o hB; refine goes_ Try.func6 (by kernel_rfl) rfl #[.agg #[.int .i64 ah, .slice al ab.length ao, .slice am ac.length ap, .slice an aa.length aq]] (by rfl) rfl rfl (by simp [e0]) ?_; refine (laws_toLinear.calls k ah _ _ ab _ _ ac _ _ aa ah ab ac aa _ (Kd.C_below R01.o hbw) C01.o (Kd.C_below R02.o hbw) C02.o (Kd.C_below R03.o hbw) C03.o AS1.o).mono ?_; rintro e w' ⟨v1, v2, v3, rfl, h1, h2, h3, hb⟩; obtain ⟨A1, c1, e_⟩ := Kd.R_slice h1; subst e_; obtain ⟨A2, c2, e_⟩ := Kd.R_slice h2; subst e_; obtain ⟨A3, c3, e_⟩ := Kd.R_slice h3; subst e_; exact ⟨_, rfl, hK _ _ hb ⟨_, _, _, _, _, _, _, rfl, (LinR.of h1 h2 h3 (below_size hbw)).low hB.size⟩⟩
   refine All.cons rfl (fun vs vs' W W' hv hb ⟨hi, A1, c1, A2, c2, A3, c3, e, h⟩ => ⟨hi, A1, c1, A2, c2, A3, c3, (hv 3 (.inl rfl)).symm.trans e, (LinR.b ⟨h⟩ hb).out⟩) ?_ ?_
   · intro vs a W hS hB hn ho K hK
     have e0 : a.eval (.tmp 97) = .agg #[.int .i64 ai, .slice au ae.length ax, .slice av af.length ay, .slice aw ag.length az] := ho 97 (by rfl)
     have hbw := below_step HB.o hB; refine goes_ Try.func6 (by kernel_rfl) rfl #[.agg #[.int .i64 ai, .slice au ae.length ax, .slice av af.length ay, .slice aw ag.length az]] (by rfl) rfl rfl (by simp [e0]) ?_; refine (laws_toLinear.calls k ai _ _ ae _ _ af _ _ ag ai ae af ag _ (Kd.C_below R11.o hbw) C11.o (Kd.C_below R12.o hbw) C12.o (Kd.C_below R13.o hbw) C13.o AS2.o).mono ?_; rintro e w' ⟨v1, v2, v3, rfl, h1, h2, h3, hb⟩; obtain ⟨A1, c1, e_⟩ := Kd.R_slice h1; subst e_; obtain ⟨A2, c2, e_⟩ := Kd.R_slice h2; subst e_; obtain ⟨A3, c3, e_⟩ := Kd.R_slice h3; subst e_; exact ⟨_, rfl, hK _ _ hb ⟨_, _, _, _, _, _, _, rfl, (LinR.of h1 h2 h3 (below_size hbw)).low hB.size⟩⟩
   refine All.cons rfl (fun vs vs' W W' hv hb ⟨hi, A1, c1, A2, c2, A3, c3, e, h⟩ => ⟨hi, A1, c1, A2, c2, A3, c3, (hv 4 (.inl rfl)).symm.trans e, (LinR.b ⟨h⟩ hb).out⟩) ?_ ?_
   · intro vs a W hS hB hn ho K hK
     obtain ⟨v1, hi, A1, c1, A2, c2, A3, c3, eA, hA⟩ := hn _ (.head _) (by kernel_rfl); replace v1 := v1 _ rfl; obtain ⟨v3, hi2, B1, d1, B2, d2, B3, d3, eB, hB2⟩ := hn _ (.tail _ (.head _)) (by kernel_rfl); replace v3 := v3 _ rfl; have hbw := below_step HB.o hB; refine goes_ Try.func7 (by kernel_rfl) rfl #[.agg #[.int .i64 ah, .slice A1 ab.length c1, .slice A2 ac.length c2, .slice A3 aa.length c3], .agg #[.int .i64 ai, .slice B1 ae.length d1, .slice B2 af.length d2, .slice B3 ag.length d3]] (by rfl) rfl rfl (by simp [v1, v3, eA, eB]) ?_; refine (impl_SumForms.calls k ah _ _ ab _ _ ac _ _ aa ai _ _ ae _ _ af _ _ ag t1 t2 t3 t4 t5 _ hA.c1 hA.l1 hA.c2 hA.l2 hA.c3 hA.l3 hB2.c1 hB2.l1 hB2.c2 hB2.l2 hB2.c3 hB2.l3 AI.o).mono ?_; rintro e w' ⟨v1, v2, v3, rfl, h1, h2, h3, hb⟩; replace h2 := sS_R h2; obtain ⟨A1, c1, e_⟩ := Kd.R_slice h1; subst e_; obtain ⟨A2, c2, e_⟩ := Kd.R_slice h2; subst e_; obtain ⟨A3, c3, e_⟩ := Kd.R_slice h3; subst e_; exact ⟨_, rfl, hK _ _ hb ⟨_, _, _, _, _, _, _, rfl, (LinR.of h1 h2 h3 (below_size hbw)).low hB.size⟩⟩
   refine All.cons rfl (fun vs vs' W W' hv hb h => by dsimp only at h ⊢; rw [← hv 5 (.inl rfl), ← hv 4 (.inr (.head _))]; exact h) ?_ ?_
   · intro vs a W hS hB hn ho K hK
     obtain ⟨v4, hi, A1, c1, A2, c2, A3, c3, e4, -⟩ := hn _ (.tail _ (.tail _ (.head _))) (by kernel_rfl); replace v4 := ev_ (v4 _ rfl); refine event_step rfl (v := vs 4) (w1 := W) ?_ (hK _ _ (Below.refl _ _) ⟨rfl, _, _, _, _, _, _, e4⟩); clear e4; dsimp only at v4; go_simp
   refine All.cons rfl (fun vs vs' W W' hv hb ⟨x, h⟩ => ⟨x, by rw [← hv 6 (.inl rfl), ← hv 5 (.inr (.head _))]; exact h⟩) ?_ ?_
   · intro vs a W hS hB hn ho K hK
     obtain ⟨v5, -, A1, c1, A2, c2, A3, c3, e5⟩ := hn _ (.tail _ (.tail _ (.tail _ (.head _)))) (by kernel_rfl); replace v5 := v5 _ rfl; dsimp only at v5 e5; rw [e5] at v5; replace v5 := ev_ v5; refine event_step rfl (v := .agg #[.int .i64 t1, .slice A1 t2.length c1, .slice A2 t3.length c2, .slice A3 t4.length c3]) (w1 := W) ?_ (hK _ _ (Below.refl _ _) ⟨_, e5⟩); clear e5; go_simp
   refine All.cons rfl (fun vs vs' W W' hv hb ⟨x, h⟩ => ⟨x, by rw [← hv 7 (.inl rfl), ← hv 5 (.inr (.head _))]; exact h⟩) ?_ ?_
   · intro vs a W hS hB hn ho K hK
     obtain ⟨v5, -, A1, c1, A2, c2, A3, c3, e5⟩ := hn _ (.tail _ (.tail _ (.tail _ (.head _)))) (by kernel_rfl); replace v5 := v5 _ rfl; dsimp only at v5 e5; rw [e5] at v5; replace v5 := ev_ v5; refine event_step rfl (v := .bool t5) (w1 := W) ?_ (hK _ _ (Below.refl _ _) ⟨_, e5⟩); clear e5; go_simp
   refine All.cons rfl (fun vs vs' W W' hv hb ⟨g, x, y, z, u, e, h1, h2⟩ => ⟨g, x, y, z, u, (hv 8 (.inl rfl)).symm.trans e, h1, blk_below h2 hb⟩) ?_ ?_
   · intro vs a W hS hB hn ho K hK
     refine box_step rfl (N := 15) rfl (cs := #[.int .i64 0, .slice none 0 0, .slice none 0 0, .slice none 0 0]) (t := 27) (by go_simp; done) ?_; intro g hg w1 hbox hb; exact hK _ _ hb ⟨g, _, _, _, _, rfl, by rw [hg]; exact hB.size, hbox⟩
   refine All.more rfl (fun vs vs' W W' hv hb ⟨g, x, y, z, u, e, h1, h2⟩ => ⟨g, x, y, z, u, (hv 8 (.inr (.tail _ (.head _)))).symm.trans e, (hv 6 (.inr (.head _))).symm.trans h1, blk_below h2 hb⟩) (.inr ?_) All.nil; intro vs a W hS hB hn ho K hK; obtain ⟨v6, x6, e6⟩ := hn _ (.tail _ (.tail _ (.tail _ (.tail _ (.head _))))) (by kernel_rfl); replace v6 := v6 _ rfl; obtain ⟨v8, g, x, y, z, u, e8, hg, hO⟩ := hn _ (.tail _ (.tail _ (.tail _ (.tail _ (.tail _ (.tail _ (.head _))))))) (by kernel_rfl); replace v8 := v8 _ rfl; obtain ⟨-, hi, A1, c1, A2, c2, A3, c3, e4, -⟩ := hn _ (.tail _ (.tail _ (.head _))) (by kernel_rfl); obtain ⟨-, e5, -⟩ := hn _ (.tail _ (.tail _ (.tail _ (.head _)))) (by kernel_rfl); dsimp only at e4 e5 e6 v6 v8 e8; rw [e5, e4] at e6
   injection e6 with e6
   injection e6 with e6
   injection e6 with e6 e7
   rw [← e6] at v6; rw [e8] at v8; replace v6 := ev_ v6; replace v8 := ev_ v8; have qg := hq4' hO; have hg0 := Nat.le_trans HB.o.size hg
   have NgA : gA ≠ g := by have := blk_lt BA.o; omega
   have NgB : gB ≠ g := by have := blk_lt BB.o; omega
   obtain ⟨w7, hw7, hb7, hO7, hz7, hf7⟩ := box4 hO hB hg (.int .i64 t1) (.slice A1 t2.length c1) (.slice A2 t3.length c2) (.slice A3 t4.length c3); refine skip_ (w1 := w7) (by rfl) rfl ?_ ?_
   · rw [hw7]
     clear e6 e7 e5 e4 e8 hw7 hO7 hz7 hf7 hb7 hK; go_simp
   · refine hK undef w7 ⟨(hf7 gA NgA).trans hS.1, (hf7 gB NgB).trans hS.2⟩ hb7 ?_ ⟨g, _, _, _, _, e8, e6.symm, hO7⟩
     intro y hy hne hnd h; rw [hw7]; simp only [List.mem_cons, List.not_mem_nil, or_false] at hy
     rcases hy with rfl | rfl | rfl | rfl | rfl | rfl | rfl | rfl
     · obtain ⟨hi, A1, c1, A2, c2, A3, c3, e, h⟩ := h
       exact ⟨hi, A1, c1, A2, c2, A3, c3, e, h.set4 hO _ _ _ _⟩
     · obtain ⟨hi, A1, c1, A2, c2, A3, c3, e, h⟩ := h
       exact ⟨hi, A1, c1, A2, c2, A3, c3, e, h.set4 hO _ _ _ _⟩
     · obtain ⟨hi, A1, c1, A2, c2, A3, c3, e, h⟩ := h
       exact ⟨hi, A1, c1, A2, c2, A3, c3, e, h.set4 hO _ _ _ _⟩
     · exact h
     · exact h
     · exact h
     · obtain ⟨g', x', y', z', u', e, h1, h2⟩ := h
       replace e : vs 8 = _ := e; rw [e8] at e
       injection e with e
       injection e with e
       injection e with e
       subst e; exact ⟨g, _, _, _, _, e8, hg, hw7 ▸ hO7⟩
     · exact absurd rfl hne
  case cont =>
   intro vs W hS hB hx; obtain ⟨hi, A1, c1, A2, c2, A3, c3, e4, hL⟩ := hx _ (.tail _ (.tail _ (.head _))); obtain ⟨-, B1, d1, B2, d2, B3, d3, e5⟩ := hx _ (.tail _ (.tail _ (.tail _ (.head _)))); obtain ⟨x6, e6⟩ := hx _ (.tail _ (.tail _ (.tail _ (.tail _ (.head _))))); obtain ⟨x7, e7⟩ := hx _ (.tail _ (.tail _ (.tail _ (.tail _ (.tail _ (.head _)))))); obtain ⟨ge, -, -, -, -, e8, hg, -⟩ := hx _ (.tail _ (.tail _ (.tail _ (.tail _ (.tail _ (.tail _ (.head _))))))); obtain ⟨g, xa, xb, xc, xd, e9, ar, hO⟩ := hx _ (.tail _ (.tail _ (.tail _ (.tail _ (.tail _ (.tail _ (.tail _ (.head _)))))))); obtain ⟨aU, -⟩ := hx _ (.tail _ (.tail _ (.tail _ (.head _))))
   try dsimp only at e4
   try dsimp only at e5
   try dsimp only at e6
   try dsimp only at e7
   try dsimp only at e8
   try dsimp only at e9
   try dsimp only at ar
   try dsimp only at aU
   clear hx aj; rw [aU, e4] at e5 e6 e7
   injection e6 with e6
   injection e6 with e6
   injection e6 with e6 e6b
   injection e7 with e7
   injection e7 with e7
   injection e7 with e7 e7b
   injection e7b with e7b e7c
   rw [← e6] at ar
   injection ar with ar
   injection ar with ar
   injection ar with f1 ar
   injection ar with f2 ar
   injection ar with f3 ar
   injection ar with f4 ar
   subst f1; subst f2; subst f3; subst f4; rw [e8] at e9
   injection e9 with e9
   injection e9 with e9
   injection e9 with e9
   subst e9; refine norm_ (a' := ?_) ?_ ?_; rotate_left
   · simp only [puts, List.filterMap_cons, List.filterMap_nil, Option.map_some, Option.map_none, putAll, Act.put, mD, mE, mF, e8, ← e7b]
     rfl
   clear e4 e5 e6 e6b e7 e7b e7c e8 ar aU hS; refine pure_ (i := 10) (N := some 16) (v := ?_) (a' := ?_) (mk_ 11 2047) rfl rfl (by kernel_rfl) (fun _ _ _ h => h) (Or.inl ⟨by rfl, ?_⟩) ?_ ?_; rotate_left
   · intro w'
     go_simp; with_reducible rfl
   rotate_left
   · simp only [Act.put, mD, mE, mF, i64_w, i32_w]
     rfl
   refine done_ (by kernel_rfl) ?_; replace BA := kc_ BA hB; have qA := hq4' BA.o; replace BB := kc_ BB hB; have qB := hq4' BB.o; replace B6 := kc_ B6 hB; have q6 := hq4' B6.o; replace B8 := kc_ B8 hB; have q8 := hq4' B8.o; replace B9 := kc_ B9 hB; have q9 := hq4' B9.o; replace B10 := kc_ B10 hB; have ak := hq4' B10.o; replace W6 := LinR.b W6 hB; replace FG := LinS.b FG hB; replace HB := ks_ HB hB; have Be := A_ hO; have qe := hq4' Be.o; have We := A_ (hL.up hL.1 (Nat.le_refl _)); obtain ⟨w25, ew⟩ : ∃ w25, w25 = W := ⟨_, rfl⟩; subst ew; clear hL hB hO hg
   go_upto_region 35 with (first | (go_at_call 8; (with_reducible refine (laws_eqLinear.calls k t1 _ _ t2 _ _ t3 _ _ t4 t1 _ _ t2 _ _ t3 _ _ t4 true _ We.o.c1 We.o.l1 We.o.c2 We.o.l2 We.o.c3 We.o.l3 W6.o.c1 W6.o.l1 W6.o.c2 W6.o.l2 W6.o.c3 W6.o.l3 AE.o).mono ?_); rintro e w26 ⟨rfl, hb⟩; clear qA qB q6 q8 q9 ak qe; replace BA := kc_ BA hb; have qA := hq4' BA.o; replace BB := kc_ BB hb; have qB := hq4' BB.o; replace B6 := kc_ B6 hb; have q6 := hq4' B6.o; replace B8 := kc_ B8 hb; have q8 := hq4' B8.o; replace B9 := kc_ B9 hb; have q9 := hq4' B9.o; replace B10 := kc_ B10 hb; have ak := hq4' B10.o; replace Be := kc_ Be hb; have qe := hq4' Be.o; replace W6 := LinR.b W6 hb; replace We := LinR.b We hb; replace FG := LinS.b FG hb; replace HB := ks_ HB hb; clear hb))
   go_wp2_with (first | (go_at_call 10; refine calls_of_args (args' := #[.agg #[.int .i64 t1, .slice G1 (mks1 1 t2.length).length Gc1, .slice G2 (mks3 (1 + (t2.length : Int)) t3).length Gc2, .slice G3 (mks1 (mtot3 (1 + (t2.length : Int)) t3) t4.length).length Gc3], .int .i64 1]) (by rw [hlen, len3, hlen]) ?_; (with_reducible refine (laws_heldLinear.calls k t1 _ _ (mks1 1 t2.length) _ _ (mks3 (1 + (t2.length : Int)) t3) _ _ (mks1 (mtot3 (1 + (t2.length : Int)) t3) t4.length) 1 tm _ FG.o.r.c1 FG.o.r.l1 FG.o.r.c2 FG.o.r.l2 FG.o.r.c3 FG.o.r.l3 AH.o).mono ?_); rintro e w27 ⟨rfl, hb⟩; clear qA qB q6 q8 q9 ak qe; replace BA := kc_ BA hb; have qA := hq4' BA.o; replace BB := kc_ BB hb; have qB := hq4' BB.o; replace B6 := kc_ B6 hb; have q6 := hq4' B6.o; replace B8 := kc_ B8 hb; have q8 := hq4' B8.o; replace B9 := kc_ B9 hb; have q9 := hq4' B9.o; replace B10 := kc_ B10 hb; have ak := hq4' B10.o; replace Be := kc_ Be hb; have qe := hq4' Be.o; replace W6 := LinR.b W6 hb; replace We := LinR.b We hb; replace FG := LinS.b FG hb; replace HB := ks_ HB hb; clear hb))
   go_ret
   exact ⟨rfl, HB.o⟩
end Go.Proofs.Ytlcepacbbfekoaa.PFnExactSumForms
