/- Walks of the functions that the law reaches. -/
import Derived.Test.YtgmfjcckmapkbaaPFnExactCountingFormx8
import Derived.Test.YtgmfjcckmapkbaaPFnExactCountingFormx18
import Derived.Test.YtgmfjcckmapkbaaPFnExactCountingFormx17
import Derived.Test.YtgmfjcckmapkbaaPFnExactCountingFormx19
namespace Go.Proofs.Ytgmfjcckmapkbaa.PFnExactCountingForm
open Go.RowKit Go.Proofs.YtgmfjcckmapkbaaW.PrintWords Go.Proofs.YtgmfjcckmapkbaaW.PrintLast Go.Proofs.YtgmfjcckmapkbaaW.PrintMore
attribute [local go_sem] max2_int min2_int max_two min_two max_three min_three max_four min_four
set_option linter.unusedVariables false
set_option maxHeartbeats 8000000
set_option maxRecDepth 100000
set_option linter.unusedSimpArgs false

def mks1 (m : Int) : Nat → List Int
 | 0 => []
 | n + 1 => m :: mks1 (m + 1) n
def mks2 (m : Int) : List (List Int) → List (List Int)
 | [] => []
 | x :: xs => mks1 m x.length :: mks2 (m + (x.length : Int)) xs
def mtot2 (m : Int) : List (List Int) → Int
 | [] => m
 | x :: xs => mtot2 (m + (x.length : Int)) xs
def mks3 (m : Int) : List (List (List Int)) → List (List (List Int))
 | [] => []
 | x :: xs => mks2 m x :: mks3 (mtot2 m x) xs
def mtot3 (m : Int) : List (List (List Int)) → Int
 | [] => m
 | x :: xs => mtot3 (mtot2 m x) xs
def mlim1 (l : List Int) : Prop := l.length ≤ 1048576
def mlim2 (l : List (List Int)) : Prop := l.length ≤ 1048576 ∧ ∀ r ∈ l, mlim1 r
def mlim3 (l : List (List (List Int))) : Prop := l.length ≤ 1024 ∧ ∀ r ∈ l, mlim2 r
theorem hsucc {α : Type} {g : Nat → Option α} {r : α} (h : Ev (fun k => g (k + 1)) r) : Ev g r := Ev.step (fun _ => rfl) h
theorem hpos {α : Type} {c : Prop} [Decidable c] {g f : Nat → Option α} {r : α} (hc : c) (h : Ev g r) : Ev (fun k => if c then g k else f k) r := by
 simp only [if_pos hc]; exact h
theorem hneg {α : Type} {c : Prop} [Decidable c] {g f : Nat → Option α} {r : α} (hc : ¬ c) (h : Ev f r) : Ev (fun k => if c then g k else f k) r := by
 simp only [if_neg hc]; exact h
theorem hsome {α : Type} {r r' : α} (h : r = r') : Ev (fun _ => some r) r' := by subst h; exact Ev.now r
theorem hw1 {i : Int} (h0 : 0 ≤ i) (h1 : i ≤ 4611686018427387904) : wrap64 (i + 1) = i + 1 := by unfold wrap64; omega
theorem hlen (n : Nat) : ∀ m, (mks1 m n).length = n := by
 induction n with
 | zero => intro m; rfl
 | succ n ih => intro m; simp [mks1, ih]
theorem hget (n : Nat) : ∀ (m : Int) (i : Nat), i < n → (mks1 m n)[i]? = some (m + i) := by
 induction n with
 | zero => intro m i h; omega
 | succ n ih =>
  intro m i h
  cases i with
  | zero => simp [mks1]
  | succ i => simp only [mks1, List.getElem?_cons_succ]; rw [ih (m + 1) i (by omega)]; congr 1; omega
theorem hmark_l0 (n : Nat) (m : Int) (h0 : 0 ≤ m) (hm : m + n ≤ 4611686018427387904) (d : Nat) : ∀ (i : Nat) (x : List Int), x.length = n → i + d = n → (∀ j, j < i → x[j]? = some (m + j)) →
  Ev (fun k => laws_markIntS.l0 k x (m + i) (i : Int)) (m + n, mks1 m n) := by
 induction d with
 | zero =>
  intro i x hx hi hj; refine hsucc ?_; simp only [laws_markIntS.l0]; refine hneg (by omega) (hsome ?_)
  have : i = n := by omega
  subst this
  congr 1
  apply List.ext_getElem?
  intro j
  by_cases h : j < i
  · rw [hj j h, hget i m j h]
  · rw [List.getElem?_eq_none (by omega), List.getElem?_eq_none (by rw [hlen]; omega)]
 | succ d ih =>
  intro i x hx hi hj; refine hsucc ?_; simp only [laws_markIntS.l0, hw1 (show (0 : Int) ≤ (i : Int) by omega) (by omega), hw1 (show (0 : Int) ≤ m + (i : Int) by omega) (by omega)]; refine hpos (by omega) (hpos (by omega) ?_)
  have := ih (i + 1) (x.set i (m + i)) (by simp [hx]) (by omega) (by
   intro j hj'; rw [List.getElem?_set]
   by_cases e : i = j
   · subst e
     rw [if_pos rfl, if_pos (by omega)]
   · rw [if_neg e]; exact hj j (by omega))
  rw [Int.toNat_natCast, Int.add_assoc]; exact this
theorem hmark_ev (l : List Int) (m : Int) (h0 : 0 ≤ m) (hm : m + l.length ≤ 4611686018427387904) : ∃ k, laws_markIntS.f k l m = some (m + l.length, mks1 m l.length) := by
 have h : Ev (fun k => laws_markIntS.f k l m) (m + l.length, mks1 m l.length) := by
  simp only [laws_markIntS.f]
  have := hmark_l0 l.length m h0 hm l.length 0 l rfl (by omega) (by intro j hj; omega)
  simpa using this
 obtain ⟨K, hK⟩ := h; exact ⟨K, hK K (Nat.le_refl _)⟩
theorem mtot2_bd (xs : List (List Int)) : ∀ m, (∀ r ∈ xs, mlim1 r) → m ≤ mtot2 m xs ∧ mtot2 m xs ≤ m + 1048576 * (xs.length : Int) := by
 induction xs with
 | nil => intro m _; simp [mtot2]
 | cons x xs ih =>
  intro m h; have h1 := ih (m + (x.length : Int)) (fun r hr => h r (List.mem_cons_of_mem _ hr)); have h2 := h x List.mem_cons_self; unfold mlim1 at h2; simp only [mtot2, List.length_cons]
  omega
theorem mtot3_bd (xs : List (List (List Int))) : ∀ m, (∀ r ∈ xs, mlim2 r) → m ≤ mtot3 m xs ∧ mtot3 m xs ≤ m + 1099511627776 * (xs.length : Int) := by
 induction xs with
 | nil => intro m _; simp [mtot3]
 | cons x xs ih =>
  intro m h; have h1 := ih (mtot2 m x) (fun r hr => h r (List.mem_cons_of_mem _ hr)); have h2 := h x List.mem_cons_self; have h3 := mtot2_bd x m h2.2; have h4 := h2.1; simp only [mtot3, List.length_cons]
  omega
theorem mkS (m : Int) (w0 w : World) (ok : Nat → Prop) (v : Value) (x : List Int) (hB : Below w0.heap.size w0 w) (hR : Kd.R (Kd.int .i64) 3 w w0.heap.size ok v x) (h0 : 0 ≤ m) (hm : m ≤ 2305843009213693952) (hx : mlim1 x) :
  Calls Try.prog 33 #[v, .int .i64 m] w fun e w' => e = .returned (.int .i64 (m + (x.length : Int))) ∧ Kd.R (Kd.int .i64) 3 w' w0.heap.size ok v (mks1 m x.length) ∧ Below w0.heap.size w0 w' ∧ Kept w w' ok := by
 unfold mlim1 at hx; obtain ⟨K, hK⟩ := hmark_ev x m h0 (by omega); refine (laws_markIntS.calls K ok v x m _ _ w0 w hB hR hK).mono ?_; rintro e w' ⟨rfl, hr, hb, hk⟩; exact ⟨rfl, Kd.R_mono (Kd.R_tight rfl hr) (fun k hk2 => hR.1 k hk2.symm), hb, hk⟩
theorem set2 (xs : List (List Int)) : ∀ (m : Int) (i : Nat) (hi : i < xs.length), (mks2 m (xs.take i) ++ xs.drop i).set i (mks1 (mtot2 m (xs.take i)) xs[i].length) = mks2 m (xs.take (i + 1)) ++ xs.drop (i + 1) ∧ mtot2 m (xs.take (i + 1)) = mtot2 m (xs.take i) + (xs[i].length : Int) ∧ (mks2 m (xs.take i) ++ xs.drop i).getD i [] = xs[i] := by
 induction xs with
 | nil => intro m i hi; simp at hi
 | cons x xs ih =>
  intro m i hi
  cases i with
  | zero => simp [mks2, mtot2]
  | succ i =>
   have h := ih (m + (x.length : Int)) i (by simpa using hi); simp only [List.take_succ_cons, List.drop_succ_cons, mks2, mtot2, List.cons_append, mF, List.getElem_cons_succ, List.getD_cons_succ]; exact ⟨by rw [h.1], h.2.1, h.2.2⟩
theorem len2 (xs : List (List Int)) : ∀ m, (mks2 m xs).length = xs.length := by
 induction xs with
 | nil => intro m; rfl
 | cons x xs ih => intro m; simp [mks2, ih]
def MI2 (w0 w w' : World) (ok : Nat → Prop) (A : Option Addr) (cp : Nat) (xs : List (List Int)) (m : Int) (i : Nat) : Prop := Below w0.heap.size w0 w' ∧ Kd.S (Kd.slice 3 (Kd.int .i64)) 23 w' w0.heap.size ok (.slice A xs.length cp) (mks2 m (xs.take i) ++ xs.drop i) ∧ Kept w w' ok
theorem mkS2 (m : Int) (w0 w : World) (ok : Nat → Prop) (v : Value) (xs : List (List Int)) (hB : Below w0.heap.size w0 w) (hS : Kd.S (Kd.slice 3 (Kd.int .i64)) 23 w w0.heap.size ok v xs) (h0 : 0 ≤ m) (hm : m ≤ 1152921504606846976) (hx : mlim2 xs) :
  Calls Try.prog 32 #[v, .int .i64 m] w fun e w' => e = .returned (.int .i64 (mtot2 m xs)) ∧ Kd.S (Kd.slice 3 (Kd.int .i64)) 23 w' w0.heap.size ok v (mks2 m xs) ∧ Below w0.heap.size w0 w' ∧ Kept w w' ok := by
 obtain ⟨A, cp, rfl⟩ := Kd.S_slice hS; have HI := A_ (show MI2 w0 w w ok A cp xs m 0 from ⟨hB, by simpa [mks2] using hS, Kept.refl _ _⟩); have HX := A_ hx; have hxl := hx.1; clear hB hS hx; go_enter Try.func32, Try.ntmps32
 go_wp2
 go_loopg [1, 5] (xs.length + 1) (fun kq v1 v5 w' => ∃ i : Nat, v5 = .int .i64 (i : Int) ∧ v1 = .int .i64 (mtot2 m (xs.take i)) ∧ i ≤ xs.length ∧ xs.length + 1 - i ≤ kq ∧ Aside0 (MI2 w0 w w' ok A cp xs m i))
 case atStart => exact ⟨0, rfl, by simp [mtot2], by omega, by omega, HI⟩
 case round =>
  clear HI; obtain ⟨i, rfl, rfl, hi, hk, HI⟩ := hrel
  by_cases hlt : i < xs.length
  · have cn : decide ((i : Int) < (xs.length : Int)) = true := decide_eq_true (by omega)
    have p1 : (0 ≤ (i : Int)) = True := eq_true (by omega)
    have p2 : ((i : Int) < (xs.length : Int)) = True := eq_true (by omega)
    obtain ⟨hB, hS, hK⟩ := HI.o
    have hll : (mks2 m (xs.take i) ++ xs.drop i).length = xs.length := by rw [List.length_append, len2, List.length_take, List.length_drop]; omega
    have hset := set2 xs m i hlt; obtain ⟨g, cp2, hv2, hgr⟩ := Kd.S_form hS (by omega)
    injection hv2 with ea_ en_ ec_
    subst ea_; obtain ⟨oki, c, hcl, ⟨u, rfl, hM⟩, hcc, hoki, hH⟩ := Kd.S_lend hS [] (i : Int) (by omega) (by omega); rw [Int.toNat_natCast, hset.2.2] at hM
    have hci : wr.cell? ⟨g, i, none⟩ = some u := by
      have h2 := hcc 0 u rfl
      have h3 : (i : Int).toNat * ((Kd.slice 3 (Kd.int .i64))).sz + 0 = i := by rw [Int.toNat_natCast]; exact Nat.mul_one i
      rw [h3] at h2; exact h2
    have hbd := mtot2_bd (xs.take i) m (fun r hr => HX.o.2 r (List.mem_of_mem_take hr)); rw [List.length_take, Nat.min_eq_left (by omega)] at hbd; have hlx := HX.o.2 _ (List.getElem_mem hlt); obtain ⟨Au, cu, eu⟩ := Kd.R_slice hM; subst eu
    have HBK := A_ (fun (w1 : World) (hr : Kd.R (Kd.int .i64) 3 w1 w0.heap.size oki (.slice Au xs[i].length cu) (mks1 (mtot2 m (xs.take i)) xs[i].length)) (hb : Below w0.heap.size w0 w1) (hk1 : Kept wr w1 oki) =>
      (show MI2 w0 w w1 ok (some ⟨g, 0, none⟩) cp xs m (i + 1) from ⟨hb, by
        have h5 := Kd.H_back (Kd.H_step hH (fun k _ hn hlt2 => hk1.2 k hlt2 hn)) (x' := mks1 (mtot2 m (xs.take i)) xs[i].length) ⟨_, rfl, hr⟩ (fun _ h6 => h6); rw [Int.toNat_natCast, hset.1] at h5; exact h5, hK.then_ hk1 (fun k h6 => .inl (hoki k h6).1)⟩))
    have HT := A_ hset.2.1; have HB := A_ hB; have HM := A_ hM; have HL := A_ hlx; obtain ⟨ti, hti⟩ : ∃ ti, ti = mtot2 m (xs.take i) := ⟨_, rfl⟩; rw [← hti] at HBK HT hbd ⊢; have HD := A_ hbd; clear hbd; obtain ⟨xi, hxi⟩ : ∃ xi, xi = xs[i] := ⟨_, rfl⟩; rw [← hxi] at hci HBK HT HM HL; clear hB hS hK hll hset hcc hoki hH hM hlx hti hxi HI hcl ec_ en_ hgr
    go_wp2_with (first | (go_at_call 33; refine (mkS ti w0 _ oki _ xi HB.o HM.o (by have := HD.o; omega) (by have := HD.o; omega) HL.o).mono ?_; rintro e w1 ⟨rfl, hr, hb, hk1⟩; have HN := A_ (HBK.o w1 hr hb hk1); clear hr hb hk1))
    go_roundg (xs.length + 1 - (i + 1))
    case measure => omega
    case rel => exact ⟨i + 1, by go_num, by rw [HT.o], by omega, Nat.le_refl _, HN⟩
  · have cn : decide ((i : Int) < (xs.length : Int)) = false := decide_eq_false (by omega)
    have : i = xs.length := by omega
    subst this; have h7 := HI.o; rw [show MI2 w0 w wr ok A cp xs m xs.length = (Below w0.heap.size w0 wr ∧ Kd.S (Kd.slice 3 (Kd.int .i64)) 23 wr w0.heap.size ok (.slice A xs.length cp) (mks2 m (xs.take xs.length) ++ xs.drop xs.length) ∧ Kept w wr ok) from rfl, List.take_length, List.drop_length, List.append_nil] at h7; have H7 := A_ h7; rw [List.take_length]; clear HI h7
    go_wp2
    go_ret
    exact ⟨rfl, H7.o.2.1, H7.o.1, H7.o.2.2⟩
theorem set3 (xs : List (List (List Int))) : ∀ (m : Int) (i : Nat) (hi : i < xs.length), (mks3 m (xs.take i) ++ xs.drop i).set i (mks2 (mtot3 m (xs.take i)) xs[i]) = mks3 m (xs.take (i + 1)) ++ xs.drop (i + 1) ∧ mtot3 m (xs.take (i + 1)) = mtot2 (mtot3 m (xs.take i)) xs[i] ∧ (mks3 m (xs.take i) ++ xs.drop i).getD i [] = xs[i] := by
 induction xs with
 | nil => intro m i hi; simp at hi
 | cons x xs ih =>
  intro m i hi
  cases i with
  | zero => simp [mks3, mtot3]
  | succ i =>
   have h := ih (mtot2 m x) i (by simpa using hi); simp only [List.take_succ_cons, List.drop_succ_cons, mks3, mtot3, List.cons_append, mF, List.getElem_cons_succ, List.getD_cons_succ]; exact ⟨by rw [h.1], h.2.1, h.2.2⟩
theorem len3 (xs : List (List (List Int))) : ∀ m, (mks3 m xs).length = xs.length := by
 induction xs with
 | nil => intro m; rfl
 | cons x xs ih => intro m; simp [mks3, ih]
def MI3 (w0 w w' : World) (ok : Nat → Prop) (A : Option Addr) (cp : Nat) (xs : List (List (List Int))) (m : Int) (i : Nat) : Prop := Below w0.heap.size w0 w' ∧ Kd.S (sS 23 (Kd.slice 3 (Kd.int .i64))) 22 w' w0.heap.size ok (.slice A xs.length cp) (mks3 m (xs.take i) ++ xs.drop i) ∧ Kept w w' ok
theorem mkS3 (m : Int) (w0 w : World) (ok : Nat → Prop) (v : Value) (xs : List (List (List Int))) (hB : Below w0.heap.size w0 w) (hS : Kd.S (sS 23 (Kd.slice 3 (Kd.int .i64))) 22 w w0.heap.size ok v xs) (h0 : 0 ≤ m) (hm : m ≤ 576460752303423488) (hx : mlim3 xs) :
  Calls Try.prog 34 #[v, .int .i64 m] w fun e w' => e = .returned (.int .i64 (mtot3 m xs)) ∧ Kd.S (sS 23 (Kd.slice 3 (Kd.int .i64))) 22 w' w0.heap.size ok v (mks3 m xs) ∧ Below w0.heap.size w0 w' ∧ Kept w w' ok := by
 obtain ⟨A, cp, rfl⟩ := Kd.S_slice hS; have HI := A_ (show MI3 w0 w w ok A cp xs m 0 from ⟨hB, by simpa [mks3] using hS, Kept.refl _ _⟩); have HX := A_ hx; have hxl := hx.1; clear hB hS hx; go_enter Try.func34, Try.ntmps34
 go_wp2
 go_loopg [1, 5] (xs.length + 1) (fun kq v1 v5 w' => ∃ i : Nat, v5 = .int .i64 (i : Int) ∧ v1 = .int .i64 (mtot3 m (xs.take i)) ∧ i ≤ xs.length ∧ xs.length + 1 - i ≤ kq ∧ Aside0 (MI3 w0 w w' ok A cp xs m i))
 case atStart => exact ⟨0, rfl, by simp [mtot3], by omega, by omega, HI⟩
 case round =>
  clear HI; obtain ⟨i, rfl, rfl, hi, hk, HI⟩ := hrel
  by_cases hlt : i < xs.length
  · have cn : decide ((i : Int) < (xs.length : Int)) = true := decide_eq_true (by omega)
    have p1 : (0 ≤ (i : Int)) = True := eq_true (by omega)
    have p2 : ((i : Int) < (xs.length : Int)) = True := eq_true (by omega)
    obtain ⟨hB, hS, hK⟩ := HI.o
    have hll : (mks3 m (xs.take i) ++ xs.drop i).length = xs.length := by rw [List.length_append, len3, List.length_take, List.length_drop]; omega
    have hset := set3 xs m i hlt; obtain ⟨g, cp2, hv2, hgr⟩ := Kd.S_form hS (by omega)
    injection hv2 with ea_ en_ ec_
    subst ea_; obtain ⟨oki, c, hcl, ⟨u, rfl, hM⟩, hcc, hoki, hH⟩ := Kd.S_lend hS [] (i : Int) (by omega) (by omega); rw [Int.toNat_natCast, hset.2.2] at hM
    have hci : wr.cell? ⟨g, i, none⟩ = some u := by
      have h2 := hcc 0 u rfl
      have h3 : (i : Int).toNat * ((sS 23 (Kd.slice 3 (Kd.int .i64)))).sz + 0 = i := by rw [Int.toNat_natCast]; exact Nat.mul_one i
      rw [h3] at h2; exact h2
    have hbd := mtot3_bd (xs.take i) m (fun r hr => HX.o.2 r (List.mem_of_mem_take hr)); rw [List.length_take, Nat.min_eq_left (by omega)] at hbd; have hlx := HX.o.2 _ (List.getElem_mem hlt); obtain ⟨Au, cu, eu⟩ := Kd.S_slice hM; subst eu
    have HBK := A_ (fun (w1 : World) (hr : Kd.S (Kd.slice 3 (Kd.int .i64)) 23 w1 w0.heap.size oki (.slice Au xs[i].length cu) (mks2 (mtot3 m (xs.take i)) xs[i])) (hb : Below w0.heap.size w0 w1) (hk1 : Kept wr w1 oki) =>
      (show MI3 w0 w w1 ok (some ⟨g, 0, none⟩) cp xs m (i + 1) from ⟨hb, by
        have h5 := Kd.H_back (Kd.H_step hH (fun k _ hn hlt2 => hk1.2 k hlt2 hn)) (x' := mks2 (mtot3 m (xs.take i)) xs[i]) ⟨_, rfl, hr⟩ (fun _ h6 => h6); rw [Int.toNat_natCast, hset.1] at h5; exact h5, hK.then_ hk1 (fun k h6 => .inl (hoki k h6).1)⟩))
    have HT := A_ hset.2.1; have HB := A_ hB; have HM := A_ hM; have HL := A_ hlx; obtain ⟨ti, hti⟩ : ∃ ti, ti = mtot3 m (xs.take i) := ⟨_, rfl⟩; rw [← hti] at HBK HT hbd ⊢; have HD := A_ hbd; clear hbd; obtain ⟨xi, hxi⟩ : ∃ xi, xi = xs[i] := ⟨_, rfl⟩; rw [← hxi] at hci HBK HT HM HL; clear hB hS hK hll hset hcc hoki hH hM hlx hti hxi HI hcl ec_ en_ hgr
    go_wp2_with (first | (go_at_call 32; refine (mkS2 ti w0 _ oki _ xi HB.o HM.o (by have := HD.o; omega) (by have := HD.o; omega) HL.o).mono ?_; rintro e w1 ⟨rfl, hr, hb, hk1⟩; have HN := A_ (HBK.o w1 hr hb hk1); clear hr hb hk1))
    go_roundg (xs.length + 1 - (i + 1))
    case measure => omega
    case rel => exact ⟨i + 1, by go_num, by rw [HT.o], by omega, Nat.le_refl _, HN⟩
  · have cn : decide ((i : Int) < (xs.length : Int)) = false := decide_eq_false (by omega)
    have : i = xs.length := by omega
    subst this; have h7 := HI.o; rw [show MI3 w0 w wr ok A cp xs m xs.length = (Below w0.heap.size w0 wr ∧ Kd.S (sS 23 (Kd.slice 3 (Kd.int .i64))) 22 wr w0.heap.size ok (.slice A xs.length cp) (mks3 m (xs.take xs.length) ++ xs.drop xs.length) ∧ Kept w wr ok) from rfl, List.take_length, List.drop_length, List.append_nil] at h7; have H7 := A_ h7; rw [List.take_length]; clear HI h7
    go_wp2
    go_ret
    exact ⟨rfl, H7.o.2.1, H7.o.1, H7.o.2.2⟩
def Un (lo hi : Nat) (Wa W : World) : Prop := hi ≤ W.heap.size ∧ ∀ k, lo ≤ k → k < hi → W.heap[k]? = Wa.heap[k]?
section
variable {α : Type} {d : Kd α} {lo hi e base g : Nat} {Wa W W' : World} {Sx ok : Nat → Prop} {o : Obj} {v a b c f : Value} {xs : List α} {l : List Value} {t : TypeId}
theorem Un.rfl' (W : World) (lo : Nat) : Aside0 (Un lo W.heap.size W W) := ⟨Nat.le_refl _, fun _ _ _ => rfl⟩
theorem Un.below (h : Aside0 (Un lo hi Wa W)) (hb : Below W.heap.size W W') : Aside0 (Un lo hi Wa W') := ⟨Nat.le_trans h.out.1 hb.size, fun k h1 h2 => (hb.block k (Nat.lt_of_lt_of_le h2 h.out.1)).trans (h.out.2 k h1 h2)⟩
theorem Un.kept (h : Aside0 (Un lo hi Wa W)) (hk : Kept W W' Sx) (hs : ∀ k, lo ≤ k → k < hi → ¬ Sx k) : Aside0 (Un lo hi Wa W') := ⟨Nat.le_trans h.out.1 hk.1, fun k h1 h2 => (hk.2 k (Nat.lt_of_lt_of_le h2 h.out.1) (hs k h1 h2)).trans (h.out.2 k h1 h2)⟩
theorem Un.R (u : Aside0 (Un lo hi Wa W)) (h : Aside0 (Kd.R d e Wa base (fun k => (lo ≤ k ∧ k < hi) ∧ ok k) v xs)) : Kd.R d e W base (fun k => (lo ≤ k ∧ k < hi) ∧ ok k) v xs := Kd.R_move h.out (fun k hk => u.o.2 k hk.1.1 hk.1.2)
theorem Un.S (u : Aside0 (Un lo hi Wa W)) (h : Aside0 (Kd.S d e Wa base (fun k => (lo ≤ k ∧ k < hi) ∧ ok k) v xs)) : Kd.S d e W base (fun k => (lo ≤ k ∧ k < hi) ∧ ok k) v xs := Kd.S_move h.out (fun k hk => u.o.2 k hk.1.1 hk.1.2)
theorem bndR (h : Kd.R d e W lo ok v xs) : Aside0 (Kd.R d e W lo (fun k => (lo ≤ k ∧ k < W.heap.size) ∧ ok k) v xs) := ⟨Kd.R_mono (Kd.R_bound h) (fun _ hk => ⟨⟨hk.2.1, hk.2.2.1⟩, hk.1⟩)⟩
theorem bndS (h : Kd.S d e W lo ok v xs) : Aside0 (Kd.S d e W lo (fun k => (lo ≤ k ∧ k < W.heap.size) ∧ ok k) v xs) := ⟨Kd.S_mono (Kd.S_bound h) (fun _ hk => ⟨⟨hk.2.1, hk.2.2.1⟩, hk.1⟩)⟩
theorem kb1 (h : Aside0 (W.heap[g]? = some o)) (hb : Below W.heap.size W W') : Aside0 (W'.heap[g]? = some o) := ⟨blk_below h.out hb⟩
theorem kb2 (h : Aside0 (W.heap[g]? = some o)) (hk : Kept W W' Sx) (hs : ¬ Sx g) : Aside0 (W'.heap[g]? = some o) := ⟨blk_kept h.out hk hs⟩
theorem kb3 {w : World} (h : Aside0 (Below w.heap.size w W)) (hb : Below W.heap.size W W') : Aside0 (Below w.heap.size w W') := ⟨below_step h.out hb⟩
theorem hq3 (h : Aside0 (W.heap[g]? = some (.cells (a :: b :: c :: l).toArray t (0, 0)))) : (W.cell? ⟨g, 0, none⟩ = some a ∧ W.cell? ⟨g, 1, none⟩ = some b ∧ W.cell? ⟨g, 2, none⟩ = some c) ∧ W.frozen? ⟨g, 0, none⟩ = false ∧ W.frozen? ⟨g, 1, none⟩ = false ∧ W.frozen? ⟨g, 2, none⟩ = false :=
 ⟨(bc3 h), blk_frozen h.out 0, blk_frozen h.out 1, blk_frozen h.out 2⟩
theorem hq4 (h : Aside0 (W.heap[g]? = some (.cells (a :: b :: c :: f :: l).toArray t (0, 0)))) : (W.cell? ⟨g, 0, none⟩ = some a ∧ W.cell? ⟨g, 1, none⟩ = some b ∧ W.cell? ⟨g, 2, none⟩ = some c ∧ W.cell? ⟨g, 3, none⟩ = some f) ∧ W.frozen? ⟨g, 0, none⟩ = false ∧ W.frozen? ⟨g, 1, none⟩ = false ∧ W.frozen? ⟨g, 2, none⟩ = false ∧ W.frozen? ⟨g, 3, none⟩ = false :=
 ⟨(bc4 h), blk_frozen h.out 0, blk_frozen h.out 1, blk_frozen h.out 2, blk_frozen h.out 3⟩
theorem read1 {w : World} {A : Option Addr} {n cp : Nat} (h : Kd.R d e w base ok (.slice A n cp) xs) : d.C w A xs.length xs ∧ xs.length ≤ cp := by
 have h2 := Kd.R_reads' h; exact ⟨h2.2.2, by have := h2.1; have := h2.2.1; omega⟩
theorem read2 {w : World} {A : Option Addr} {n cp : Nat} (h : Kd.S d e w base ok (.slice A n cp) xs) : d.C w A xs.length xs ∧ xs.length ≤ cp := read1 (Kd.S_R h)
theorem readS3 {w : World} {A : Option Addr} {n cp : Nat} {ys : List (List (List Int))} (h : Kd.S (sS 23 (Kd.slice 3 (Kd.int .i64))) e w base ok (.slice A n cp) ys) : Kd.C (Kd.slice 23 (Kd.slice 3 (Kd.int .i64))) w A ys.length ys ∧ ys.length ≤ cp := read1 (sS_R h)
theorem tight1 (h : Kd.R d e W base (fun k => (lo ≤ k ∧ k < hi) ∧ ok k) v xs) (hE : d.E = []) : Kd.R d e W base (fun k => (lo ≤ k ∧ k < hi) ∧ some k = v.ownBlock) v xs := Kd.R_mono (Kd.R_tight hE h) (fun k hk => ⟨(h.1 k hk.symm).1, hk⟩)
end
theorem mkSeq (w0 w : World) (b : Int) (v1 v2 : Value) (nx : List (List Int)) (ot : List Int) (ok1 ok2 : Nat → Prop) (hB : Below w0.heap.size w0 w) (h1 : Kd.S (Kd.slice 3 (Kd.int .i64)) 23 w w0.heap.size ok1 v1 nx) (h2 : Kd.R (Kd.int .i64) 3 w w0.heap.size ok2 v2 ot) (hd : ∀ k, ok1 k → ¬ ok2 k) (l1 : mlim2 nx) (l2 : mlim1 ot) :
  Calls Try.prog 12 #[.agg #[.int .i64 b, v1, v2], .int .i64 1] w fun e w' => e = .returned (.int .i64 (mtot2 1 nx + (ot.length : Int))) ∧ Below w0.heap.size w0 w' ∧ Kept w w' (fun k => ok1 k ∨ ok2 k) := by
 obtain ⟨A1, c1, rfl⟩ := Kd.S_slice h1; obtain ⟨A2, c2, rfl⟩ := Kd.R_slice h2; have hbd := mtot2_bd nx 1 l1.2; have HBD := A_ (show (0 : Int) ≤ mtot2 1 nx ∧ mtot2 1 nx ≤ 2305843009213693952 by have := l1.1; omega); have HL1 := A_ l1; have HL2 := A_ l2; have HD := A_ hd; have HB := A_ hB; have H1 := A_ (Kd.S_mono (Kd.S_bound h1) (fun _ hk => (⟨hk.1, hk.2.2.1⟩ : _ ∧ _ < w.heap.size))); have H2 := A_ (Kd.R_mono (Kd.R_bound h2) (fun _ hk => (⟨hk.1, hk.2.2.1⟩ : _ ∧ _ < w.heap.size))); clear hB h1 h2 hd l1 l2 hbd; have hu32 := Try.underlying32; go_enter Try.func12, Try.ntmps12
 go_wp2_with (first | ((with_reducible refine gate_dst (N := 2) rfl ?_); refine box_event rfl (N := 2) rfl (cs := #[.int .i64 b, .slice A1 nx.length c1, .slice A2 ot.length c2]) (t := 32) (by go_simp; done) ?_; intro gb hg wa hbox hb; have BK := A_ hbox; have hq := (hq3 BK).1; have GE := A_ (Nat.le_of_eq hg.symm); replace HB := kb3 HB hb; replace H1 := A_ (Kd.S_below H1.o hb); replace H2 := A_ (Kd.R_below H2.o hb); have HK := A_ (Kept.of_below hb (fun k => ok1 k ∨ ok2 k)); clear hb hbox hg) | (go_at_call 32; refine (mkS2 1 w0 _ _ _ nx HB.o H1.o (by decide) (by decide) HL1.o).mono ?_; rintro e wb ⟨rfl, hr, hb2, hk⟩; have aa := kb2 BK hk (fun h => Nat.lt_irrefl _ (Nat.lt_of_lt_of_le h.2 GE.o)); have hq := (hq3 aa).1; have H3 := A_ (Kd.R_step H2.o (fun k hk2 hlt => hk.2 k hlt (fun h => HD.o k h.1 hk2.1))); have ar := A_ (HK.o.then_ hk (fun k h => .inl (.inl h.1))); have HB2 := A_ hb2; clear hr hb2 hk BK H1 H2) | (go_at_call 33; refine (mkS _ w0 _ _ _ ot HB2.o H3.o HBD.o.1 HBD.o.2 HL2.o).mono ?_; rintro e wc ⟨rfl, hr, hb3, hk⟩; have HE := A_ (And.intro hb3 (ar.o.then_ hk (fun k h => .inl (.inr h.1)))); clear hr hb3 hk))
 go_ret
 exact ⟨rfl, HE.o.1, HE.o.2⟩
theorem mkLin (w0 w : World) (b : Int) (v1 v2 v3 : Value) (rw_ : List Int) (mx : List (List (List Int))) (cl : List Int) (ok1 ok2 ok3 : Nat → Prop) (hB : Below w0.heap.size w0 w) (h1 : Kd.R (Kd.int .i64) 3 w w0.heap.size ok1 v1 rw_) (h2 : Kd.S (sS 23 (Kd.slice 3 (Kd.int .i64))) 22 w w0.heap.size ok2 v2 mx) (h3 : Kd.R (Kd.int .i64) 3 w w0.heap.size ok3 v3 cl)
  (d12 : ∀ k, ok1 k → ¬ ok2 k) (d13 : ∀ k, ok1 k → ¬ ok3 k) (d23 : ∀ k, ok2 k → ¬ ok3 k) (l1 : mlim1 rw_) (l2 : mlim3 mx) (l3 : mlim1 cl) :
  Calls Try.prog 13 #[.agg #[.int .i64 b, v1, v2, v3], .int .i64 1] w fun e w' => e = .returned (.int .i64 (mtot3 (1 + (rw_.length : Int)) mx + (cl.length : Int))) ∧ Kd.R (Kd.int .i64) 3 w' w0.heap.size ok1 v1 (mks1 1 rw_.length) ∧ Kd.S (sS 23 (Kd.slice 3 (Kd.int .i64))) 22 w' w0.heap.size ok2 v2 (mks3 (1 + (rw_.length : Int)) mx) ∧ Kd.R (Kd.int .i64) 3 w' w0.heap.size ok3 v3 (mks1 (mtot3 (1 + (rw_.length : Int)) mx) cl.length) ∧ Below w0.heap.size w0 w' ∧ Kept w w' (fun k => ok1 k ∨ ok2 k ∨ ok3 k) := by
 obtain ⟨A1, c1, rfl⟩ := Kd.R_slice h1; obtain ⟨A2, c2, rfl⟩ := Kd.S_slice h2; obtain ⟨A3, c3, rfl⟩ := Kd.R_slice h3; have hbd := mtot3_bd mx (1 + (rw_.length : Int)) l2.2; have HBD := A_ (show ((0 : Int) ≤ 1 + (rw_.length : Int) ∧ 1 + (rw_.length : Int) ≤ 576460752303423488) ∧ 0 ≤ mtot3 (1 + (rw_.length : Int)) mx ∧ mtot3 (1 + (rw_.length : Int)) mx ≤ 2305843009213693952 by have := l2.1; unfold mlim1 at l1; omega); have HL1 := A_ l1; have HL2 := A_ l2; have HL3 := A_ l3; have D12 := A_ d12; have D13 := A_ d13; have D23 := A_ d23; have HB := A_ hB; have H1 := A_ (Kd.R_mono (Kd.R_bound h1) (fun _ hk => (⟨hk.1, hk.2.2.1⟩ : _ ∧ _ < w.heap.size))); have H2 := A_ (Kd.S_mono (Kd.S_bound h2) (fun _ hk => (⟨hk.1, hk.2.2.1⟩ : _ ∧ _ < w.heap.size))); have H3 := A_ (Kd.R_mono (Kd.R_bound h3) (fun _ hk => (⟨hk.1, hk.2.2.1⟩ : _ ∧ _ < w.heap.size))); clear hB h1 h2 h3 d12 d13 d23 l1 l2 l3 hbd; have hu29 := Try.underlying29; go_enter Try.func13, Try.ntmps13; obtain ⟨ta, hta⟩ : ∃ ta : Int, ta = 1 + (rw_.length : Int) := ⟨_, rfl⟩; rw [← hta] at HBD ⊢; have HTA := A_ hta; clear hta; obtain ⟨tb, htb⟩ : ∃ tb : Int, tb = mtot3 ta mx := ⟨_, rfl⟩; rw [← htb] at HBD ⊢; have HTB := A_ htb; clear htb
 go_wp2_with (first | ((with_reducible refine gate_dst (N := 2) rfl ?_); refine box_event rfl (N := 2) rfl (cs := #[.int .i64 b, .slice A1 rw_.length c1, .slice A2 mx.length c2, .slice A3 cl.length c3]) (t := 29) (by go_simp; done) ?_; intro gb hg wa hbox hb; have BK := A_ hbox; have hq := (hq4 BK).1; have GE := A_ (Nat.le_of_eq hg.symm); replace HB := kb3 HB hb; replace H1 := A_ (Kd.R_below H1.o hb); replace H2 := A_ (Kd.S_below H2.o hb); replace H3 := A_ (Kd.R_below H3.o hb); have HK := A_ (Kept.of_below hb (fun k => ok1 k ∨ ok2 k ∨ ok3 k)); clear hb hbox hg) | (go_at_call 33; refine (mkS 1 w0 _ _ _ rw_ HB.o H1.o (by decide) (by decide) HL1.o).mono ?_; rw [← HTA.o]; rintro e wb ⟨rfl, hr, hb2, hk⟩; have aa := kb2 BK hk (fun h => Nat.lt_irrefl _ (Nat.lt_of_lt_of_le h.2 GE.o)); have hq := (hq4 aa).1; have R1 := A_ hr; have S2 := A_ (Kd.S_step H2.o (fun k hk2 hlt => hk.2 k hlt (fun h => D12.o k h.1 hk2.1))); have R3 := A_ (Kd.R_step H3.o (fun k hk2 hlt => hk.2 k hlt (fun h => D13.o k h.1 hk2.1))); have ar := A_ (HK.o.then_ hk (fun k h => .inl (.inl h.1))); have HB2 := A_ hb2; clear hr hb2 hk BK H1 H2 H3) | (go_at_call 34; refine (mkS3 ta w0 _ _ _ mx HB2.o S2.o HBD.o.1.1 HBD.o.1.2 HL2.o).mono ?_; rw [← HTB.o]; rintro e wc ⟨rfl, hr, hb2, hk⟩; have au := kb2 aa hk (fun h => Nat.lt_irrefl _ (Nat.lt_of_lt_of_le h.2 GE.o)); have hq := (hq4 au).1; have U2 := A_ hr; have T1 := A_ (Kd.R_step R1.o (fun k hk2 hlt => hk.2 k hlt (fun h => D12.o k hk2.1 h.1))); have T3 := A_ (Kd.R_step R3.o (fun k hk2 hlt => hk.2 k hlt (fun h => D23.o k h.1 hk2.1))); have av := A_ (ar.o.then_ hk (fun k h => .inl (.inr (.inl h.1)))); have HB3 := A_ hb2; clear hr hb2 hk aa R1 S2 R3) | (go_at_call 33; refine (mkS tb w0 _ _ _ cl HB3.o T3.o HBD.o.2.1 HBD.o.2.2 HL3.o).mono ?_; rintro e wd ⟨rfl, hr, hb2, hk⟩; have E1 := A_ (Kd.R_step T1.o (fun k hk2 hlt => hk.2 k hlt (fun h => D13.o k hk2.1 h.1))); have E2 := A_ (Kd.S_step U2.o (fun k hk2 hlt => hk.2 k hlt (fun h => D23.o k hk2.1 h.1))); have E3 := A_ hr; have HE := A_ (And.intro hb2 (av.o.then_ hk (fun k h => .inl (.inr (.inr h.1))))); clear hr hb2 hk))
 go_ret
 exact ⟨rfl, Kd.R_mono E1.o (fun _ hk => hk.1), Kd.S_mono E2.o (fun _ hk => hk.1), Kd.R_mono E3.o (fun _ hk => hk.1), HE.o.1, HE.o.2⟩
def mlim1b (l : List Int) : Bool := decide (l.length ≤ 1048576)
def mlim2b (l : List (List Int)) : Bool := decide (l.length ≤ 1048576) && l.all mlim1b
def mlim3b (l : List (List (List Int))) : Bool := decide (l.length ≤ 1024) && l.all mlim2b
theorem mlim1_of {l : List Int} (h : mlim1b l = true) : mlim1 l := by unfold mlim1b at h; unfold mlim1; exact of_decide_eq_true h
theorem mlim2_of {l : List (List Int)} (h : mlim2b l = true) : mlim2 l := by
 unfold mlim2b at h; rw [Bool.and_eq_true, List.all_eq_true] at h; exact ⟨of_decide_eq_true h.1, fun r hr => mlim1_of (h.2 r hr)⟩
theorem mlim3_of {l : List (List (List Int))} (h : mlim3b l = true) : mlim3 l := by
 unfold mlim3b at h; rw [Bool.and_eq_true, List.all_eq_true] at h; exact ⟨of_decide_eq_true h.1, fun r hr => mlim2_of (h.2 r hr)⟩
def laws_FnExactCountingForm.f (k : Nat) (ae : Int) (ab : List (List Int)) (ac : List Int) (a1 : Int) : Option Bool := (laws_szSequence.f k ae ab ac 1048576).bind fun z => if z < 0 then some true else (laws_toSequence.f k ae ab ac).bind fun s => (spec_CountingForm.f k ae ab ac a1).bind fun g => (impl_CountingForm.f k ae ab ac a1).bind fun g2 => (laws_eqLinear.f k g.1 g.2.1 g.2.2.1 g.2.2.2.1 g.1 g.2.1 g.2.2.1 g.2.2.2.1).bind fun e1 => (laws_eqSequence.f k ae ab ac ae ab ac).bind fun e2 => (laws_heldLinear.f k g.1 (mks1 1 g.2.1.length) (mks3 (1 + (g.2.1.length : Int)) g.2.2.1) (mks1 (mtot3 (1 + (g.2.1.length : Int)) g.2.2.1) g.2.2.2.1.length) 1).bind fun q => if s = (ae, ab, ac) ∧ g2 = g ∧ e1 = true ∧ e2 = true ∧ q = mtot3 (1 + (g.2.1.length : Int)) g.2.2.1 + (g.2.2.2.1.length : Int) ∧ (mlim2b ab = true ∧ mlim1b ac = true) ∧ mlim1b g.2.1 = true ∧ mlim3b g.2.2.1 = true ∧ mlim1b g.2.2.2.1 = true then some true else none
set_option maxHeartbeats 16000000 in
set_option maxRecDepth 100000 in
theorem laws_FnExactCountingForm.calls (k : Nat) (ae : Int) (aj : Option Addr) (al : Nat) (ab : List (List Int)) (ak : Option Addr) (am : Nat) (ac : List Int) (a1 : Int) (r : Bool) (w : World) (ap : Kd.C (Kd.slice 3 (Kd.int .i64)) w aj ab.length ab) (an : ab.length ≤ al) (aq : Kd.C (Kd.int .i64) w ak ac.length ac) (ao : ac.length ≤ am) (h : laws_FnExactCountingForm.f k ae ab ac a1 = some r) :
  Calls Try.prog 3 #[.agg #[.int .i64 ae, .slice aj ab.length al, .slice ak ac.length am], .int .i64 a1] w fun e w' => e = .returned (.bool r) ∧ Below w.heap.size w w' := by
 have hu25 := Try.underlying25; have hu29 := Try.underlying29; have hu32 := Try.underlying32; have HR1 := A_ ap; have HC1 := A_ an; have HR2 := A_ aq; have HC2 := A_ ao; clear ap an aq ao; have HB := A_ (Below.refl w.heap.size w); unfold laws_FnExactCountingForm.f at h; obtain ⟨z, hz, h⟩ := Option.bind_eq_some_iff.mp h; have AZ := A_ hz; clear hz
 by_cases cz : z < 0
 · rw [if_pos cz] at h
   have cz0 : decide (z < 0) = true := decide_eq_true cz
   clear cz; obtain rfl := Option.some.inj h; go_enter Try.func3, Try.ntmps3
   go_wp2_with (first | ((with_reducible refine gate_dst (N := 2) rfl ?_); refine box_event rfl (N := 2) rfl (cs := #[.int .i64 ae, .slice aj ab.length al, .slice ak ac.length am]) (t := 25) (by go_simp; done) ?_; intro gA hg wa hbox hb; have aa := A_ hbox; have hq2 := (hq3 aa).1; replace HB := kb3 HB hb; clear hb hbox hg) | (go_at_call 6; refine (laws_szSequence.calls k ae _ _ ab _ _ ac 1048576 z _ (Kd.C_below HR1.o HB.o) HC1.o (Kd.C_below HR2.o HB.o) HC2.o AZ.o).mono ?_; rintro e w2 ⟨rfl, hb⟩; clear hq2; replace aa := kb1 aa hb; have hq2 := (hq3 aa).1; replace HB := kb3 HB hb; clear hb))
   go_ret
   exact ⟨rfl, HB.o⟩
 rw [if_neg cz] at h
 have cz0 : decide (z < 0) = false := decide_eq_false cz
 clear cz; obtain ⟨s, hs, h⟩ := Option.bind_eq_some_iff.mp h; obtain ⟨⟨t1, t2, t3, t4, t5⟩, hg, h⟩ := Option.bind_eq_some_iff.mp h; obtain ⟨g2, hg2, h⟩ := Option.bind_eq_some_iff.mp h; obtain ⟨e1, he1, h⟩ := Option.bind_eq_some_iff.mp h; obtain ⟨e2, he2, h⟩ := Option.bind_eq_some_iff.mp h; obtain ⟨q, hq, h⟩ := Option.bind_eq_some_iff.mp h; dsimp only at h he1 hq; obtain ⟨tm, htm⟩ : ∃ tm : Int, tm = mtot3 (1 + (t2.length : Int)) t3 + (t4.length : Int) := ⟨_, rfl⟩; rw [← htm] at h
 split at h
 case isFalse => cases h
 case isTrue hc =>
 obtain ⟨c1, c2, c3, c4, c5, ⟨c6, c7⟩, c8, c9, c10⟩ := hc; obtain rfl := Option.some.inj h; rw [c1] at hs; rw [c2] at hg2; rw [c3] at he1; rw [c4] at he2; rw [c5] at hq; have AS := A_ hs; have AG := A_ hg; have AI := A_ hg2; have AE := A_ he1; have AQ := A_ he2; have AH := A_ hq; have L1 := A_ (mlim2_of c6); have L2 := A_ (mlim1_of c7); have L3 := A_ (mlim1_of c8); have L4 := A_ (mlim3_of c9); have L5 := A_ (mlim1_of c10); have HTM := A_ htm
 have cm0 : decide (tm < 0) = false := decide_eq_false (by have := mtot3_bd t3 (1 + (t2.length : Int)) L4.o.2; omega)
 have cs0 : decide (mtot2 1 ab + (ac.length : Int) < 0) = false := decide_eq_false (by have := mtot2_bd ab 1 L1.o.2; omega)
 clear c1 c2 c3 c4 c5 c6 c7 c8 c9 c10 hs hg hg2 he1 he2 hq htm h; go_enter Try.func3, Try.ntmps3
 go_upto_region 6 with (first | ((with_reducible refine gate_dst (N := 2) rfl ?_); refine box_event rfl (N := 2) rfl (cs := #[.int .i64 ae, .slice aj ab.length al, .slice ak ac.length am]) (t := 25) (by go_simp; done) ?_; intro gA hg wa hbox hb; have aa := A_ hbox; have hq2 := (hq3 aa).1; replace HB := kb3 HB hb; clear hb hbox hg) | (go_at_call 6; refine (laws_szSequence.calls k ae _ _ ab _ _ ac 1048576 z _ (Kd.C_below HR1.o HB.o) HC1.o (Kd.C_below HR2.o HB.o) HC2.o AZ.o).mono ?_; rintro e w2 ⟨rfl, hb⟩; clear hq2; replace aa := kb1 aa hb; have hq2 := (hq3 aa).1; replace HB := kb3 HB hb; clear hb) | (go_at_call 8; refine (laws_toSequence.calls k ae _ _ ab _ _ ac ae ab ac _ (Kd.C_below HR1.o HB.o) HC1.o (Kd.C_below HR2.o HB.o) HC2.o AS.o).mono ?_; rintro e w3 ⟨va, vb, rfl, ho0, ho1, hb⟩; obtain ⟨Aa, ca, e_⟩ := Kd.S_slice ho0; subst e_; obtain ⟨Ab, cb, e_⟩ := Kd.R_slice ho1; subst e_; have Q1 := A_ ho0; have Q2 := A_ ho1; clear hq2; replace aa := kb1 aa hb; have hq2 := (hq3 aa).1; replace HB := kb3 HB hb; clear hb ho0 ho1) | (go_at_call 7; refine (spec_CountingForm.calls k ae _ _ ab _ _ ac a1 t1 t2 t3 t4 t5 _ (read2 Q1.o).1 (read2 Q1.o).2 (read1 Q2.o).1 (read1 Q2.o).2 AG.o).mono ?_; rintro e w4 ⟨v1, v2, v3, rfl, ho0, ho1, ho2, hb⟩; obtain ⟨A4, c4, e_⟩ := Kd.R_slice ho0; subst e_; obtain ⟨A5, c5, e_⟩ := Kd.R_slice ho1; subst e_; obtain ⟨A6, c6, e_⟩ := Kd.R_slice ho2; subst e_; have X1 := bndR ho0; have X2 := bndR ho1; have X3 := bndR ho2; have U4 := Un.rfl' w4 w3.heap.size; clear hq2; replace aa := kb1 aa hb; have hq2 := (hq3 aa).1; replace HB := kb3 HB hb; clear hb ho0 ho1 ho2 Q1 Q2) | ((with_reducible refine gate_dst (N := 6) rfl ?_); refine box_event rfl (N := 6) rfl (cs := #[.int .i64 0, .slice none 0 0, .slice none 0 0, .slice none 0 0]) (t := 29) (by go_simp; done) ?_; intro g6 hg w5a hbox hb; have ag := A_ hbox; have hqX := hq4 ag; have HBX := A_ hb; have HGX := A_ hg; clear hb hbox hg))
 (try simp only [Act.put, mD, mE, mF])
 generalize h_ : ((((w5a.setCell ⟨g6, 0, none⟩ (.int .i64 t1)).setCell ⟨g6, 1, none⟩ (.slice A4 t2.length c4)).setCell ⟨g6, 2, none⟩ (.slice A5 t3.length c5)).setCell ⟨g6, 3, none⟩ (.slice A6 t4.length c6)) = w5
 have hb : Below w4.heap.size w4 w5 := by rw [← h_]; exact below_set (below_set (below_set (below_set HBX.o (Nat.le_of_eq HGX.o.symm)) (Nat.le_of_eq HGX.o.symm)) (Nat.le_of_eq HGX.o.symm)) (Nat.le_of_eq HGX.o.symm)
 replace ag : Aside0 (w5.heap[g6]? = some (.cells #[.int .i64 t1, .slice A4 t2.length c4, .slice A5 t3.length c5, .slice A6 t4.length c6] 29 (0, 0))) := ⟨by rw [← h_]; exact blk_put (blk_put (blk_put (blk_put ag.o 0 _ rfl) 1 _ rfl) 2 _ rfl) 3 _ rfl⟩; clear h_ HBX hqX hq2; replace aa := kb1 aa hb; have hq2 := (hq3 aa).1; replace U4 := Un.below U4 hb; replace HB := kb3 HB hb; have hq6 := (hq4 ag).1; clear hb; have N2 := A_ (blk_lt aa.o); have N6 := A_ (blk_lt ag.o); have N4 := A_ U4.o.1; have N5 := A_ (below_size HB.o); clear HGX
 go_upto_region 7 with (first | (go_at_call 8; refine (laws_toSequence.calls k ae _ _ ab _ _ ac ae ab ac _ (Kd.C_below HR1.o HB.o) HC1.o (Kd.C_below HR2.o HB.o) HC2.o AS.o).mono ?_; rintro e w6 ⟨va, vb, rfl, ho0, ho1, hb⟩; obtain ⟨A7, c7, e_⟩ := Kd.S_slice ho0; subst e_; obtain ⟨A8, c8, e_⟩ := Kd.R_slice ho1; subst e_; have Y1 := bndS ho0; have Y2 := bndR ho1; have U6 := Un.rfl' w6 w5.heap.size; clear hq2 hq6; replace aa := kb1 aa hb; have hq2 := (hq3 aa).1; replace ag := kb1 ag hb; have hq6 := (hq4 ag).1; replace U4 := Un.below U4 hb; replace HB := kb3 HB hb; clear hb ho0 ho1) | ((with_reducible refine gate_dst (N := 8) rfl ?_); refine box_event rfl (N := 8) rfl (cs := #[.int .i64 0, .slice none 0 0, .slice none 0 0]) (t := 32) (by go_simp; done) ?_; intro g8 hg w7a hbox hb; have af := A_ hbox; have hqX := hq3 af; have HBX := A_ hb; have HGX := A_ hg; clear hb hbox hg))
 (try simp only [Act.put, mD, mE, mF])
 generalize h_ : (((w7a.setCell ⟨g8, 0, none⟩ (.int .i64 ae)).setCell ⟨g8, 1, none⟩ (.slice A7 ab.length c7)).setCell ⟨g8, 2, none⟩ (.slice A8 ac.length c8)) = w7
 have hb : Below w6.heap.size w6 w7 := by rw [← h_]; exact below_set (below_set (below_set HBX.o (Nat.le_of_eq HGX.o.symm)) (Nat.le_of_eq HGX.o.symm)) (Nat.le_of_eq HGX.o.symm)
 replace af : Aside0 (w7.heap[g8]? = some (.cells #[.int .i64 ae, .slice A7 ab.length c7, .slice A8 ac.length c8] 32 (0, 0))) := ⟨by rw [← h_]; exact blk_put (blk_put (blk_put af.o 0 _ rfl) 1 _ rfl) 2 _ rfl⟩; clear h_ HBX hqX hq2 hq6; replace aa := kb1 aa hb; have hq2 := (hq3 aa).1; replace ag := kb1 ag hb; have hq6 := (hq4 ag).1; replace U4 := Un.below U4 hb; replace U6 := Un.below U6 hb; replace HB := kb3 HB hb; have hq8 := (hq3 af).1; clear hb; have N8 := A_ (Nat.le_of_eq HGX.o.symm); have M2 := A_ (blk_lt aa.o); have M6 := A_ (blk_lt ag.o); have M8 := A_ (blk_lt af.o); have M4 := A_ U4.o.1; have M7 := A_ U6.o.1; have M5 := A_ (below_size HB.o); clear HGX
 go_upto_region 8 with (first | (go_at_call 9; refine (impl_CountingForm.callsS k ae _ _ ab _ _ ac a1 t1 t2 t3 t4 t5 _ (Kd.S_V (Kd.S_mono (Un.S U6 Y1) (fun _ _ => trivial))) (read1 (Un.R U6 Y2)).1 (read1 (Un.R U6 Y2)).2 AI.o).mono ?_; rintro e w8 ⟨v1, v2, v3, rfl, ho0, ho1, ho2, hb⟩; obtain ⟨B1, d1, e_⟩ := Kd.R_slice ho0; subst e_; obtain ⟨B2, d2, e_⟩ := Kd.S_slice ho1; subst e_; obtain ⟨B3, d3, e_⟩ := Kd.R_slice ho2; subst e_; have G1 := bndR ho0; have G2 := bndS ho1; have G3 := bndR ho2; have U8 := Un.rfl' w8 w7.heap.size; have K8 := A_ hb.size; clear hq2 hq6 hq8; replace aa := kb1 aa hb; have hq2 := (hq3 aa).1; replace ag := kb1 ag hb; have hq6 := (hq4 ag).1; replace af := kb1 af hb; have hq8 := (hq3 af).1; replace U4 := Un.below U4 hb; replace U6 := Un.below U6 hb; replace HB := kb3 HB hb; clear hb ho0 ho1 ho2) | ((with_reducible refine gate_dst (N := 9) rfl ?_); refine box_event rfl (N := 9) rfl (cs := #[.int .i64 0, .slice none 0 0, .slice none 0 0, .slice none 0 0]) (t := 29) (by go_simp; done) ?_; intro g9 hg w9a hbox hb; have ah := A_ hbox; have hqX := hq4 ah; have HBX := A_ hb; have HGX := A_ hg; clear hb hbox hg))
 (try simp only [Act.put, mD, mE, mF])
 generalize h_ : ((((w9a.setCell ⟨g9, 0, none⟩ (.int .i64 t1)).setCell ⟨g9, 1, none⟩ (.slice B1 t2.length d1)).setCell ⟨g9, 2, none⟩ (.slice B2 t3.length d2)).setCell ⟨g9, 3, none⟩ (.slice B3 t4.length d3)) = w9
 have hb : Below w8.heap.size w8 w9 := by rw [← h_]; exact below_set (below_set (below_set (below_set HBX.o (Nat.le_of_eq HGX.o.symm)) (Nat.le_of_eq HGX.o.symm)) (Nat.le_of_eq HGX.o.symm)) (Nat.le_of_eq HGX.o.symm)
 replace ah : Aside0 (w9.heap[g9]? = some (.cells #[.int .i64 t1, .slice B1 t2.length d1, .slice B2 t3.length d2, .slice B3 t4.length d3] 29 (0, 0))) := ⟨by rw [← h_]; exact blk_put (blk_put (blk_put (blk_put ah.o 0 _ rfl) 1 _ rfl) 2 _ rfl) 3 _ rfl⟩; clear h_ HBX hqX hq2 hq6 hq8; replace aa := kb1 aa hb; have hq2 := (hq3 aa).1; replace ag := kb1 ag hb; have hq6 := (hq4 ag).1; replace af := kb1 af hb; have hq8 := (hq3 af).1; replace U4 := Un.below U4 hb; replace U6 := Un.below U6 hb; replace U8 := Un.below U8 hb; replace HB := kb3 HB hb; have hq9 := (hq4 ah).1; clear hb; have N9 := A_ (Nat.le_of_eq HGX.o.symm); clear HGX
 have ct5 : (t5 != t5) = false := bne_self_eq_false t5
 go_upto_region 10 with (first | (go_at_call 10; refine (laws_eqLinear.calls k t1 _ _ t2 _ _ t3 _ _ t4 t1 _ _ t2 _ _ t3 _ _ t4 true _ (read1 (Un.R U8 G1)).1 (read1 (Un.R U8 G1)).2 (readS3 (Un.S U8 G2)).1 (readS3 (Un.S U8 G2)).2 (read1 (Un.R U8 G3)).1 (read1 (Un.R U8 G3)).2 (read1 (Un.R U4 X1)).1 (read1 (Un.R U4 X1)).2 (read1 (Un.R U4 X2)).1 (read1 (Un.R U4 X2)).2 (read1 (Un.R U4 X3)).1 (read1 (Un.R U4 X3)).2 AE.o).mono ?_; rintro e wb ⟨rfl, hb⟩; clear hq2 hq6 hq8 hq9; replace aa := kb1 aa hb; have hq2 := (hq3 aa).1; replace ag := kb1 ag hb; have hq6 := (hq4 ag).1; replace af := kb1 af hb; have hq8 := (hq3 af).1; replace ah := kb1 ah hb; have hq9 := (hq4 ah).1; replace U4 := Un.below U4 hb; replace U6 := Un.below U6 hb; replace U8 := Un.below U8 hb; replace HB := kb3 HB hb; clear hb))
 try go_wp2
 have hb : Below wb.heap.size wb wb.drew := below_drew (Below.refl _ _)
 clear hq2 hq6 hq8 hq9; replace aa := kb1 aa hb; have hq2 := (hq3 aa).1; replace ag := kb1 ag hb; have hq6 := (hq4 ag).1; replace af := kb1 af hb; have hq8 := (hq3 af).1; replace ah := kb1 ah hb; have hq9 := (hq4 ah).1; replace U4 := Un.below U4 hb; replace U6 := Un.below U6 hb; replace U8 := Un.below U8 hb; replace HB := kb3 HB hb; clear hb hq2 hq6 hq8 hq9; refine start_ (n := 5) (S := fun w' => w'.cell? ⟨g8, 0, none⟩ = some (.int .i64 ae) ∧ w'.cell? ⟨g8, 1, none⟩ = some (.slice A7 ab.length c7) ∧ w'.cell? ⟨g8, 2, none⟩ = some (.slice A8 ac.length c8) ∧ w'.cell? ⟨gA, 0, none⟩ = some (.int .i64 ae) ∧ w'.cell? ⟨gA, 1, none⟩ = some (.slice aj ab.length al) ∧ w'.cell? ⟨gA, 2, none⟩ = some (.slice ak ac.length am)) (ds := []) (mk_ 5 0) (by kernel_rfl) rfl rfl ⟨bz0 af.o, bz1 af.o, bz2 af.o, bz0 aa.o, bz1 aa.o, bz2 aa.o⟩ (fun ai => ?_)
 generalize wb.drew = wc at aa ag af ah U4 U6 U8 HB ai ⊢
 refine take_ (i := 0) (N := some 45) (v := ?_) (a' := ?_) (mk_ 5 1) rfl rfl (by kernel_rfl) (fun _ _ _ h => h) (Or.inl ⟨by rfl, ?_⟩) ai ?_ ?_; rotate_left
 · rintro w' ⟨s0, s1, s2, s3, s4, s5⟩
   go_simp; with_reducible rfl
 rotate_left
 · simp only [Act.put, mD, mE, mF, i64_w, i32_w]
   rfl
 refine take_ (i := 1) (N := some 46) (v := ?_) (a' := ?_) (mk_ 5 3) rfl rfl (by kernel_rfl) (fun _ _ _ h => h) (Or.inl ⟨by rfl, ?_⟩) ai ?_ ?_; rotate_left
 · rintro w' ⟨s0, s1, s2, s3, s4, s5⟩
   go_simp; with_reducible rfl
 rotate_left
 · simp only [Act.put, mD, mE, mF, i64_w, i32_w]
   rfl
 refine one_ (i := 2) (N := some 47) (mk_ 5 7) rfl rfl (by kernel_rfl) (by decide) (fun K hK => ?_); refine goes_ Try.func8 (by kernel_rfl) rfl #[.agg #[.int .i64 ae, .slice aj ab.length al, .slice ak ac.length am]] (by rfl) rfl rfl (by (try simp only [mA, mB, mC]); first | done | rfl) ?_; refine (laws_toSequence.calls k ae _ _ ab _ _ ac ae ab ac _ (Kd.C_below HR1.o HB.o) HC1.o (Kd.C_below HR2.o HB.o) HC2.o AS.o).mono ?_; rintro e wd ⟨va, vb, rfl, ho0, ho1, hb⟩; refine ⟨_, rfl, ?_⟩; obtain ⟨Aa, ca, e_⟩ := Kd.S_slice ho0; subst e_; obtain ⟨Ab, cb, e_⟩ := Kd.R_slice ho1; subst e_; have Q1 := A_ ho0; have Q2 := A_ ho1; replace aa := kb1 aa hb; have hq2 := (hq3 aa).1; replace ag := kb1 ag hb; have hq6 := (hq4 ag).1; replace af := kb1 af hb; have hq8 := (hq3 af).1; replace ah := kb1 ah hb; have hq9 := (hq4 ah).1; replace U4 := Un.below U4 hb; replace U6 := Un.below U6 hb; replace U8 := Un.below U8 hb; replace HB := kb3 HB hb; clear hb ho0 ho1 hq2 hq6 hq8 hq9 ai; refine hK.out _ _ ⟨bz0 af.o, bz1 af.o, bz2 af.o, bz0 aa.o, bz1 aa.o, bz2 aa.o⟩ (fun ai => ?_); clear hK K; refine norm_ (a' := ?_) ?_ ?_; rotate_left
 · show Act.put _ (some 47) _ = _
   simp only [Act.put, mD, mE, mF, i64_w, i32_w]
   rfl
 refine one_ (i := 3) (N := some 48) (mk_ 5 15) rfl rfl (by kernel_rfl) (by decide) (fun K hK => ?_); refine goes_ Try.func11 (by kernel_rfl) rfl #[.agg #[.int .i64 ae, .slice A7 ab.length c7, .slice A8 ac.length c8], .agg #[.int .i64 ae, .slice Aa ab.length ca, .slice Ab ac.length cb]] (by rfl) rfl rfl (by (try simp only [mA, mB, mC]); first | done | rfl) ?_; refine (laws_eqSequence.calls k ae _ _ ab _ _ ac ae _ _ ab _ _ ac true _ (read2 (Un.S U6 Y1)).1 (read2 (Un.S U6 Y1)).2 (read1 (Un.R U6 Y2)).1 (read1 (Un.R U6 Y2)).2 (read2 Q1.o).1 (read2 Q1.o).2 (read1 Q2.o).1 (read1 Q2.o).2 AQ.o).mono ?_; rintro e we ⟨rfl, hb⟩; refine ⟨_, rfl, ?_⟩; replace aa := kb1 aa hb; have hq2 := (hq3 aa).1; replace ag := kb1 ag hb; have hq6 := (hq4 ag).1; replace af := kb1 af hb; have hq8 := (hq3 af).1; replace ah := kb1 ah hb; have hq9 := (hq4 ah).1; replace U4 := Un.below U4 hb; replace U6 := Un.below U6 hb; replace U8 := Un.below U8 hb; replace HB := kb3 HB hb; clear hb hq2 hq6 hq8 hq9 ai Q1 Q2; refine hK.out _ _ ⟨bz0 af.o, bz1 af.o, bz2 af.o, bz0 aa.o, bz1 aa.o, bz2 aa.o⟩ (fun ai => ?_); clear hK K; refine norm_ (a' := ?_) ?_ ?_; rotate_left
 · show Act.put _ (some 48) _ = _
   simp only [Act.put, mD, mE, mF, i64_w, i32_w]
   rfl
 refine pure_ (i := 4) (N := some 49) (v := ?_) (a' := ?_) (mk_ 5 31) rfl rfl (by kernel_rfl) (fun _ _ _ h => h) (Or.inl ⟨by rfl, ?_⟩) ?_ ?_; rotate_left
 · intro w'
   go_simp; with_reducible rfl
 rotate_left
 · simp only [Act.put, mD, mE, mF, i64_w, i32_w]
   rfl
 refine done_ (by kernel_rfl) ?_; clear ai; have hq2 := (hq3 aa).1; have hq6 := (hq4 ag).1; have hq8 := (hq3 af).1; have hq9 := (hq4 ah).1; have hY1 := Kd.S_lower (Un.S U6 Y1) N5.o; have hY2 := tight1 (Kd.R_lower (Un.R U6 Y2) N5.o) rfl; have HY1 := A_ hY1; have HY2 := A_ hY2; clear hY1 hY2
 go_upto_region 14 with (first | (go_at_call 12; refine (mkSeq w _ ae _ _ ab ac _ _ HB.o HY1.o HY2.o (fun k h1 h2 => h1.2 h2.2) L1.o L2.o).mono ?_; rintro e wf ⟨rfl, hb, hk⟩; clear hq2 hq6 hq8 hq9; replace aa := kb2 aa hk (by rintro (h3 | h3) <;> (have h4 := h3.1; have := N2.o; omega)); have hq2 := (hq3 aa).1; replace ag := kb2 ag hk (by rintro (h3 | h3) <;> (have h4 := h3.1; have := N6.o; omega)); have hq6 := (hq4 ag).1; replace af := kb2 af hk (by rintro (h3 | h3) <;> (have h4 := h3.1; have := N8.o; omega)); have hq8 := (hq3 af).1; replace ah := kb2 ah hk (by rintro (h3 | h3) <;> (have h4 := h3.1; have := N9.o; have := K8.o; have := M7.o; omega)); have hq9 := (hq4 ah).1; replace U4 := Un.kept U4 hk (by intro k h1 h2; rintro (h3 | h3) <;> (have h4 := h3.1; have := N4.o; omega)); replace U8 := Un.kept U8 hk (by intro k h1 h2; rintro (h3 | h3) <;> (have h4 := h3.1; have := M7.o; omega)); replace HB := A_ hb; clear hb hk HY1 HY2 U6 Y1 Y2))
 go_upto_region 16 with (first | (go_at_call 10; refine (laws_eqLinear.calls k t1 _ _ t2 _ _ t3 _ _ t4 t1 _ _ t2 _ _ t3 _ _ t4 true _ (read1 (Un.R U8 G1)).1 (read1 (Un.R U8 G1)).2 (readS3 (Un.S U8 G2)).1 (readS3 (Un.S U8 G2)).2 (read1 (Un.R U8 G3)).1 (read1 (Un.R U8 G3)).2 (read1 (Un.R U4 X1)).1 (read1 (Un.R U4 X1)).2 (read1 (Un.R U4 X2)).1 (read1 (Un.R U4 X2)).2 (read1 (Un.R U4 X3)).1 (read1 (Un.R U4 X3)).2 AE.o).mono ?_; rintro e wg ⟨rfl, hb⟩; clear hq2 hq6 hq8 hq9; replace aa := kb1 aa hb; have hq2 := (hq3 aa).1; replace ag := kb1 ag hb; have hq6 := (hq4 ag).1; replace af := kb1 af hb; have hq8 := (hq3 af).1; replace ah := kb1 ah hb; have hq9 := (hq4 ah).1; replace U4 := Un.below U4 hb; replace U8 := Un.below U8 hb; replace HB := kb3 HB hb; clear hb))
 have HG1 := A_ (tight1 (Kd.R_lower (Un.R U8 G1) M5.o) rfl); have HG2 := A_ (Kd.S_lower (Un.S U8 G2) M5.o); have HG3 := A_ (tight1 (Kd.R_lower (Un.R U8 G3) M5.o) rfl); have HNE := A_ (fun k (h1 : some k = (Value.slice B1 t2.length d1).ownBlock) => ((Un.R U8 G1).1 k h1.symm).2)
 go_upto_region 18 with (first | (go_at_call 13; refine (mkLin w _ t1 _ _ _ t2 t3 t4 _ _ _ HB.o HG1.o HG2.o HG3.o (fun k h1 h2 => h2.2.1 h1.2) (fun k h1 h3 => HNE.o k h1.2 h3.2) (fun k h2 h3 => h2.2.2 h3.2) L3.o L4.o L5.o).mono ?_; rw [← HTM.o]; rintro e wh ⟨rfl, hr1, hr2, hr3, hb, hk⟩; have V1 := A_ hr1; have V2 := A_ hr2; have V3 := A_ hr3; have UV := A_ (show Un w7.heap.size w8.heap.size wh wh from ⟨Nat.le_trans U8.o.1 hk.1, fun _ _ _ => rfl⟩); clear hq2 hq6 hq8 hq9; replace aa := kb2 aa hk (by rintro (h3 | h3 | h3) <;> (have h4 := h3.1; have := M2.o; omega)); have hq2 := (hq3 aa).1; replace ag := kb2 ag hk (by rintro (h3 | h3 | h3) <;> (have h4 := h3.1; have := M6.o; omega)); have hq6 := (hq4 ag).1; replace af := kb2 af hk (by rintro (h3 | h3 | h3) <;> (have h4 := h3.1; have := M8.o; omega)); have hq8 := (hq3 af).1; replace ah := kb2 ah hk (by rintro (h3 | h3 | h3) <;> (have h4 := h3.1; have := N9.o; omega)); have hq9 := (hq4 ah).1; replace U4 := Un.kept U4 hk (by intro k h1 h2; rintro (h3 | h3 | h3) <;> (have h4 := h3.1; have := M4.o; omega)); replace HB := A_ hb; clear hb hk hr1 hr2 hr3 HG1 HG2 HG3 HNE U8 G1 G2 G3))
 have ctm : (tm != tm) = false := bne_self_eq_false tm
 go_upto_region 24 with (first | (go_at_call 14; refine calls_of_args (args' := #[.agg #[.int .i64 t1, .slice B1 (mks1 1 t2.length).length d1, .slice B2 (mks3 (1 + (t2.length : Int)) t3).length d2, .slice B3 (mks1 (mtot3 (1 + (t2.length : Int)) t3) t4.length).length d3], .int .i64 1]) (by rw [hlen, len3, hlen]) ?_; refine (laws_heldLinear.calls k t1 _ _ (mks1 1 t2.length) _ _ (mks3 (1 + (t2.length : Int)) t3) _ _ (mks1 (mtot3 (1 + (t2.length : Int)) t3) t4.length) 1 tm _ (read1 (Un.R UV V1)).1 (read1 (Un.R UV V1)).2 (readS3 (Un.S UV V2)).1 (readS3 (Un.S UV V2)).2 (read1 (Un.R UV V3)).1 (read1 (Un.R UV V3)).2 AH.o).mono ?_; rintro e wi ⟨rfl, hb⟩; clear hq2 hq6 hq8 hq9; replace aa := kb1 aa hb; have hq2 := (hq3 aa).1; replace ag := kb1 ag hb; have hq6 := (hq4 ag).1; replace af := kb1 af hb; have hq8 := (hq3 af).1; replace ah := kb1 ah hb; have hq9 := (hq4 ah).1; replace U4 := Un.below U4 hb; replace UV := Un.below UV hb; replace HB := kb3 HB hb; clear hb))
 go_upto_region 25 with (first | (go_at_call 8; refine (laws_toSequence.calls k ae _ _ ab _ _ ac ae ab ac _ (Kd.C_below HR1.o HB.o) HC1.o (Kd.C_below HR2.o HB.o) HC2.o AS.o).mono ?_; rintro e wj ⟨va, vb, rfl, ho0, ho1, hb⟩; obtain ⟨Aa, ca, e_⟩ := Kd.S_slice ho0; subst e_; obtain ⟨Ab, cb, e_⟩ := Kd.R_slice ho1; subst e_; have Q1 := A_ ho0; have Q2 := A_ ho1; clear hq2 hq6 hq8 hq9; replace aa := kb1 aa hb; have hq2 := (hq3 aa).1; replace ag := kb1 ag hb; have hq6 := (hq4 ag).1; replace af := kb1 af hb; have hq8 := (hq3 af).1; replace ah := kb1 ah hb; have hq9 := (hq4 ah).1; replace U4 := Un.below U4 hb; replace UV := Un.below UV hb; replace HB := kb3 HB hb; clear hb ho0 ho1) | (go_at_call 9; refine (impl_CountingForm.callsS k ae _ _ ab _ _ ac a1 t1 t2 t3 t4 t5 _ (Kd.S_V (Kd.S_mono Q1.o (fun _ _ => trivial))) (read1 Q2.o).1 (read1 Q2.o).2 AI.o).mono ?_; rintro e wk ⟨v1, v2, v3, rfl, ho0, ho1, ho2, hb⟩; obtain ⟨C1, f1, e_⟩ := Kd.R_slice ho0; subst e_; obtain ⟨C2, f2, e_⟩ := Kd.S_slice ho1; subst e_; obtain ⟨C3, f3, e_⟩ := Kd.R_slice ho2; subst e_; have H1 := bndR ho0; have H2 := bndS ho1; have H3 := bndR ho2; have U9 := Un.rfl' wk wj.heap.size; clear hq2 hq6 hq8 hq9; replace aa := kb1 aa hb; have hq2 := (hq3 aa).1; replace ag := kb1 ag hb; have hq6 := (hq4 ag).1; replace af := kb1 af hb; have hq8 := (hq3 af).1; replace ah := kb1 ah hb; have hq9 := (hq4 ah).1; replace U4 := Un.below U4 hb; replace UV := Un.below UV hb; replace HB := kb3 HB hb; clear hb ho0 ho1 ho2 Q1 Q2) | ((with_reducible refine gate_dst (N := 14) rfl ?_); refine box_event rfl (N := 14) rfl (cs := #[.int .i64 0, .slice none 0 0, .slice none 0 0, .slice none 0 0]) (t := 29) (by go_simp; done) ?_; intro ge hg wla hbox hb; have BKe := A_ hbox; have hqX := hq4 BKe; have HBX := A_ hb; have HGX := A_ hg; clear hb hbox hg))
 (try simp only [Act.put, mD, mE, mF])
 generalize h_ : ((((wla.setCell ⟨ge, 0, none⟩ (.int .i64 t1)).setCell ⟨ge, 1, none⟩ (.slice C1 t2.length f1)).setCell ⟨ge, 2, none⟩ (.slice C2 t3.length f2)).setCell ⟨ge, 3, none⟩ (.slice C3 t4.length f3)) = wl
 have hb : Below wk.heap.size wk wl := by rw [← h_]; exact below_set (below_set (below_set (below_set HBX.o (Nat.le_of_eq HGX.o.symm)) (Nat.le_of_eq HGX.o.symm)) (Nat.le_of_eq HGX.o.symm)) (Nat.le_of_eq HGX.o.symm)
 replace BKe : Aside0 (wl.heap[ge]? = some (.cells #[.int .i64 t1, .slice C1 t2.length f1, .slice C2 t3.length f2, .slice C3 t4.length f3] 29 (0, 0))) := ⟨by rw [← h_]; exact blk_put (blk_put (blk_put (blk_put BKe.o 0 _ rfl) 1 _ rfl) 2 _ rfl) 3 _ rfl⟩; clear h_ HBX hqX hq2 hq6 hq8 hq9; replace aa := kb1 aa hb; have hq2 := (hq3 aa).1; replace ag := kb1 ag hb; have hq6 := (hq4 ag).1; replace af := kb1 af hb; have hq8 := (hq3 af).1; replace ah := kb1 ah hb; have hq9 := (hq4 ah).1; replace U4 := Un.below U4 hb; replace UV := Un.below UV hb; replace U9 := Un.below U9 hb; replace HB := kb3 HB hb; have hqe := (hq4 BKe).1; clear hb HGX
 go_upto_region 27 with (first | (go_at_call 10; refine (laws_eqLinear.calls k t1 _ _ t2 _ _ t3 _ _ t4 t1 _ _ t2 _ _ t3 _ _ t4 true _ (read1 (Un.R U9 H1)).1 (read1 (Un.R U9 H1)).2 (readS3 (Un.S U9 H2)).1 (readS3 (Un.S U9 H2)).2 (read1 (Un.R U9 H3)).1 (read1 (Un.R U9 H3)).2 (read1 (Un.R U4 X1)).1 (read1 (Un.R U4 X1)).2 (read1 (Un.R U4 X2)).1 (read1 (Un.R U4 X2)).2 (read1 (Un.R U4 X3)).1 (read1 (Un.R U4 X3)).2 AE.o).mono ?_; rintro e wm ⟨rfl, hb⟩; clear hq2 hq6 hq8 hq9 hqe; replace aa := kb1 aa hb; have hq2 := (hq3 aa).1; replace ag := kb1 ag hb; have hq6 := (hq4 ag).1; replace af := kb1 af hb; have hq8 := (hq3 af).1; replace ah := kb1 ah hb; have hq9 := (hq4 ah).1; replace BKe := kb1 BKe hb; have hqe := (hq4 BKe).1; replace U4 := Un.below U4 hb; replace UV := Un.below UV hb; replace U9 := Un.below U9 hb; replace HB := kb3 HB hb; clear hb))
 go_wp2_with (first | (go_at_call 14; refine calls_of_args (args' := #[.agg #[.int .i64 t1, .slice B1 (mks1 1 t2.length).length d1, .slice B2 (mks3 (1 + (t2.length : Int)) t3).length d2, .slice B3 (mks1 (mtot3 (1 + (t2.length : Int)) t3) t4.length).length d3], .int .i64 1]) (by rw [hlen, len3, hlen]) ?_; refine (laws_heldLinear.calls k t1 _ _ (mks1 1 t2.length) _ _ (mks3 (1 + (t2.length : Int)) t3) _ _ (mks1 (mtot3 (1 + (t2.length : Int)) t3) t4.length) 1 tm _ (read1 (Un.R UV V1)).1 (read1 (Un.R UV V1)).2 (readS3 (Un.S UV V2)).1 (readS3 (Un.S UV V2)).2 (read1 (Un.R UV V3)).1 (read1 (Un.R UV V3)).2 AH.o).mono ?_; rintro e wn ⟨rfl, hb⟩; clear hq2 hq6 hq8 hq9 hqe; replace aa := kb1 aa hb; have hq2 := (hq3 aa).1; replace ag := kb1 ag hb; have hq6 := (hq4 ag).1; replace af := kb1 af hb; have hq8 := (hq3 af).1; replace ah := kb1 ah hb; have hq9 := (hq4 ah).1; replace U4 := Un.below U4 hb; replace UV := Un.below UV hb; replace HB := kb3 HB hb; clear hb))
 go_ret
 exact ⟨rfl, HB.o⟩
end Go.Proofs.Ytgmfjcckmapkbaa.PFnExactCountingForm

