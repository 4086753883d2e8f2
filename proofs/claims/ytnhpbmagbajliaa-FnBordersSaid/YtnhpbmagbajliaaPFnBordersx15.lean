/- Walks of the functions that the law reaches. -/
import Derived.Test.YtnhpbmagbajliaaPFnBordersx14
namespace Go.Proofs.Ytnhpbmagbajliaa.PFnBorders
open Go.RowKit Go.Proofs.YtnhpbmagbajliaaW.PrintWords Go.Proofs.YtnhpbmagbajliaaW.PrintLast Go.Proofs.YtnhpbmagbajliaaW.PrintMore
attribute [local go_sem] max2_int min2_int max_two min_two max_three min_three max_four min_four
set_option linter.unusedVariables false
set_option maxHeartbeats 8000000
set_option maxRecDepth 100000
set_option linter.unusedSimpArgs false

def handCmp : List Int → List Int → Int
 | [], [] => 0
 | [], _ :: _ => -1
 | _ :: _, [] => 1
 | x :: a, y :: b => if x < y then -1 else if x > y then 1 else handCmp a b
theorem hand_drop {l : List Int} {i : Nat} (h : i < l.length) : l.drop i = rd l (i : Int) :: l.drop (i + 1) := by
 have : rd l (i : Int) = l[i] := by simp [rd, List.getD_eq_getElem?_getD, List.getElem?_eq_getElem h]
 rw [this]; exact List.drop_eq_getElem_cons h
theorem hand_wr {n : Int} (h0 : -9223372036854775808 ≤ n) (h1 : n ≤ 9223372036854775807) : wrap64 n = n := by unfold wrap64; omega
theorem hand_cmp (a b : Int) : cmp_Compare_int.f a b = some (if a < b then -1 else if a > b then 1 else 0) := by
 simp only [cmp_Compare_int.f, cmp_isNaN_int.f, Option.bind_some]; simp only [bne_self_eq_false, Bool.false_eq_true, if_false]
 split
 ·rfl
 split <;> rfl
theorem hand_cmp_l0 (a b : List Int) (hn : a.length ≤ 4611686018427387904) (d : Nat) : ∀ (i : Nat), i + d = a.length → i ≤ b.length →
  slices_Compare_int_int.l0 (d + 1) a b a (a.length : Int) (i : Int) = some (handCmp (a.drop i) (b.drop i)) := by
 induction d with
 | zero =>
  intro i hi hb; simp only [slices_Compare_int_int.l0]; rw [if_neg (by omega), List.drop_of_length_le (by omega)]
  by_cases h : (a.length : Int) < (b.length : Int)
  ·rw [if_pos h, hand_drop (by omega : i < b.length)]; rfl
  rw [if_neg h, List.drop_of_length_le (by omega)]; rfl
 | succ d ih =>
  intro i hi hb; have hn2 := ih (i + 1) (by omega); rw [slices_Compare_int_int.l0, hand_wr (show -9223372036854775808 ≤ (i : Int) + 1 by omega) (by omega), hand_cmp, Option.bind_some]; rw [hand_drop (by omega : i < a.length), if_pos (by omega), if_pos (by omega), if_pos (by omega)]
  by_cases h : (i : Int) ≥ (b.length : Int)
  ·rw [if_pos h, show b.drop i = [] from List.drop_of_length_le (by omega)]; rfl
  rw [if_neg h, if_pos (by omega), hand_drop (by omega : i < b.length)]; simp only [handCmp]
  by_cases h1 : rd a (i : Int) < rd b (i : Int)
  ·simp only [if_pos h1]; rw [if_neg (by omega)]
  by_cases h2 : rd a (i : Int) > rd b (i : Int)
  ·simp only [if_neg h1, if_pos h2]; rw [if_neg (by omega)]
  simp only [if_neg h1, if_neg h2]; exact hn2 (by omega)
theorem hand_compare (a b : List Int) (hn : a.length ≤ 4611686018427387904) : slices_Compare_int_int.f (a.length + 1) a b = some (handCmp a b) := by
 have h := hand_cmp_l0 a b hn a.length 0 (by omega) (by omega); simp only [slices_Compare_int_int.f]; rw [show ((0 : Nat) : Int) = 0 from rfl] at h; rw [h]
 simp
theorem hand_eq_l0 (a b : List Int) (hab : a.length = b.length) (hn : a.length ≤ 4611686018427387904) (d : Nat) : ∀ (i : Nat), i + d = a.length →
  slices_Equal_int_int.l0 (d + 1) a b (a.length : Int) (i : Int) = some (decide (a.drop i = b.drop i)) := by
 induction d with
 | zero =>
  intro i hi; simp only [slices_Equal_int_int.l0]; rw [if_neg (by omega), List.drop_of_length_le (by omega), List.drop_of_length_le (by omega)]
  simp
 | succ d ih =>
  intro i hi; have hn2 := ih (i + 1) (by omega); rw [slices_Equal_int_int.l0, hand_wr (show -9223372036854775808 ≤ (i : Int) + 1 by omega) (by omega)]; rw [hand_drop (by omega : i < a.length), hand_drop (by omega : i < b.length), if_pos (by omega), if_pos (by omega), if_pos (by omega), if_pos (by omega)]
  by_cases h : rd a (i : Int) = rd b (i : Int)
  ·rw [if_pos h]; refine hn2.trans ?_; rw [h]; simp
  rw [if_neg h]
  simp [h]
theorem hand_equal (a b : List Int) (hn : a.length ≤ 4611686018427387904) : slices_Equal_int_int.f (a.length + 1) a b = some (decide (a = b)) := by
 unfold slices_Equal_int_int.f
 by_cases h : a.length = b.length
 ·rw [if_pos (by omega)]
  have := hand_eq_l0 a b h hn a.length 0 (by omega)
  simpa using this
 rw [if_neg (by omega)]
 have : a ≠ b := fun e => h (by rw [e])
 simp [this]
structure HOrd (c : List Int → List Int → Int) : Prop where
 anti : ∀ a b, c b a = - c a b
 tr : ∀ a b d, c a b ≤ 0 → c b d ≤ 0 → c a d ≤ 0
 zero : ∀ a b, c a b = 0 → a = b
theorem HOrd.self {c : List Int → List Int → Int} (h : HOrd c) (a : List Int) : c a a = 0 := by have := h.anti a a; omega
theorem HOrd.tr1 {c : List Int → List Int → Int} (h : HOrd c) {a b d : List Int} (h1 : c a b < 0) (h2 : c b d ≤ 0) : c a d < 0 := by
 have h3 := h.tr a b d (by omega) h2
 by_cases h4 : c a d = 0
 ·have := h.zero _ _ h4
  subst this
  have := h.anti a b
  omega
 omega
theorem handCmp_anti : ∀ a b : List Int, handCmp b a = - handCmp a b
 | [], [] => rfl
 | [], _ :: _ => rfl
 | _ :: _, [] => rfl
 | x :: a, y :: b => by
  have := handCmp_anti a b
  simp only [handCmp]
  by_cases h1 : x < y
  ·rw [if_pos h1, if_neg (by omega), if_pos (by omega)]; omega
  by_cases h2 : x > y
  ·have h3 : y < x := h2
   simp [h1, h3]
  rw [if_neg h1, if_neg h2, if_neg (by omega), if_neg (by omega)]; exact this
theorem handCmp_zero : ∀ a b : List Int, handCmp a b = 0 → a = b
 | [], [] => fun _ => rfl
 | [], _ :: _ => fun h => absurd h (by simp [handCmp])
 | _ :: _, [] => fun h => absurd h (by simp [handCmp])
 | x :: a, y :: b => fun h => by
  simp only [handCmp] at h
  by_cases h1 : x < y
  ·rw [if_pos h1] at h; omega
  by_cases h2 : x > y
  ·rw [if_neg h1, if_pos h2] at h; omega
  rw [if_neg h1, if_neg h2] at h; rw [handCmp_zero a b h, show x = y by omega]
theorem handCmp_tr : ∀ a b d : List Int, handCmp a b ≤ 0 → handCmp b d ≤ 0 → handCmp a d ≤ 0
 | [], _, [] => fun _ _ => by simp [handCmp]
 | [], _, _ :: _ => fun _ _ => by simp [handCmp]
 | _ :: _, [], _ => fun h _ => absurd h (by simp [handCmp])
 | _ :: _, _ :: _, [] => fun _ h => absurd h (by simp [handCmp])
 | x :: a, y :: b, z :: d => fun h1 h2 => by
  have ih := handCmp_tr a b d; simp only [handCmp] at h1 h2 ⊢
  by_cases e1 : x < y
  ·by_cases e2 : y < z
   ·rw [if_pos (by omega)]; omega
   by_cases e3 : y > z
   ·rw [if_neg e2, if_pos e3] at h2; omega
   rw [if_pos (by omega)]; omega
  by_cases e2 : x > y
  ·rw [if_neg e1, if_pos e2] at h1; omega
  rw [if_neg e1, if_neg e2] at h1
  have : x = y := by omega
  subst this
  by_cases e3 : x < z
  ·rw [if_pos e3]; omega
  by_cases e4 : x > z
  ·rw [if_neg e3, if_pos e4] at h2; omega
  rw [if_neg e3, if_neg e4] at h2 ⊢; exact ih h1 h2
theorem handCmp_ord : HOrd handCmp := ⟨handCmp_anti, handCmp_tr, handCmp_zero⟩
def hins (c : List Int → List Int → Int) (x : List Int) : List (List Int) → List (List Int)
 | [] => [x]
 | y :: l => if c x y < 0 then x :: y :: l else if c x y = 0 then y :: l else y :: hins c x l
def huniq (c : List Int → List Int → Int) (L : List (List Int)) : List (List Int) := L.foldr (hins c) []
theorem hins_mem {c : List Int → List Int → Int} (h : HOrd c) (x z : List Int) : ∀ l, z ∈ hins c x l ↔ z = x ∨ z ∈ l
 | [] => by simp [hins]
 | y :: l => by
  have ih := hins_mem h x z l; unfold hins
  split
  ·simp
  split
  ·rename_i e
   rw [h.zero _ _ e]
   constructor
   ·intro hz; exact .inr hz
   rintro (rfl | hz)
   ·simp
   exact hz
  simp only [List.mem_cons, ih]
  constructor
  ·rintro (h | h | h)
   ·exact .inr (.inl h)
   ·exact .inl h
   exact .inr (.inr h)
  rintro (h | h | h)
  ·exact .inr (.inl h)
  ·exact .inl h
  exact .inr (.inr h)
theorem hins_strict {c : List Int → List Int → Int} (h : HOrd c) (x : List Int) : ∀ l, l.Pairwise (fun a b => c a b < 0) → (hins c x l).Pairwise (fun a b => c a b < 0)
 | [], _ => by simp [hins]
 | y :: l, hl => by
  have ih := hins_strict h x l (List.pairwise_cons.1 hl).2; unfold hins
  split
  ·rename_i e
   refine List.pairwise_cons.2 ⟨fun z hz => ?_, hl⟩
   rcases List.mem_cons.1 hz with rfl | hz
   ·exact e
   exact h.tr1 e (by have := (List.pairwise_cons.1 hl).1 z hz; omega)
  split
  ·exact hl
  rename_i e1 e2
  refine List.pairwise_cons.2 ⟨fun z hz => ?_, ih⟩
  rcases (hins_mem h x z l).1 hz with rfl | hz
  ·have := h.anti z y
   omega
  exact (List.pairwise_cons.1 hl).1 z hz
theorem huniq_mem {c : List Int → List Int → Int} (h : HOrd c) (z : List Int) : ∀ L, z ∈ huniq c L ↔ z ∈ L
 | [] => by simp [huniq]
 | x :: L => by
  have ih := huniq_mem h z L
  show z ∈ hins c x (huniq c L) ↔ _
  rw [hins_mem h, ih, List.mem_cons]
theorem huniq_strict {c : List Int → List Int → Int} (h : HOrd c) : ∀ L, (huniq c L).Pairwise (fun a b => c a b < 0)
 | [] => by simp [huniq]
 | x :: L => hins_strict h x _ (huniq_strict h L)
theorem hstrict_ext {c : List Int → List Int → Int} (h : HOrd c) : ∀ a b : List (List Int), a.Pairwise (fun a b => c a b < 0) → b.Pairwise (fun a b => c a b < 0) → (∀ z, z ∈ a ↔ z ∈ b) → a = b
 | [], [], _, _, _ => rfl
 | [], y :: b, _, _, hm => absurd ((hm y).2 List.mem_cons_self) (by simp)
 | x :: a, [], _, _, hm => absurd ((hm x).1 List.mem_cons_self) (by simp)
 | x :: a, y :: b, ha, hb, hm => by
  have ha' := List.pairwise_cons.1 ha
  have hb' := List.pairwise_cons.1 hb
  have hxy : x = y := by
   rcases List.mem_cons.1 ((hm x).1 List.mem_cons_self) with e | e
   ·exact e
   rcases List.mem_cons.1 ((hm y).2 List.mem_cons_self) with e2 | e2
   ·exact e2.symm
   have h1 := hb'.1 x e; have h2 := ha'.1 y e2
   have := h.anti x y
   omega
  subst hxy; rw [hstrict_ext h a b ha'.2 hb'.2 (fun z => ?_)]
  constructor
  ·intro hz
   rcases List.mem_cons.1 ((hm z).1 (List.mem_cons_of_mem _ hz)) with e | e
   ·subst e; have h1 := ha'.1 z hz; have := h.self z; omega
   exact e
  intro hz
  rcases List.mem_cons.1 ((hm z).2 (List.mem_cons_of_mem _ hz)) with e | e
  ·subst e; have h1 := hb'.1 z hz; have := h.self z; omega
  exact e
/-! what CompactFunc keeps: places of an array of indices, by what the indices' rows are -/
def hkeep (f : Nat → List Int) (d : Array Nat) (j : Nat) : Bool := decide (j = 0 ∨ f d[j]! ≠ f d[j - 1]!)
def hcomp (f : Nat → List Int) (d : Array Nat) (m : Nat) : List Nat := ((List.range m).filter (hkeep f d)).map (d[·]!)
theorem hkeep_lt_one (f : Nat → List Int) (d : Array Nat) : ∀ j, j < 1 → hkeep f d j = true := by
 intro j hj
 have : j = 0 := by omega
 subst this
 simp [hkeep]
theorem hkeep_pos {f : Nat → List Int} {d : Array Nat} {m : Nat} (h : f d[m]! ≠ f d[m - 1]!) : hkeep f d m = true := by simp [hkeep, h]
theorem hkeep_neg {f : Nat → List Int} {d : Array Nat} {m : Nat} (hm : 0 < m) (h : f d[m]! = f d[m - 1]!) : hkeep f d m = false := by
 have : m ≠ 0 := by omega
 simp [hkeep, h, this]
theorem hcomp_succ (f : Nat → List Int) (d : Array Nat) (m : Nat) : hcomp f d (m + 1) = hcomp f d m ++ (if hkeep f d m then [d[m]!] else []) := by
 unfold hcomp; rw [List.range_succ, List.filter_append, List.map_append]
 congr 1
 by_cases h : hkeep f d m <;> simp [h]
theorem hcomp_all (f : Nat → List Int) (d : Array Nat) (m : Nat) (h : ∀ j, j < m → hkeep f d j = true) : hcomp f d m = (List.range m).map (d[·]!) := by
 unfold hcomp; rw [List.filter_eq_self.2 (fun j hj => h j (List.mem_range.1 hj))]
structure HInv (f : Nat → List Int) (d : Array Nat) (m k : Nat) (dk : Array Nat) : Prop where
 size : dk.size = d.size
 len : (hcomp f d m).length = k
 lt : k < m
 low : ∀ j, j < k → (hcomp f d m)[j]? = some dk[j]!
 high : ∀ j, k ≤ j → dk[j]! = d[j]!
open Go.Sort in
theorem HInv.start {f : Nat → List Int} {d : Array Nat} {k0 : Nat} (hall : ∀ j, j < k0 → hkeep f d j = true) (hdup : hkeep f d k0 = false) : HInv f d (k0 + 1) k0 d where
 size := rfl
 len := by rw [hcomp_succ, hdup, hcomp_all f d k0 hall]; simp
 lt := Nat.lt_succ_self _
 low := fun j hj => by rw [hcomp_succ, hdup, hcomp_all f d k0 hall]; simp [hj]
 high := fun _ _ => rfl
open Go.Sort in
theorem HInv.keep {f : Nat → List Int} {d dk : Array Nat} {m k : Nat} (h : HInv f d m k dk) (hm : m < d.size) (hk : hkeep f d m = true) : HInv f d (m + 1) (k + 1) (dk.setIfInBounds k d[m]!) where
 size := by simp [h.size]
 len := by rw [hcomp_succ, hk]; simp [h.len]
 lt := by have := h.lt; omega
 low := fun j hj => by
  rw [hcomp_succ, hk, if_pos rfl]
  by_cases e : j = k
  ·subst e; rw [List.getElem?_append_right (by rw [h.len]; exact Nat.le_refl _), h.len, Nat.sub_self, getElem!_set_same dk j _ (by have := h.lt; have := h.size; omega)]
   rfl
  rw [List.getElem?_append_left (by rw [h.len]; omega), h.low j (by omega), getElem!_set_other dk k j _ e]
 high := fun j hj => by rw [getElem!_set_other dk k j _ (by omega), h.high j (by omega)]
theorem HInv.skip {f : Nat → List Int} {d dk : Array Nat} {m k : Nat} (h : HInv f d m k dk) (hk : hkeep f d m = false) : HInv f d (m + 1) k dk where
 size := h.size
 len := by rw [hcomp_succ, hk]; simpa using h.len
 lt := by have := h.lt; omega
 low := fun j hj => by rw [hcomp_succ, hk]; simpa using h.low j hj
 high := h.high
open Go.Sort Go.Lib in
theorem HInv.done {f : Nat → List Int} {d dk : Array Nat} {k : Nat} (h : HInv f d d.size k dk) (z : Nat) :
  Lib.lay dk k (List.replicate (d.size - k) z) = (hcomp f d d.size ++ List.replicate (d.size - k) z).toArray := by
 have hk := h.lt; have hs := h.size; have hl := h.len
 apply Array.ext_getElem?
 intro j; rw [Lib.lay_get? _ dk k j (by simp; omega), show (hcomp f d d.size ++ List.replicate (d.size - k) z).toArray[j]? = (hcomp f d d.size ++ List.replicate (d.size - k) z)[j]? from List.getElem?_toArray]; simp only [List.length_replicate]
 by_cases e : j < k
 ·rw [if_neg (by omega), List.getElem?_append_left (by omega), h.low j e, getElem!_pos dk j (by omega), Array.getElem?_eq_getElem (by omega)]
 rw [List.getElem?_append_right (by omega), hl]
 by_cases e2 : j < k + (d.size - k)
 ·rw [if_pos ⟨by omega, e2⟩]
 rw [if_neg (by omega), Array.getElem?_eq_none (by omega), List.getElem?_eq_none (by simp; omega)]
open Go.Sort Go.Lib in
theorem hand_store_world (enc : Nat → Value) {w wr : World} {n blk : Nat} {dk : Array Nat} {i : Nat} (hi : i < dk.size) (hwr : wr = putRow enc (Sort.ahead w n) blk 0 dk) (x m : Nat) :
  ((wr.drewN m).setCell ⟨blk, i, none⟩ (enc x)) = putRow enc (Sort.ahead w (n + m)) blk 0 (dk.setIfInBounds i x) := by
 subst hwr; have h := putRow_set enc (Sort.ahead w (n + m)) blk 0 dk i x hi; rw [Nat.zero_add] at h; rw [← h, ← ahead_ahead]
 rfl
open Go.Sort Go.Lib in
set_option maxHeartbeats 4000000 in
set_option maxRecDepth 1000000 in
theorem hand_compact (enc : Nat → Value) (hO : OneCell enc) (f : Nat → List Int) (zr : Nat) (hz : enc zr = .slice none 0 0) (blk cap : Nat) (d : Array Nat) (w : World) (hH : Holds enc w blk 0 d) (hsz : d.size ≤ 4611686018427387904) (hcap : d.size ≤ cap)
  (heq : ∀ (q : Nat) (dk : Array Nat) (x y : Nat), dk.size = d.size → Calls Try.prog 47 #[enc x, enc y] (putRow enc (Sort.ahead w q) blk 0 dk) fun e w' => e = .returned (.bool (decide (f x = f y))) ∧ ∃ m, w' = (putRow enc (Sort.ahead w q) blk 0 dk).drewN m) :
  Calls Try.prog 46 #[.slice (some ⟨blk, 0, none⟩) d.size cap, .func (.func 47) #[] #[]] w fun e w' => e = .returned (.slice (some ⟨blk, 0, none⟩) (hcomp f d d.size).length cap) ∧ ∃ q, w' = putRow enc (Sort.ahead w q) blk 0 (hcomp f d d.size ++ List.replicate (d.size - (hcomp f d d.size).length) zr).toArray := by
 have hcl0 := hO.cells; simp only [Value.cells] at hcl0; have hst := hO.store Try.prog
 have HS := A_ (show ∀ q, (∀ j, j < d.size → hkeep f d j = true) → (hcomp f d d.size).length = d.size ∧ w.drewN q = putRow enc (Sort.ahead w q) blk 0 (hcomp f d d.size ++ List.replicate (d.size - (hcomp f d d.size).length) zr).toArray by
  intro q hall
  have e : hcomp f d d.size = d.toList := by rw [hcomp_all f d _ hall, Lib.range_map_get]
  rw [e]; refine ⟨by simp, ?_⟩; simp only [Array.length_toList, Nat.sub_self, List.replicate_zero, List.append_nil, Array.toArray_toList]; exact (putRow_self enc (Sort.ahead w q) blk 0 d (holds_ahead enc w q blk 0 d hH)).symm)
 have HE := A_ heq; clear heq
 by_cases h2 : d.size < 2
 ·have HH := A_ hH
  have c0b : decide ((d.size : Int) < 2) = true := decide_eq_true (by omega)
  clear hH; go_enter Try.func46, Try.ntmps46
  go_wp2
  go_ret
  obtain ⟨e1, e2⟩ := HS.out 0 (fun j hj => hkeep_lt_one f d j (by omega)); exact ⟨by rw [e1]; rfl, 0, e2⟩
 have c0b : decide ((d.size : Int) < 2) = false := decide_eq_false (by omega)
 go_enter Try.func46, Try.ntmps46
 go_wp2
 go_loopg [5] d.size (fun g s3 wr => ∃ k q : Nat, 1 ≤ k ∧ k ≤ d.size ∧ d.size - k ≤ g ∧ s3 = .int .i64 k ∧ wr = w.drewN q ∧ ∀ j, j < k → hkeep f d j = true)
 case atStart => exact ⟨1, 0, Nat.le_refl _, by omega, by omega, rfl, rfl, hkeep_lt_one f d⟩
 case round =>
  obtain ⟨k, q, hk1, hk, hg, rfl, rfl, hall⟩ := hrel
  by_cases hlt : k < d.size
  ·obtain ⟨c1, f1⟩ := hH k hlt; obtain ⟨c0, f0⟩ := hH (k - 1) (by omega); rw [Nat.zero_add] at c1 c0; have A := A_ hall; have HH := A_ hH; clear hall hH f1 f0
   generalize hx : d[k]! = x at c1
   generalize hy : d[k - 1]! = y at c0
   have B := A_ (And.intro hx hy); clear hx hy; obtain ⟨kp, rfl⟩ : ∃ kp, k = kp + 1 := ⟨k - 1, by omega⟩; rw [Nat.add_sub_cancel] at c0
   have p1 : (0 ≤ ((kp : Int) + 1)) = True := eq_true (by omega)
   have p2 : (((kp : Int) + 1) < (d.size : Int)) = True := eq_true (by omega)
   have p3 : (0 ≤ (kp : Int)) = True := eq_true (by omega)
   have p4 : ((kp : Int) < (d.size : Int)) = True := eq_true (by omega)
   have c3b : decide ((kp : Int) + 1 < (d.size : Int)) = true := decide_eq_true (by omega)
   have CE := A_ (show ∀ n, Calls Try.prog 47 #[enc x, enc y] (w.drewN (q + n)) fun e w' => e = .returned (.bool (decide (f x = f y))) ∧ ∃ m, w' = w.drewN (q + m) by
    intro n; have h := HE.out (q + n) d x y rfl; rw [putRow_self enc (Sort.ahead w (q + n)) blk 0 d (holds_ahead enc w (q + n) blk 0 d HH.out)] at h; refine Calls.mono h ?_; rintro e w' ⟨he, m, hm⟩; exact ⟨he, n + m, by rw [hm, ← Nat.add_assoc]; exact World.drewN_drewN w (q + n) m⟩)
   have hs1 : IntKind.i64.wrap (kp : Int) = (kp : Int) := by rw [i64_w]; exact hand_wr (by omega) (by omega)
   by_cases hdup : f x = f y
   ·rw [decide_eq_true hdup] at CE
    go_wp2_with fail
    go_quiet (first | (go_at_call 47; exact CE.out _))
    go_wp2
    clear c0 c1
    go_loopg [5, 7] d.size (fun g s3 s5 wr => ∃ (kk k2 q2 : Nat) (dk : Array Nat), s3 = .int .i64 kk ∧ s5 = .int .i64 k2 ∧ 1 ≤ k2 ∧ kp + 1 + k2 ≤ d.size ∧ d.size - (kp + 1 + k2) ≤ g ∧ Aside0 (wr = putRow enc (Sort.ahead w q2) blk 0 dk) ∧ Aside0 (HInv f d (kp + 1 + k2) kk dk))
    case atStart => exact ⟨kp + 1, 1, q + nq, d, rfl, rfl, Nat.le_refl _, by omega, by omega, ⟨by show w.drewN (q + nq) = _; rw [show w.drewN (q + nq) = Sort.ahead w (q + nq) from rfl]; exact (putRow_self enc (Sort.ahead w (q + nq)) blk 0 d (holds_ahead enc w (q + nq) blk 0 d HH.out)).symm⟩, ⟨HInv.start A.out (hkeep_neg (by omega) (by have h1_ := B.out.1; have h2_ := B.out.2; rw [Nat.add_sub_cancel] at h2_ ⊢; rw [h1_, h2_]; exact hdup))⟩⟩
    case round =>
     obtain ⟨kk, k2, q2, dk, rfl, rfl, h1, hle, hg2, W2, I2⟩ := hrel; have hkk := I2.out.lt; have hds := I2.out.size
     have hHk : Holds enc wr blk 0 dk := by rw [W2.out]; exact holds_putRow enc _ blk 0 d dk (holds_ahead enc w q2 blk 0 d HH.out) hds
     obtain ⟨k2p, rfl⟩ : ∃ k2p, k2 = k2p + 1 := ⟨k2 - 1, by omega⟩
     by_cases hlt2 : kp + 1 + (k2p + 1) < d.size
     ·obtain ⟨cm, _⟩ := hHk (kp + 1 + (k2p + 1)) (by omega); obtain ⟨cp, _⟩ := hHk (kp + 1 + k2p) (by omega); obtain ⟨ck, fk⟩ := hHk kk (by omega); rw [I2.out.high (kp + 1 + (k2p + 1)) (by omega), Nat.zero_add] at cm; rw [I2.out.high (kp + 1 + k2p) (by omega), Nat.zero_add] at cp; rw [Nat.zero_add] at ck fk; clear hHk
      generalize hu : d[kp + 1 + (k2p + 1)]! = u at cm
      generalize hv : d[kp + 1 + k2p]! = v at cp
      generalize dk[kk]! = old at ck
      have C := A_ (And.intro hu hv); clear hu hv
      have hl2 : ((d.size - (kp + 1) : Nat) : Int) = (d.size : Int) - ((kp : Int) + 1) := by omega
      have c4b : decide ((k2p : Int) + 1 < ((d.size - (kp + 1) : Nat) : Int)) = true := decide_eq_true (by omega)
      have c4c : decide ((k2p : Int) + 1 < (d.size : Int) - ((kp : Int) + 1)) = true := decide_eq_true (by omega)
      have r1 : (0 ≤ ((k2p : Int) + 1)) = True := eq_true (by omega)
      have r2 : (((k2p : Int) + 1) < ((d.size - (kp + 1) : Nat) : Int)) = True := eq_true (by omega)
      have r2c : (((k2p : Int) + 1) < (d.size : Int) - ((kp : Int) + 1)) = True := eq_true (by omega)
      have r3 : (0 ≤ (k2p : Int)) = True := eq_true (by omega)
      have r4 : ((k2p : Int) < ((d.size - (kp + 1) : Nat) : Int)) = True := eq_true (by omega)
      have r4c : ((k2p : Int) < (d.size : Int) - ((kp : Int) + 1)) = True := eq_true (by omega)
      have hs2 : IntKind.i64.wrap (k2p : Int) = (k2p : Int) := by rw [i64_w]; exact hand_wr (by omega) (by omega)
      have CE2 := A_ (show ∀ n, Calls Try.prog 47 #[enc u, enc v] (wr.drewN n) fun e w' => e = .returned (.bool (decide (f u = f v))) ∧ ∃ m, w' = wr.drewN m by
       intro n; have h := HE.out (q2 + n) dk u v hds
       have hw : (putRow enc (Sort.ahead w q2) blk 0 dk).drewN n = putRow enc (Sort.ahead w (q2 + n)) blk 0 dk := by rw [← ahead_ahead]; rfl
       rw [W2.out, hw]; refine Calls.mono h ?_; rintro e w' ⟨he, m, hm⟩; exact ⟨he, n + m, by rw [hm, ← hw]; exact World.drewN_drewN (putRow enc (Sort.ahead w q2) blk 0 dk) n m⟩)
      by_cases huv : f u = f v
      ·rw [decide_eq_true huv] at CE2
       go_wp2_with fail
       go_quiet (first | (go_at_call 47; exact CE2.out _))
       go_wp2
       go_roundg (d.size - (kp + 1 + (k2p + 1 + 1)))
       case measure => omega
       case rel => exact ⟨kk, k2p + 1 + 1, q2 + nq, dk, rfl, by go_num, by omega, by omega, Nat.le_refl _, ⟨by rw [W2.out, ← ahead_ahead]; rfl⟩, ⟨I2.out.skip (hkeep_neg (by omega) (by show f d[kp + 1 + (k2p + 1)]! = f d[kp + 1 + k2p]!; rw [C.out.1, C.out.2]; exact huv))⟩⟩
      rw [decide_eq_false huv] at CE2
      have s1 : (0 ≤ (kk : Int)) = True := eq_true (by omega)
      have s2 : ((kk : Int) < (d.size : Int)) = True := eq_true (by omega)
      go_wp2_with fail
      go_quiet (first | (go_at_call 47; exact CE2.out _))
      go_wp2
      go_roundg (d.size - (kp + 1 + (k2p + 1 + 1)))
      case measure => omega
      case rel => exact ⟨kk + 1, k2p + 1 + 1, q2 + nq, dk.setIfInBounds kk u, by go_num, by go_num, by omega, by omega, Nat.le_refl _, ⟨hand_store_world enc (by omega) W2.out u nq⟩, ⟨by have h_ := I2.out.keep hlt2 (hkeep_pos (by show f d[kp + 1 + (k2p + 1)]! ≠ f d[kp + 1 + k2p]!; rw [C.out.1, C.out.2]; exact huv)); rwa [C.out.1] at h_⟩⟩
     have hend : kp + 1 + (k2p + 1) = d.size := by omega
     have c4b : decide ((k2p : Int) + 1 < ((d.size - (kp + 1) : Nat) : Int)) = false := decide_eq_false (by omega)
     have c4c : decide ((k2p : Int) + 1 < (d.size : Int) - ((kp : Int) + 1)) = false := decide_eq_false (by omega)
     have hcl : ∀ ty, (Builtin.clear_ #[32] ty #[.slice (some ⟨blk, kk, none⟩) (d.size - kk) (cap - kk)]).run Try.prog wr = .ok (.tuple #[]) (wr.setCells blk kk (List.replicate (d.size - kk) (enc zr))) :=
      fun ty => Lib.run_clear_slice wr _ _ ty _ Try.underlying32 (by rw [hz]; exact Try.zeroValue24) (hO.cells zr) (hO zr) blk kk _ _ (by omega) (fun j hj => by have h_ := (hHk (kk + j) (by omega)).1; rw [Nat.zero_add] at h_; rw [h_]; rfl) (fun j hj => by have h_ := (hHk (kk + j) (by omega)).2; rw [Nat.zero_add] at h_; exact h_)
     clear hHk
     go_wp2
     go_ret
     have hI := I2.out; rw [hend] at hI; refine ⟨by rw [hI.len]; rfl, q2, ?_⟩; have hsc := Lib.putRow_setCells enc (Sort.ahead w q2) blk 0 (List.replicate (d.size - kk) zr) dk kk (by simp; omega); rw [Nat.zero_add, List.map_replicate] at hsc; rw [hI.len, ← hI.done zr, ← hsc, ← W2.out, hz]
   rw [decide_eq_false hdup] at CE
   go_wp2_with fail
   go_quiet (first | (go_at_call 47; exact CE.out _))
   go_wp2
   go_roundg (d.size - (kp + 1 + 1))
   case measure => omega
   case rel =>
    refine ⟨kp + 1 + 1, q + nq, by omega, by omega, Nat.le_refl _, by go_num, rfl, fun j hj => ?_⟩
    by_cases e : j = kp + 1
    ·subst e; exact hkeep_pos (by have h1_ := B.out.1; have h2_ := B.out.2; rw [Nat.add_sub_cancel] at h2_ ⊢; rw [h1_, h2_]; exact hdup)
    exact A.out j (by omega)
  have : k = d.size := by omega
  subst this
  have c3b : decide ((d.size : Int) < (d.size : Int)) = false := decide_eq_false (by omega)
  have HH := A_ hH; clear hH
  go_wp2
  go_ret
  obtain ⟨e1, e2⟩ := HS.out q hall; exact ⟨by rw [e1]; rfl, q, e2⟩
open Go.Sort Go.Lib in
theorem HOrd.swo {c : List Int → List Int → Int} (h : HOrd c) (f : Nat → List Int) : SWO (ltOf fun i j => c (f i) (f j)) where
 irrefl x := by simp [ltOf, h.self]
 trans x y z h1 h2 := by
  simp only [ltOf, decide_eq_true_eq] at *; exact h.tr1 h1 (by omega)
 ntrans x y z h1 h2 := by
  simp only [ltOf, decide_eq_false_iff_not] at *; have a1 := h.anti (f x) (f y); have a2 := h.anti (f y) (f z); have a3 := h.anti (f x) (f z)
  have := h.tr (f z) (f y) (f x) (by omega) (by omega)
  omega
theorem hcomp_facts {c : List Int → List Int → Int} (hc : HOrd c) (f : Nat → List Int) (d : Array Nat) (hs : ∀ i j, i < j → j < d.size → c (f d[i]!) (f d[j]!) ≤ 0) :
  ∀ m, m ≤ d.size → (((hcomp f d m).map f).Pairwise (fun a b => c a b < 0)) ∧ (∀ i ∈ hcomp f d m, ∃ j, j < m ∧ i = d[j]!) ∧ (∀ j, j < m → ∃ i ∈ hcomp f d m, f i = f d[j]!) := by
 intro m
 induction m with
 | zero => intro _; simp [hcomp]
 | succ m ih =>
  intro hm; obtain ⟨i1, i2, i3⟩ := ih (by omega); rw [hcomp_succ]
  cases hk : hkeep f d m with
  | true =>
   rw [if_pos rfl]; refine ⟨?_, ?_, ?_⟩
   ·rw [List.map_append, List.pairwise_append]; refine ⟨i1, by simp, fun a ha b hb => ?_⟩; obtain ⟨i, hi, rfl⟩ := List.mem_map.1 ha
    have hb : b = f d[m]! := by simpa using hb
    subst hb; obtain ⟨j, hj, rfl⟩ := i2 i hi; have h1 := hs j m hj (by omega)
    by_cases h0 : c (f d[j]!) (f d[m]!) = 0
    ·have he := hc.zero _ _ h0; simp only [hkeep, decide_eq_true_eq] at hk
     rcases hk with hk | hk
     ·omega
     exfalso
     apply hk
     by_cases hj2 : j = m - 1
     ·rw [← hj2]; exact he.symm
     have h2 := hs j (m - 1) (by omega) (by omega); have h3 := hs (m - 1) m (by omega) (by omega); rw [← he] at h3 ⊢
     have := hc.anti (f d[j]!) (f d[m - 1]!)
     exact hc.zero _ _ (by omega)
    omega
   ·intro i hi
    rcases List.mem_append.1 hi with hi | hi
    ·obtain ⟨j, hj, e⟩ := i2 i hi; exact ⟨j, by omega, e⟩
    exact ⟨m, by omega, by simpa using hi⟩
   intro j hj
   by_cases e : j = m
   ·subst e; exact ⟨d[j]!, by simp, rfl⟩
   obtain ⟨i, hi, e2⟩ := i3 j (by omega); exact ⟨i, List.mem_append_left _ hi, e2⟩
  | false =>
   simp only [hkeep, decide_eq_false_iff_not, not_or, Decidable.not_not] at hk; simp only [Bool.false_eq_true, if_false, List.append_nil]; refine ⟨i1, fun i hi => ?_, fun j hj => ?_⟩
   ·obtain ⟨j, hj, e⟩ := i2 i hi; exact ⟨j, by omega, e⟩
   by_cases e : j = m
   ·subst e; obtain ⟨i, hi, e2⟩ := i3 (j - 1) (by omega); exact ⟨i, hi, by rw [e2, hk.2]⟩
   exact i3 j (by omega)
open Go.Sort Go.Lib in
theorem hcomp_uniq {c : List Int → List Int → Int} (hc : HOrd c) (L : List (List Int)) (d : Array Nat)
  (hp : PermIn 0 (List.range L.length).toArray.size (List.range L.length).toArray d) (hs : SortedIn (ltOf fun i j => c (L.getD i []) (L.getD j [])) 0 (List.range L.length).toArray.size d) :
  d.size = L.length ∧ (hcomp (fun i => L.getD i []) d d.size).map (fun i => L.getD i []) = huniq c L ∧ (∀ i ∈ hcomp (fun i => L.getD i []) d d.size, i < L.length) := by
 have hsz : d.size = L.length := by have := hp.1; simpa using this
 have hperm : d.toList.Perm (List.range L.length) := by
  have h1 := hp.2.2; simp only [List.size_toArray, List.length_range] at h1
  have e1 : (d.extract 0 L.length).toList = d.toList := by rw [← hsz]; simp
  have e2 : ((List.range L.length).toArray.extract 0 L.length).toList = List.range L.length := by
   have : (List.range L.length).toArray.size = L.length := by simp
   conv => lhs; rw [← this]
   simp
  rw [e1, e2] at h1; exact h1
 have hget : ∀ j, j < d.size → d[j]! ∈ d.toList := fun j hj => by rw [getElem!_pos d j hj]; simp
 have hlt : ∀ j, j < d.size → d[j]! < L.length := fun j hj => List.mem_range.1 (hperm.mem_iff.1 (hget j hj))
 have hF := hcomp_facts hc (fun i => L.getD i []) d (fun i j hij hj => by
  have h1 := hs i j (Nat.zero_le _) hij (by simpa [hsz] using hj); simp only [ltOf, decide_eq_false_iff_not] at h1
  have := hc.anti (L.getD d[i]! []) (L.getD d[j]! [])
  show c (L.getD d[i]! []) (L.getD d[j]! []) ≤ 0
  omega) d.size (Nat.le_refl _)
 obtain ⟨f1, f2, f3⟩ := hF; refine ⟨hsz, ?_, fun i hi => ?_⟩
 ·refine hstrict_ext hc _ _ f1 (huniq_strict hc L) (fun z => ?_); rw [huniq_mem hc]
  constructor
  ·intro hz; obtain ⟨i, hi, rfl⟩ := List.mem_map.1 hz; obtain ⟨j, hj, rfl⟩ := f2 i hi
   have := hlt j hj
   simp [List.getD_eq_getElem?_getD, List.getElem?_eq_getElem this]
  intro hz; obtain ⟨i, hi, rfl⟩ := List.getElem_of_mem hz
  have hm : i ∈ d.toList := hperm.mem_iff.2 (List.mem_range.2 hi)
  obtain ⟨j, hj, e⟩ := List.getElem_of_mem hm
  have hj' : j < d.size := by simpa using hj
  obtain ⟨i2, hi2, e2⟩ := f3 j hj'; refine List.mem_map.2 ⟨i2, hi2, ?_⟩; rw [e2, getElem!_pos d j hj']
  have e' : d[j] = i := by simpa using e
  simp [e', List.getD_eq_getElem?_getD, List.getElem?_eq_getElem hi]
 obtain ⟨j, hj, rfl⟩ := f2 i hi; exact hlt j hj
open Go.Sort Go.Lib in
theorem hand_heap {enc : Nat → Value} {w : World} {g n : Nat} {os : Array Obj} {cur : Array Value} {e : TypeId} {fr : Nat × Nat} (d : Array Nat) (hb : w.heap[g]? = some (.cells cur e fr)) :
  (grow (putRow enc (Sort.ahead w n) g 0 d) os).heap[g]? = some (.cells (putCells enc 0 d cur) e fr) := by
 have hg : g < w.heap.size := (Array.getElem?_eq_some_iff.1 hb).1
 rw [Go.Sort.heap_grow_old _ _ (by simpa using hg)]
 simp [putRow, mapBlock, Sort.ahead, Array.getElem?_modify, hb, onCells]
open Go.Sort Go.Lib in
theorem hand_grownBy {enc : Nat → Value} {w : World} {g n : Nat} {os : Array Obj} (d : Array Nat) : w.grownBy (grow (putRow enc (Sort.ahead w n) g 0 d) os) (some g) := by
 refine ⟨rfl, rfl, rfl, by simp, fun k hk hne => ?_⟩; rw [Go.Sort.heap_grow_old _ _ (by simpa using hk)]
 have : g ≠ k := fun e => hne (by rw [e])
 simp [putRow, mapBlock, Sort.ahead, Array.getElem?_modify, this]
open Go.Sort Go.Lib in
theorem hand_take (enc : Nat → Value) (cur : Array Value) (ts us : List Nat) (h : ts.length + us.length ≤ cur.size) : (putCells enc 0 (ts ++ us).toArray cur).toList.take ts.length = ts.map enc := by
 apply List.ext_getElem?
 intro j
 by_cases hj : j < ts.length
 ·rw [List.getElem?_take_of_lt hj, Array.getElem?_toList]
  simp [putCells, hj, show j < cur.size by omega, show j < ts.length + us.length by omega, List.getElem_append_left]
 rw [List.getElem?_take_eq_none (by omega), List.getElem?_eq_none (by simp; omega)]
theorem hand_C_nil (W : World) : Kd.C (Kd.int .i64) W none ([] : List Int).length [] := ⟨rfl, by simp, fun h => absurd h (by simp)⟩
def Cmps (g : Nat) (c : List Int → List Int → Int) : Prop := ∀ (A1 : Option Addr) (c1 : Nat) (l1 : List Int) (A2 : Option Addr) (c2 : Nat) (l2 : List Int) (W : World), Kd.C (Kd.int .i64) W A1 l1.length l1 → l1.length ≤ c1 → Kd.C (Kd.int .i64) W A2 l2.length l2 → l2.length ≤ c2 → l1.length ≤ 1000000 → l2.length ≤ 1000000 →
 Calls Try.prog g #[.slice A1 l1.length c1, .slice A2 l2.length c2] W fun e w' => e = .returned (.int .i64 (c l1 l2)) ∧ ∃ q os', w' = Go.Sort.grow (W.drewN q) os'
set_option maxHeartbeats 4000000 in
theorem hand_compact_none (A : Option Addr) (cap : Nat) (w : World) :
  Calls Try.prog 46 #[.slice A 0 cap, .func (.func 47) #[] #[]] w fun e w' => e = .returned (.slice A 0 cap) ∧ w' = w := by
 go_enter Try.func46, Try.ntmps46
 go_wp2
 go_ret
 exact ⟨rfl, rfl⟩
open Go.Sort Go.Lib in
set_option maxHeartbeats 4000000 in
theorem hand_rows (c : List Int → List Int → Int) (hc : HOrd c) (g : Nat) (eg : ∀ args w, (callFunc g args).run Try.prog w = .ok (.enter g args) w) (hcmp : Cmps g c)
  (N : Nat) (v : Value) (L : List (List Int)) (w : World) (hN : N ≤ w.heap.size) (hS : Kd.S (Kd.slice 3 (Kd.int .i64)) 24 w N (fun _ => True) v L) (hl : L.length ≤ 1000000) (hrow : ∀ x ∈ L, x.length ≤ 1000000) :
  Calls Try.prog 41 #[v, .func (.func g) #[] #[]] w fun e w1 => e = .returned (.tuple #[]) ∧ Below N w w1 ∧
   Calls Try.prog 46 #[v, .func (.func 47) #[] #[]] w1 fun e w2 => ∃ v', e = .returned v' ∧ Kd.S (Kd.slice 3 (Kd.int .i64)) 24 w2 N (fun _ => True) v' (huniq c L) ∧ Below N w1 w2 := by
 obtain ⟨f, h0, inner, ho, hr⟩ := hS; rw [List.length_zipIdx] at ho
 rcases ho.2 with ⟨rfl, hn⟩ | ⟨b, cap, cur, rfl, hb, hh, hncap, hcapm, hsz, htake⟩
 ·have hL : L = [] := by simpa using hn
  subst hL; refine (AnyF.slices_SortFunc_none { Try.sortRows with } none 0 (.func (.func g) #[] #[]) w).mono ?_; rintro e w1 ⟨rfl, rfl⟩; refine ⟨rfl, Below.refl _ _, (hand_compact_none none 0 w1).mono ?_⟩; rintro e w2 ⟨rfl, rfl⟩; exact ⟨_, rfl, Kd.S_nil _ _ _ _ _, Below.refl _ _⟩
 have hblk : b < w.heap.size := (Array.getElem?_eq_some_iff.1 hh).1
 have hil : inner.length = L.length := by have := ho.1; rw [this]; show L.length * 1 = _; omega
 have H1 : ∀ j, (hj : j < L.length) → ∃ u, inner[j]? = some u ∧ (Kd.int .i64).R 3 w N (fun k => ((True ∧ some k ≠ some b) ∧ f k = j)) u L[j] := by
  intro j hj; have h1 := hr.2 j (L[j], j) (Kd.zip_at (List.getElem?_eq_getElem hj)); obtain ⟨u, hu, hR⟩ := h1; refine ⟨u, ?_, hR⟩
  have h2 : ((inner.drop (j * 1)).take 1)[0]? = some u := by
   have h3 : (inner.drop (j * 1)).take 1 = [u] := hu
   rw [h3]; rfl
  rw [List.getElem?_take_of_lt (by omega), List.getElem?_drop] at h2
  simpa using h2
 obtain ⟨enc, henc⟩ : ∃ enc : Nat → Value, enc = fun i => inner.getD i (.slice none 0 0) := ⟨_, rfl⟩; obtain ⟨κ, hκ⟩ : ∃ κ : Nat → List Int, κ = fun i => L.getD i [] := ⟨_, rfl⟩
 have hlen : ∀ i, (κ i).length ≤ 1000000 := by
  intro i; rw [hκ]
  by_cases hi : i < L.length
  ·have h3 : L.getD i [] ∈ L := by simp [List.getD_eq_getElem?_getD, List.getElem?_eq_getElem hi]
   exact hrow _ h3
  simp [List.getD_eq_getElem?_getD, List.getElem?_eq_none (show L.length ≤ i by omega)]
 have HC : ∀ i (W : World), (∀ k, k < w.heap.size → k ≠ b → W.heap[k]? = w.heap[k]?) → ∃ A cp, enc i = .slice A (κ i).length cp ∧ (κ i).length ≤ cp ∧ Kd.C (Kd.int .i64) W A (κ i).length (κ i) := by
  intro i W hW
  by_cases hi : i < L.length
  ·obtain ⟨u, hu, hR⟩ := H1 i hi
   have e1 : enc i = u := by rw [henc]; simp [List.getD_eq_getElem?_getD, hu]
   have e2 : κ i = L[i] := by rw [hκ]; simp [List.getD_eq_getElem?_getD, List.getElem?_eq_getElem hi]
   rw [e1, e2]; have hR2 := Kd.R_step (w1 := W) hR (fun k hk hlt => hW k hlt (fun e => hk.1.2 (by rw [e]))); exact Kd.R_reads hR2
  have e1 : enc i = .slice none 0 0 := by rw [henc]; simp [List.getD_eq_getElem?_getD, List.getElem?_eq_none (show inner.length ≤ i by omega)]
  have e2 : κ i = [] := by rw [hκ]; simp [List.getD_eq_getElem?_getD, List.getElem?_eq_none (show L.length ≤ i by omega)]
  rw [e1, e2]; exact ⟨none, 0, rfl, Nat.le_refl _, hand_C_nil W⟩
 have hO : OneCell enc := by
  intro i; obtain ⟨A, cp, e, _⟩ := HC i w (fun _ _ _ => rfl); rw [e]; rfl
 obtain ⟨d0, hd0⟩ : ∃ d0 : Array Nat, d0 = (List.range L.length).toArray := ⟨_, rfl⟩
 have hds : d0.size = L.length := by rw [hd0]; simp
 have hcur : ∀ j, j < L.length → cur[j]? = some (enc j) := by
  intro j hj; obtain ⟨u, hu, _⟩ := H1 j hj
  have e1 : enc j = u := by rw [henc]; simp [List.getD_eq_getElem?_getD, hu]
  rw [e1, ← Array.getElem?_toList, ← hu, ← htake, List.getElem?_take_of_lt (by show j < L.length * 1; omega)]
 have hH : Holds enc w b 0 d0 := by
  intro j hj
  have hj' : j < L.length := by omega
  refine ⟨?_, by simp [World.frozen?, hh]⟩
  have e1 : d0[j]! = j := by rw [hd0]; simp [hj']
  simp only [World.cell?, hh, Nat.zero_add]; simp only [Option.isSome_none, Bool.false_eq_true, if_false]; rw [hcur j hj', e1]
 have hW : ∀ (m : Nat) (dk : Array Nat) (os : Array Obj), ∀ k, k < w.heap.size → k ≠ b → (sortWorld enc w b 0 m dk os).heap[k]? = w.heap[k]? := fun m dk os k hk hne =>
  (hand_grownBy (enc := enc) (w := w) (g := b) (n := m) (os := os) dk).block k hk (fun e => hne (by injection e))
 have hcmp' : CmpLays1 Try.prog g #[] enc (fun i j => c (κ i) (κ j)) b 0 d0.size w := by
  intro m os dk hs x y; obtain ⟨A1, c1, e1, l1, r1⟩ := HC x (sortWorld enc w b 0 m dk os) (hW m dk os); obtain ⟨A2, c2, e2, l2, r2⟩ := HC y (sortWorld enc w b 0 m dk os) (hW m dk os); have h := hcmp A1 c1 (κ x) A2 c2 (κ y) (sortWorld enc w b 0 m dk os) r1 l1 r2 l2 (hlen x) (hlen y); rw [e1, e2]; exact h
 have hsort := Any.slices_SortFunc Try.sortRows enc hO (fun i j => c (κ i) (κ j)) (hc.swo κ) g #[] b 0 cap d0 w eg hcmp' hH hblk (by omega); rw [hds] at hsort; refine Calls.mono hsort ?_; rintro e w1 ⟨rfl, d', nn, os, hp, hs, rfl⟩; have hU := hcomp_uniq hc L d' (by rw [hd0] at hp; simpa using hp) (by rw [hκ] at hs; simpa using hs); rw [← hκ] at hU; obtain ⟨hd's, hmap, hI⟩ := hU; have hgb := hand_grownBy (enc := enc) (w := w) (g := b) (n := nn) (os := os) d'
 have hbelow : Below N w (sortWorld enc w b 0 nn d' os) := (Below.refl N w).grown hgb hN (fun k hk => by injection hk with hk; omega)
 have hh1 := hand_heap (enc := enc) (n := nn) (os := os) d' hh
 have hsz1 : w.heap.size ≤ (sortWorld enc w b 0 nn d' os).heap.size := hgb.size
 refine ⟨rfl, hbelow, ?_⟩; obtain ⟨w1, hw1⟩ : ∃ w1, w1 = sortWorld enc w b 0 nn d' os := ⟨_, rfl⟩
 have hh1' : w1.heap[b]? = some (.cells (putCells enc 0 d' cur) 24 (0, 0)) := by rw [hw1]; exact hh1
 have hW1 : ∀ k, k < w.heap.size → k ≠ b → w1.heap[k]? = w.heap[k]? := by rw [hw1]; exact hW nn d' os
 rw [← hw1] at hsz1 ⊢
 have hH1 : Holds enc w1 b 0 d' := by
  intro j hj; refine ⟨?_, by simp [World.frozen?, hh1']⟩; simp only [World.cell?, hh1', Nat.zero_add]; simp only [Option.isSome_none, Bool.false_eq_true, if_false]
  have hcs : cur.size = cap := by rw [hsz]; show cap * 1 = cap; omega
  simp [putCells, hj, show j < cur.size by omega]
 have hzr : enc L.length = .slice none 0 0 := by rw [henc]; simp [List.getD_eq_getElem?_getD, List.getElem?_eq_none (show inner.length ≤ L.length by omega)]
 have heq' : ∀ (q : Nat) (dk : Array Nat) (x y : Nat), dk.size = d'.size → Calls Try.prog 47 #[enc x, enc y] (putRow enc (Sort.ahead w1 q) b 0 dk) fun e w' => e = .returned (.bool (decide (κ x = κ y))) ∧ ∃ m, w' = (putRow enc (Sort.ahead w1 q) b 0 dk).drewN m := by
  intro q dk x y _
  have hWq : ∀ k, k < w.heap.size → k ≠ b → (putRow enc (Sort.ahead w1 q) b 0 dk).heap[k]? = w.heap[k]? := by
   intro k hk hne; rw [← hW1 k hk hne]; have hgq := (hand_grownBy (enc := enc) (w := w1) (g := b) (n := q) (os := #[]) dk).block k (by omega) (fun e => hne (by injection e)); rw [grow_empty] at hgq; exact hgq
  obtain ⟨A1, c1, e1, l1, r1⟩ := HC x _ hWq; obtain ⟨A2, c2, e2, l2, r2⟩ := HC y _ hWq; rw [e1, e2]; exact (slices_Equal_int_int.calls ((κ x).length + 1) A1 c1 (κ x) A2 c2 (κ y) _ _ r1 l1 r2 l2 (hand_equal _ _ (by have := hlen x; omega))).mono (fun _ _ ⟨he, m, hm⟩ => ⟨he, m, hm⟩)
 have hcomp' := hand_compact enc hO κ L.length hzr b cap d' w1 hH1 (by omega) (by omega) heq'
 rw [hd's] at hcomp' hmap hI; refine Calls.mono hcomp' ?_; rintro e w2 ⟨rfl, q, rfl⟩; obtain ⟨I, hIe⟩ : ∃ I, I = hcomp κ d' L.length := ⟨_, rfl⟩; rw [← hIe] at hmap hI ⊢
 have hIl : I.length ≤ L.length := by
  rw [hIe]; unfold hcomp; rw [List.length_map]; exact Nat.le_trans (List.length_filter_le _ _) (by simp)
 obtain ⟨arr, harr⟩ : ∃ arr : Array Nat, arr = (I ++ List.replicate (L.length - I.length) L.length).toArray := ⟨_, rfl⟩; rw [← harr]
 have hg2 : w1.grownBy (putRow enc (Sort.ahead w1 q) b 0 arr) (some b) := by
  have h_ := hand_grownBy (enc := enc) (w := w1) (g := b) (n := q) (os := #[]) arr; rw [grow_empty] at h_; exact h_
 have hh2 : (putRow enc (Sort.ahead w1 q) b 0 arr).heap[b]? = some (.cells (putCells enc 0 arr (putCells enc 0 d' cur)) 24 (0, 0)) := by
  have h_ := hand_heap (enc := enc) (n := q) (os := #[]) arr hh1'; rw [grow_empty] at h_; exact h_
 refine ⟨_, rfl, ?_, (Below.refl N w1).grown hg2 (by omega) (fun k hk => by injection hk with hk; omega)⟩; obtain ⟨w2, hw2⟩ : ∃ w2, w2 = putRow enc (Sort.ahead w1 q) b 0 arr := ⟨_, rfl⟩; rw [← hw2] at hh2 hg2 ⊢
 have hW2 : ∀ k, k < w.heap.size → k ≠ b → w2.heap[k]? = w.heap[k]? := fun k hk hne => (hg2.block k (by omega) (fun e => hne (by injection e))).trans (hW1 k hk hne)
 rw [← hmap]
 have hcs : cur.size = cap := by rw [hsz]; show cap * 1 = cap; omega
 have hnd : I.Nodup := by
  have h_ := huniq_strict hc L; rw [← hmap, List.pairwise_map] at h_; refine h_.imp (fun {a b} hab e => ?_); rw [e, hc.self] at hab
  omega
 refine ⟨fun k => I.idxOf (f k), fun k _ => trivial, I.map enc, ⟨by rw [List.length_map, List.length_zipIdx, List.length_map]; show I.length = I.length * 1; omega, .inr ⟨b, cap, _, by rw [List.length_zipIdx, List.length_map], hb, hh2, by rw [List.length_zipIdx, List.length_map]; omega, hcapm, by (show (putCells enc 0 arr (putCells enc 0 d' cur)).size = cap * 1); simp [putCells, hcs], ?_⟩⟩, by rw [List.length_map, List.length_zipIdx, List.length_map]; show I.length = I.length * 1; omega, ?_⟩
 ·rw [harr]; have h_ := hand_take enc (putCells enc 0 d' cur) I (List.replicate (L.length - I.length) L.length) (by simp [putCells, hcs]; omega); rw [List.length_zipIdx, List.length_map]
  show List.take (I.length * 1) _ = _
  rw [Nat.mul_one]; exact h_
 intro j p hj; rw [List.getElem?_zipIdx, Nat.zero_add] at hj; obtain ⟨x, hx, hxp⟩ := Option.map_eq_some_iff.1 hj; subst hxp; rw [List.getElem?_map] at hx; obtain ⟨i, hi, rfl⟩ := Option.map_eq_some_iff.1 hx; obtain ⟨hjl, hji⟩ := List.getElem?_eq_some_iff.1 hi; have hi2 := hI i (by rw [← hji]; exact List.getElem_mem hjl); obtain ⟨u, hu, hR⟩ := H1 i hi2
 have e1 : enc i = u := by rw [henc]; simp [List.getD_eq_getElem?_getD, hu]
 have e2 : κ i = L[i] := by rw [hκ]; simp [List.getD_eq_getElem?_getD, List.getElem?_eq_getElem hi2]
 refine ⟨u, ?_, ?_⟩
 ·show List.take 1 (List.drop (j * 1) (I.map enc)) = [u]
  rw [Nat.mul_one, List.drop_eq_getElem_cons (by simpa using hjl)]
  simp [hji, e1]
 show (Kd.int .i64).R 3 w2 N _ u (κ i)
 rw [e2]; refine Kd.R_mono (Kd.R_step hR (fun k hk hlt => hW2 k hlt (fun e => hk.1.2 (by rw [e])))) (fun k hk => ⟨⟨trivial, hk.1.2⟩, ?_⟩)
 show I.idxOf (f k) = j
 rw [hk.2, ← hji]; exact List.Nodup.idxOf_getElem hnd j hjl
def hok (L : List (List Int)) : Bool := decide (L.length ≤ 1000000) && L.all fun x => decide (x.length ≤ 1000000)
def hwrap (c : List Int → List Int → Int) (L : List (List Int)) : Option (List (List Int)) := if hok L = true then some (huniq c L) else none
theorem hwrap_some {c : List Int → List Int → Int} {L r : List (List Int)} (h : hwrap c L = some r) : L.length ≤ 1000000 ∧ (∀ x ∈ L, x.length ≤ 1000000) ∧ r = huniq c L := by
 unfold hwrap at h
 split at h
 ·rename_i h1
  simp only [hok, Bool.and_eq_true, decide_eq_true_eq, List.all_eq_true] at h1; exact ⟨h1.1, h1.2, (Option.some.inj h).symm⟩
 cases h
theorem hand_enters {f : FuncId} {fn : Func} {c : Code} (hf : Try.prog.funcs[f]? = some fn) (hname : (fn.name == "runtime.NumGoroutine") = false) (hb : fn.body = some c) : ∀ args w, (callFunc f args).run Try.prog w = .ok (.enter f args) w := by
 intro args w
 have h1 : fn.name ≠ "runtime.NumGoroutine" := by simpa using hname
 simp [callFunc, hf, h1, hb, mark]
def handCmpL (a b : List Int) : Int := if a.length < b.length then -1 else if b.length < a.length then 1 else handCmp a b
theorem handCmpL_ord : HOrd handCmpL where
 anti a b := by
  have := handCmp_anti a b
  unfold handCmpL
  by_cases h1 : a.length < b.length
  ·simp [h1, show ¬ b.length < a.length by omega]
  by_cases h2 : b.length < a.length
  ·simp [h1, h2]
  simp [h1, h2, this]
 tr a b d h1 h2 := by
  have := handCmp_tr a b d
  unfold handCmpL at *
  by_cases e1 : a.length < d.length
  ·simp [e1]
  by_cases e2 : d.length < a.length
  ·exfalso
   by_cases e3 : a.length < b.length
   ·have e4 : d.length < b.length := by omega
    simp [e4, show ¬ b.length < d.length by omega] at h2
   by_cases e5 : b.length < a.length
   ·simp [e5, show ¬ a.length < b.length by omega] at h1
   have e6 : d.length < b.length := by omega
   simp [e6, show ¬ b.length < d.length by omega] at h2
  rw [if_neg e1, if_neg e2]
  by_cases e3 : a.length < b.length
  ·have e4 : d.length < b.length := by omega
   simp [e4, show ¬ b.length < d.length by omega] at h2
  by_cases e5 : b.length < a.length
  ·simp [e5, show ¬ a.length < b.length by omega] at h1
  rw [if_neg e3, if_neg e5] at h1; rw [if_neg (by omega), if_neg (by omega)] at h2; exact this h1 h2
 zero a b h := by
  unfold handCmpL at h
  by_cases e1 : a.length < b.length
  ·simp [e1] at h
  by_cases e2 : b.length < a.length
  ·simp [e1, e2] at h
  rw [if_neg e1, if_neg e2] at h; exact handCmp_zero _ _ h
theorem hand_or (x y : Int) : cmp_Or_int.f 4 [x, y] = some (if x = 0 then y else x) := by
 have w1 : wrap64 1 = 1 := hand_wr (by omega) (by omega)
 have w2 : wrap64 2 = 2 := hand_wr (by omega) (by omega)
 have r0 : rd [x, y] 0 = x := rfl
 have r1 : rd [x, y] 1 = y := rfl
 by_cases h1 : x = 0
 ·by_cases h2 : y = 0
  ·subst h1; subst h2; simp [cmp_Or_int.f, cmp_Or_int.l0, w1, w2, r0, r1]
  subst h1; simp [cmp_Or_int.f, cmp_Or_int.l0, w1, w2, r0, r1, h2]
 simp [cmp_Or_int.f, cmp_Or_int.l0, w1, w2, r0, r1, h1]
theorem handCmpL_or (a b : List Int) : (if (if (a.length : Int) < (b.length : Int) then (-1 : Int) else if (a.length : Int) > (b.length : Int) then 1 else 0) = 0 then handCmp a b else (if (a.length : Int) < (b.length : Int) then (-1 : Int) else if (a.length : Int) > (b.length : Int) then 1 else 0)) = handCmpL a b := by
 unfold handCmpL
 by_cases e1 : a.length < b.length
 ·simp [e1, show (a.length : Int) < b.length by omega]
 by_cases e2 : b.length < a.length
 ·simp [e1, e2, show ¬ (a.length : Int) < b.length by omega, show (b.length : Int) < a.length by omega]
 simp [e1, e2, show ¬ (a.length : Int) < b.length by omega, show ¬ (b.length : Int) < a.length by omega]
theorem hand_two (W : World) (x y : Int) : Kd.C (Kd.int .i64) (W.alloc (.cells #[.int .i64 x, .int .i64 y] 3)) (some ⟨W.heap.size, 0, none⟩) [x, y].length [x, y] := by
 refine ⟨rfl, by simp, fun _ => ⟨_, rfl, fun j p hj => ⟨[.int .i64 p], rfl, rfl, fun i u hu => ?_⟩⟩⟩
 have hi : i = 0 := by
  rcases i with _ | i
  ·rfl
  simp at hu
 subst hi
 have hu : Value.int .i64 p = u := by simpa using hu
 subst hu
 rcases j with _ | _ | j
 ·have hp : x = p := by simpa using hj
  subst hp; exact (blk_cell (blk_new W (.cells #[.int .i64 x, .int .i64 y] 3)) 0).trans rfl
 ·have hp : y = p := by simpa using hj
  subst hp; exact (blk_cell (blk_new W (.cells #[.int .i64 x, .int .i64 y] 3)) 1).trans rfl
 simp at hj
theorem hand_grown (W : World) (a b : Nat) (o : Obj) : ((W.drewN a).alloc o).drewN b = Go.Sort.grow (W.drewN (a + b)) #[o] := by
 simp [Go.Sort.grow, World.alloc, World.drewN, Nat.add_assoc]
set_option maxHeartbeats 4000000 in
theorem hand_cmps28 : Cmps 42 handCmpL := by
 intro A1 c1 l1 A2 c2 l2 W r1 h1 r2 h2 n1 n2; have HR1 := A_ r1; have HC1 := A_ h1; have HR2 := A_ r2; have HC2 := A_ h2; have HO := A_ (handCmpL_or l1 l2); have AC := A_ (hand_cmp (l1.length : Int) (l2.length : Int)); obtain ⟨x, hx⟩ : ∃ x : Int, x = if (l1.length : Int) < (l2.length : Int) then (-1 : Int) else if (l1.length : Int) > (l2.length : Int) then 1 else 0 := ⟨_, rfl⟩; rw [← hx] at HO AC; have AS := A_ (hand_compare l1 l2 (by omega)); obtain ⟨y, hy⟩ : ∃ y : Int, y = handCmp l1 l2 := ⟨_, rfl⟩; rw [← hy] at HO AS; have AO := A_ (hand_or x y); rw [HO.out] at AO; have NX := A_ hx; have NY := A_ hy; clear hx hy r1 h1 r2 h2; go_enter Try.func42, Try.ntmps42
 go_wp2_with (first
  | (go_at_call 44; (with_reducible refine (cmp_Compare_int.calls _ _ x _ AC.out).mono ?_); rintro e w' ⟨rfl, ⟨nd, rfl⟩⟩)
  | (go_at_call 45; (with_reducible refine (slices_Compare_int_int.calls (l1.length + 1) _ _ l1 _ _ l2 y _ ?side1 ?side2 ?side3 ?side4 AS.out).mono ?_); (case side1 => repeat (first | exact HR1.out | (with_reducible refine Kd.C_drewN ?_ _) | (with_reducible refine Kd.C_drew ?_))); (case side2 => exact HC1.out); (case side3 => repeat (first | exact HR2.out | (with_reducible refine Kd.C_drewN ?_ _) | (with_reducible refine Kd.C_drew ?_))); (case side4 => exact HC2.out); rintro e w' ⟨rfl, ⟨nd2, rfl⟩⟩)
  | (go_at_call 43; refine (cmp_Or_int.calls 4 _ _ [x, y] (handCmpL l1 l2) _ (hand_two _ x y) ?_ AO.out).mono ?_; exact Nat.le_refl _; rintro e w' ⟨rfl, ⟨nd3, rfl⟩⟩))
 go_ret
 exact ⟨rfl, nd + nd2 + nd3, _, hand_grown W (nd + nd2) nd3 _⟩
mutual
def impl_PalindromesOf.l0 : Nat → List Int → List (List Int) → Int → Int → Option ((List (List Int)))
 | 0, _, _, _, _ => none
 | k + 1, x0, x3, x12, x13 => if x13 < x12 then (impl_PalindromesOf.l1 k x0 x3 x13 (wrap64 (x13 + 1)) x12 x13) else (some x3)
def impl_PalindromesOf.l1 : Nat → List Int → List (List Int) → Int → Int → Int → Int → Option ((List (List Int)))
 | 0, _, _, _, _, _, _ => none
 | k + 1, x0, x3, x4, x5, x12, x13 => if x5 ≤ (x0.length : Int) then (if 0 ≤ x4 then (if x4 ≤ x5 then ((impl_IsPalindrome.f k ((x0.take (x5 : Int).toNat).drop (x4 : Int).toNat)).bind fun t776 => (if t776 = true then ((some (([] : List Int) : List Int)).bind fun y777 => (if y777.length + ((x0.take (x5 : Int).toNat).drop (x4 : Int).toNat).length < 17592186044416 then (if x3.length < 5864062014805 then (impl_PalindromesOf.l1 k x0 (x3 ++ [(y777 ++ ((x0.take (x5 : Int).toNat).drop (x4 : Int).toNat))]) x4 (wrap64 (x5 + 1)) x12 x13) else (none)) else (none))) else (impl_PalindromesOf.l1 k x0 x3 x4 (wrap64 (x5 + 1)) x12 x13))) else (none)) else (none)) else (impl_PalindromesOf.l0 k x0 x3 x12 (wrap64 (x13 + 1)))
end
def impl_PalindromesOf.f (k : Nat) (l0 : List Int) : Option ((List (List Int))) := Option.bind ((some (([] : List (List Int)) : List (List Int))).bind fun y771 => ((impl_isShort.f k l0 64).bind fun t774 => (if t774 = true then (impl_PalindromesOf.l0 k l0 y771 (l0.length : Int) 0) else (some y771)))) (hwrap handCmpL)
theorem impl_PalindromesOf.calls (k : Nat) (A0 : Option Addr) (c0 : Nat) (l0 : List Int) (r : List (List Int)) (w : World) (hr0 : Kd.C (Kd.int .i64) w A0 l0.length l0) (hc0 : l0.length ≤ c0) (h : impl_PalindromesOf.f k l0 = some r) :
  Calls Try.prog 21 #[.slice A0 l0.length c0] w fun e w' => ∃ v0_ : Value, e = .returned (v0_) ∧ Kd.S (Kd.slice 3 (Kd.int .i64)) 24 w' w.heap.size (fun _ => True) v0_ r ∧ Below w.heap.size w w' := by
 have HR0 := A_ hr0; have HC0 := A_ hc0; clear hr0 hc0; have HB := A_ (Below.refl w.heap.size w); obtain ⟨L_, hL_, h2_⟩ := Option.bind_eq_some_iff.mp h; have HW_ := A_ (hwrap_some h2_)
 have H : ((some (([] : List (List Int)) : List (List Int))).bind fun y771 => ((impl_isShort.f k l0 64).bind fun t774 => (if t774 = true then (impl_PalindromesOf.l0 k l0 y771 (l0.length : Int) 0) else (some y771)))) = some L_ := hL_
 clear hL_ h2_ h; obtain ⟨y771, hy771⟩ := ex_ ((([] : List (List Int))) : List (List Int)); replace H : ((impl_isShort.f k l0 64).bind fun t774 => (if t774 = true then (impl_PalindromesOf.l0 k l0 y771 (l0.length : Int) 0) else (some y771))) = some L_ := by (have H2_ := (Option.bind_some _ _).symm.trans H; rw [hy771]; with_reducible exact H2_)
 have Ny771 := A_ hy771; clear hy771; replace H := bA_ H; obtain ⟨t774, A2, H⟩ := H
 by_cases c3 : t774 = true
 ·subst c3; rw [if_pos rfl] at H
  have H' := A_ H
  clear H; go_enter Try.func21, Try.ntmps21
  go_wp2_with (first | ((with_reducible refine gate_dst (N := 6) rfl ?_); refine Kd.S_lit (Kd.slice 3 (Kd.int .i64)) _ 24 ?hg (N := 6) ?hd (xs := ([] : List (List Int))) (inner := []) (ok := fun _ => True) (okp := fun _ => True) ?hr ?hp (fun _ hk => hk) trivial (Below.refl _ _) (Nat.le_refl _) (by simp) ?_; (case hd | hg => rfl); (case hr => go_simp; done); (case hp => exact (Reps.none _ _)); rintro v772 w4 ho5 hb - -; (rw [← Ny771.out] at ho5); have HO773 := A_ (Kd.S_lower ho5 (below_size HB.out)); replace HB := bs_ HB hb; clear hb ho5) | ((with_reducible refine gc_ 40 rfl ?_); refine cD_ E40 8 rfl rfl rfl (impl_isShort.calls k _ _ l0 64 true _ (Kd.C_below HR0.out HB.out) HC0.out A2.out) (by simp only [mA, mB, mC]; rfl) fun nd => ?_))
  go_loopg [3, 13] k (fun kq v3 v13 w' => ∃ (x3_1 : List (List Int)) (x13_1 : Int), v13 = .int .i64 x13_1 ∧ Aside0 (impl_PalindromesOf.l0 kq l0 x3_1 (l0.length : Int) x13_1 = some L_) ∧ Aside0 (kq ≤ k) ∧ Aside0 (Kd.S (Kd.slice 3 (Kd.int .i64)) 24 w' w.heap.size (fun _ => True) v3 x3_1) ∧ Aside0 (Below w.heap.size w w'))
  case atStart => exact ⟨(y771), (0), (by rfl), H', ⟨Nat.le_refl _⟩, ⟨by (with_reducible repeat (first | apply Kd.S_alloc | apply Kd.S_drewN | apply Kd.S_drew)); exact HO773.out⟩, ⟨by repeat (first | (with_reducible first | exact HB.out | apply below_alloc | apply pw_below_drewN | apply below_drew1) | exact HB.out)⟩⟩
  case round =>
   clear H'; obtain ⟨x3_1, x13_1, rfl, HA, HK1, HO_3, HB⟩ := hrel
   cases gk with
   | zero => exact absurd HA.out (by simp [impl_PalindromesOf.l0])
   | succ k1 =>
    have H := HA.out; clear HA; simp only [impl_PalindromesOf.l0] at H
    by_cases c6 : x13_1 < (l0.length : Int)
    ·rw [if_pos c6] at H; have c6b0 := decide_eq_true c6; clear c6
     have H' := A_ H
     clear H
     go_wp2
     go_loopg [3, 5] k1 (fun kq v3 v5 w' => ∃ (x3_2 : List (List Int)) (x5_2 : Int), v5 = .int .i64 x5_2 ∧ Aside0 (impl_PalindromesOf.l1 kq l0 x3_2 x13_1 x5_2 (l0.length : Int) x13_1 = some L_) ∧ Aside0 (kq ≤ k1) ∧ Aside0 (Kd.S (Kd.slice 3 (Kd.int .i64)) 24 w' w.heap.size (fun _ => True) v3 x3_2) ∧ Aside0 (Below w.heap.size w w'))
     case atStart => exact ⟨(x3_1), (wrap64 (x13_1 + 1)), (by rfl), H', ⟨Nat.le_refl _⟩, ⟨HO_3.out⟩, ⟨HB.out⟩⟩
     case round =>
      clear H'
      try clear c6b0
      obtain ⟨x3_2, x5_2, rfl, HA, HK2, HO_3, HB⟩ := hrel
      cases gk with
      | zero => exact absurd HA.out (by simp [impl_PalindromesOf.l1])
      | succ k2 =>
       have H := HA.out; clear HA; simp only [impl_PalindromesOf.l1] at H
       by_cases c7 : x5_2 ≤ (l0.length : Int)
       ·rw [if_pos c7] at H; have c7b0 := decide_eq_true c7; clear c7
        by_cases c8 : 0 ≤ x13_1
        ·rw [if_pos c8] at H; have c8b0 := eq_true c8; have c8b1 := decide_eq_true c8; clear c8
         by_cases c9 : x13_1 ≤ x5_2
         ·rw [if_pos c9] at H; have c9b0 := eq_true c9; have c9b1 := decide_eq_true c9; clear c9; have c10b0 := eq_true (od_ (by assumption) : x5_2 ≤ (l0.length : Int)); replace H := bA_ H; obtain ⟨t776, A11, H⟩ := H
          by_cases c12 : t776 = true
          ·subst c12; rw [if_pos rfl] at H; obtain ⟨y777, hy777⟩ := ex_ ((([] : List Int)) : List Int); replace H : (if y777.length + ((l0.take (x5_2 : Int).toNat).drop (x13_1 : Int).toNat).length < 17592186044416 then (if x3_2.length < 5864062014805 then (impl_PalindromesOf.l1 k2 l0 (x3_2 ++ [(y777 ++ ((l0.take (x5_2 : Int).toNat).drop (x13_1 : Int).toNat))]) x13_1 (wrap64 (x5_2 + 1)) (l0.length : Int) x13_1) else (none)) else (none)) = some L_ := by (have H2_ := (Option.bind_some _ _).symm.trans H; rw [hy777]; with_reducible exact H2_)
           have Ny777 := A_ hy777; clear hy777; have c13b0 := eq_true (od_ (by assumption) : 0 ≤ x13_1); have c14b0 := eq_true (od_ (by assumption) : x13_1 ≤ x5_2); have c15b0 := eq_true (od_ (by assumption) : x5_2 ≤ (l0.length : Int))
           by_cases c16 : y777.length + ((l0.take (x5_2 : Int).toNat).drop (x13_1 : Int).toNat).length < 17592186044416
           ·rw [if_pos c16] at H; have LMc16 := A_ c16; clear c16; obtain ⟨y781, hy781⟩ := ex_ ((y777 ++ ((l0.take (x5_2 : Int).toNat).drop (x13_1 : Int).toNat)) : List Int); replace H : (if x3_2.length < 5864062014805 then (impl_PalindromesOf.l1 k2 l0 (x3_2 ++ [y781]) x13_1 (wrap64 (x5_2 + 1)) (l0.length : Int) x13_1) else (none)) = some L_ := by (rw [hy781]; with_reducible exact H)
            have Ny781 := A_ hy781; clear hy781
            by_cases c17 : x3_2.length < 5864062014805
            ·rw [if_pos c17] at H; have LMc17 := A_ c17; clear c17; obtain ⟨y784, hy784⟩ := ex_ ((x3_2 ++ [y781]) : List (List Int)); replace H : (impl_PalindromesOf.l1 k2 l0 y784 x13_1 (wrap64 (x5_2 + 1)) (l0.length : Int) x13_1) = some L_ := by (rw [hy784]; with_reducible exact H)
             have Ny784 := A_ hy784; clear hy784
             have H' := A_ H
             clear H; obtain ⟨i018, hi018, _, hsz18, _⟩ := info_parts info3; obtain ⟨A18, hcut18, hA18, hC18⟩ := print_mid_of (P := Try.prog) (Value.int .i64) 0 24 3 .i64 .i64 Try.underlying24 hi018 hsz18 A0 c0 l0 x13_1 x5_2 (od_ (by assumption)) (by first | omega | exact od_ (by assumption)) (od_ (by assumption)) HC0.out; have HR775 := A_ (Kd.C_of_reads (h1 := fun _ => rfl) (hA18 _ (Kd.reads_of_C HR0.out))); have HC775 := A_ hC18; clear hA18 hC18 hi018 hsz18
             go_wp2_with (first | ((with_reducible refine gc_ 29 rfl ?_); refine cD_ E29 28 rfl rfl rfl (impl_IsPalindrome.calls k2 _ _ ((l0.take (x5_2 : Int).toNat).drop (x13_1 : Int).toNat) true _ (Kd.C_below HR775.out HB.out) HC775.out A11.out) (by (try simp only [mA, mB, mC]); first | done | (rw [show ((l0.take (x5_2 : Int).toNat).drop (x13_1 : Int).toNat).length = (x5_2.toNat - x13_1.toNat) from (by rw [List.length_drop, List.length_take]; have h_ : (x5_2 : Int) ≤ (l0.length : Int) := od_ (by assumption); omega)] <;> rfl) | rfl | (simp only [List.length_drop, List.length_take]; rfl)) fun nd => ?_) | ((with_reducible refine gd_ 30 rfl ?_); refine RL_ 30 3 [] [] rfl rfl (by go_simp; done) rfl rfl ?_; rintro v778 w19 ho20 hb - -; (rw [← Ny777.out] at ho20); replace HO_3 := A_ (Kd.S_elder' (by (with_reducible repeat (first | apply Kd.S_alloc | apply Kd.S_drewN | apply Kd.S_drew)); exact HO_3.out) (Kd.R_base ho20) hb); have HO779 := A_ (Kd.R_lower ho20 (below_size (by repeat (first | (with_reducible first | exact HB.out | apply below_alloc | apply pw_below_drewN | apply below_drew1) | exact HB.out)))); replace HB := A_ (below_step (by repeat (first | (with_reducible first | exact HB.out | apply below_alloc | apply pw_below_drewN | apply below_drew1) | exact HB.out)) hb); clear hb ho20; obtain ⟨i021, hi021, _, hsz21, _⟩ := info_parts info3; clear hcut18; obtain ⟨A21, hcut21, hA21, hC21⟩ := print_mid_of (P := Try.prog) (Value.int .i64) 0 24 3 .i64 .i64 Try.underlying24 hi021 hsz21 A0 c0 l0 x13_1 x5_2 (od_ (by assumption)) (by first | omega | exact od_ (by assumption)) (od_ (by assumption)) HC0.out; have HR780 := A_ (Kd.C_of_reads (h1 := fun _ => rfl) (hA21 _ (Kd.reads_of_C HR0.out))); have HC780 := A_ hC21; clear hA21 hC21 hi021 hsz21) | ((with_reducible refine gate_builtin (b := .append) (xs := #[.tmp 30, .tmp 34]) rfl ?_); at_builtin; refine Kd.R_append_rows (Kd.int .i64) (w0 := w) w.heap.size rfl (.tmp 30) (.tmp 34) 24 3 (.int .i64 0) 8 rfl Try.underlying24 info3 rfl (by decide) (by omega) v778 y777 ((l0.take (x5_2 : Int).toNat).drop (x13_1 : Int).toNat) _ _ _ (fun _ => True) (fun _ => False) rfl rfl ?aO ?aR (fun _ _ h => h) (fun _ h => h.elim) ?aF ?aB ?aS ?aL ?_; (case aR => first | (rw [← show ((l0.take (x5_2 : Int).toNat).drop (x13_1 : Int).toNat).length = (x5_2.toNat - x13_1.toNat) from (by rw [List.length_drop, List.length_take]; have h_ : (x5_2 : Int) ≤ (l0.length : Int) := od_ (by assumption); omega)]; exact (Kd.C_below HR780.out HB.out)) | (exact (Kd.C_below HR780.out HB.out))); (case aB => exact HB.out); (case aF => exact (fun _ _ => trivial)); (case aO => exact HO779.out); (case aS => exact (below_size HB.out)); (case aL => have := LMc16.out; have hlx_ := (show ((l0.take (x5_2 : Int).toNat).drop (x13_1 : Int).toNat).length = (x5_2.toNat - x13_1.toNat) from (by rw [List.length_drop, List.length_take]; have h_ : (x5_2 : Int) ≤ (l0.length : Int) := od_ (by assumption); omega)); omega); intro v782 w22 ho hb hg hat; rw [← Ny781.out] at ho; replace HO_3 := A_ (Kd.S_after (ok := (fun _ => True)) HO_3.out hg hat); replace HB := A_ (hb); have HO783 := A_ (ho); clear HO779; clear ho hb hg hat; obtain ⟨Ao24, co24, eo24⟩ := Kd.R_slice HO783.out; subst eo24) | ((with_reducible refine gate_builtin (b := .append) (xs := #[.tmp 29, .tmp 36]) rfl ?_); at_builtin; refine Kd.S_append (Kd.slice 3 (Kd.int .i64)) (w0 := w) w.heap.size rfl (.tmp 29) (.tmp 36) 32 24 (.slice none 0 0) 24 rfl Try.underlying32 info24 rfl (by decide) (by omega) u3 x3_2 y781 [.slice Ao24 y781.length co24] (fun _ => True) (fun k_ => some k_ = (.slice Ao24 y781.length co24 : Value).ownBlock) rfl rfl ?aP (fun k_ hk_ => ((Kd.R_mono (ok' := fun k_ => ((fun _ => True)) k_ ∧ some k_ ≠ (u3 : Value).ownBlock) (Kd.R_apart' (HO783.out) (Kd.S_typed HO_3.out) (by decide)) (fun k_ hk => ⟨trivial, hk.2⟩))).1 k_ hk_.symm) ?aF ?aO ?aB ?aS ?aL ?_; (case aP => exact Kd.M_row (Kd.R_mono (Kd.R_tight rfl (Kd.R_mono (ok' := fun k_ => ((fun _ => True)) k_ ∧ some k_ ≠ (u3 : Value).ownBlock) (Kd.R_apart' (HO783.out) (Kd.S_typed HO_3.out) (by decide)) (fun k_ hk => ⟨trivial, hk.2⟩))) (fun _ h_ => h_))); (case aB => exact HB.out); (case aF => exact (fun _ _ => trivial)); (case aO => exact (by exact Kd.S_mono HO_3.out (fun k_ hk => ⟨trivial, fun e_ => hk.2 e_⟩))); (case aS => exact (below_size HB.out)); (case aL => have := LMc17.out; omega); intro v785 w23 ho hb hg hat; rw [← Ny784.out] at ho; replace HB := A_ (hb); have HO786 := A_ (ho); clear HO_3 HO783; clear ho hb hg hat))
             go_roundg k2
             case measure => have := HK1.out; have := HK2.out; omega
             case rel => exact ⟨(y784), (wrap64 (x5_2 + 1)), (by rfl), H', ⟨by have := HK1.out; have := HK2.out; omega⟩, ⟨HO786.out⟩, ⟨HB.out⟩⟩
            rw [if_neg c17] at H
            cases H
           rw [if_neg c16] at H
           cases H
          replace c12 := Bool.eq_false_iff.mpr c12; subst c12; rw [if_neg nf_] at H
          have H' := A_ H
          clear H; obtain ⟨i025, hi025, _, hsz25, _⟩ := info_parts info3; obtain ⟨A25, hcut25, hA25, hC25⟩ := print_mid_of (P := Try.prog) (Value.int .i64) 0 24 3 .i64 .i64 Try.underlying24 hi025 hsz25 A0 c0 l0 x13_1 x5_2 (od_ (by assumption)) (by first | omega | exact od_ (by assumption)) (od_ (by assumption)) HC0.out; have HR775 := A_ (Kd.C_of_reads (h1 := fun _ => rfl) (hA25 _ (Kd.reads_of_C HR0.out))); have HC775 := A_ hC25; clear hA25 hC25 hi025 hsz25
          go_wp2_with (first | ((with_reducible refine gc_ 29 rfl ?_); refine cD_ E29 28 rfl rfl rfl (impl_IsPalindrome.calls k2 _ _ ((l0.take (x5_2 : Int).toNat).drop (x13_1 : Int).toNat) false _ (Kd.C_below HR775.out HB.out) HC775.out A11.out) (by (try simp only [mA, mB, mC]); first | done | (rw [show ((l0.take (x5_2 : Int).toNat).drop (x13_1 : Int).toNat).length = (x5_2.toNat - x13_1.toNat) from (by rw [List.length_drop, List.length_take]; have h_ : (x5_2 : Int) ≤ (l0.length : Int) := od_ (by assumption); omega)] <;> rfl) | rfl | (simp only [List.length_drop, List.length_take]; rfl)) fun nd => ?_))
          go_roundg k2
          case measure => have := HK1.out; have := HK2.out; omega
          case rel => exact ⟨(x3_2), (wrap64 (x5_2 + 1)), (by rfl), H', ⟨by have := HK1.out; have := HK2.out; omega⟩, ⟨by (with_reducible repeat (first | apply Kd.S_alloc | apply Kd.S_drewN | apply Kd.S_drew)); exact HO_3.out⟩, ⟨by repeat (first | (with_reducible first | exact HB.out | apply below_alloc | apply pw_below_drewN | apply below_drew1) | exact HB.out)⟩⟩
         rw [if_neg c9] at H
         cases H
        rw [if_neg c8] at H
        cases H
       rw [if_neg c7] at H; have c7b0 := decide_eq_false c7; clear c7
       have H' := A_ H
       clear H
       go_wp2
       go_roundg k2
       case measure => have := HK1.out; have := HK2.out; omega
       case rel => exact ⟨(x3_2), (wrap64 (x13_1 + 1)), (by rfl), H', ⟨by have := HK1.out; have := HK2.out; omega⟩, ⟨HO_3.out⟩, ⟨HB.out⟩⟩
    rw [if_neg c6] at H; have c6b0 := decide_eq_false c6; clear c6; obtain rfl := Option.some.inj H; have HH := A_ (hand_rows handCmpL handCmpL_ord 42 (hand_enters Try.func42 (by kernel_rfl) rfl) hand_cmps28 w.heap.size _ _ _ (below_size HB.out) HO_3.out HW_.out.1 HW_.out.2.1); obtain ⟨Az_, cz_, hv_⟩ := Kd.R_slice (Kd.S_R HO_3.out); subst hv_
    go_wp2_with (first | (go_at_call 41; refine HH.out.mono ?_; rintro e w1 ⟨rfl, hb1, hc1⟩; have HB1 := A_ hb1; have HC1_ := A_ hc1; clear hb1 hc1) | (go_at_call 46; refine HC1_.out.mono ?_; rintro e w2 ⟨v', rfl, hs2, hb2⟩; have HS2 := A_ hs2; have HB2 := A_ hb2; clear hs2 hb2))
    go_ret
    obtain rfl := HW_.out.2.2; exact ⟨v', rfl, HS2.out, HB.out.trans (HB1.out.trans HB2.out)⟩
 replace c3 := Bool.eq_false_iff.mpr c3; subst c3; rw [if_neg nf_] at H; obtain rfl := Option.some.inj H
 have hr_ : r = y771 := by rw [HW_.out.2.2, Ny771.out]; rfl
 subst hr_; go_enter Try.func21, Try.ntmps21
 go_wp2_with (first | ((with_reducible refine gate_dst (N := 6) rfl ?_); refine Kd.S_lit (Kd.slice 3 (Kd.int .i64)) _ 24 ?hg (N := 6) ?hd (xs := ([] : List (List Int))) (inner := []) (ok := fun _ => True) (okp := fun _ => True) ?hr ?hp (fun _ hk => hk) trivial (Below.refl _ _) (Nat.le_refl _) (by simp) ?_; (case hd | hg => rfl); (case hr => go_simp; done); (case hp => exact (Reps.none _ _)); rintro v772 w26 ho27 hb - -; (rw [← Ny771.out] at ho27); have HO773 := A_ (Kd.S_lower ho27 (below_size HB.out)); replace HB := bs_ HB hb; clear hb ho27) | ((with_reducible refine gc_ 40 rfl ?_); refine cD_ E40 8 rfl rfl rfl (impl_isShort.calls k _ _ l0 64 false _ (Kd.C_below HR0.out HB.out) HC0.out A2.out) (by simp only [mA, mB, mC]; rfl) fun nd => ?_))
 go_ret
 exact ⟨_, by rfl, by (with_reducible repeat (first | apply Kd.S_alloc | apply Kd.S_drewN | apply Kd.S_drew)); exact HO773.out, by repeat (first | (with_reducible first | exact HB.out | apply below_alloc | apply pw_below_drewN | apply below_drew1) | exact HB.out)⟩

end Go.Proofs.Ytnhpbmagbajliaa.PFnBorders

