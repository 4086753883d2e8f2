/- Walks of the functions that the law reaches. -/
import Derived.Test.YtmjlmjhccpedmaaGreatPFnBalancex4
import Derived.Test.YtmjlmjhccpedmaaGreatPFnBalancex2
namespace Go.Proofs.YtmjlmjhccpedmaaGreat.PFnBalance
open Go.RowKit Go.Proofs.YtmjlmjhccpedmaaGreatW.PrintWords Go.Proofs.YtmjlmjhccpedmaaGreatW.PrintLast Go.Proofs.YtmjlmjhccpedmaaGreatW.PrintMore
attribute [local go_sem] max2_int min2_int max_two min_two max_three min_three max_four min_four
set_option linter.unusedVariables false
set_option maxHeartbeats 8000000
set_option maxRecDepth 100000
set_option linter.unusedSimpArgs false

def handCmp : List Int → List Int → Int
 | [], [] => 0
 | [], _ :: _ => -1
 | _ :: _, [] => 1
 | x :: a, y :: b => if x < y then -1 else if x > y then 1 else handCmp a b
theorem hand_drop {l : List Int} {i : Nat} (h : i < l.length) : l.drop i = rd l (i : Int) :: l.drop (i + 1) := by
 have : rd l (i : Int) = l[i] := by simp [rd, List.getD_eq_getElem?_getD, List.getElem?_eq_getElem h]
 rw [this]; exact List.drop_eq_getElem_cons h
theorem hand_wr {n : Int} (h0 : -9223372036854775808 ≤ n) (h1 : n ≤ 9223372036854775807) : wrap64 n = n := by unfold wrap64; omega
theorem hand_cmp (a b : Int) : cmp_Compare_int.f a b = some (if a < b then -1 else if a > b then 1 else 0) := by
 simp only [cmp_Compare_int.f, cmp_isNaN_int.f, Option.bind_some]; simp only [bne_self_eq_false, Bool.false_eq_true, if_false]
 split
 ·rfl
 split <;> rfl
theorem hand_cmp_l0 (a b : List Int) (hn : a.length ≤ 4611686018427387904) (d : Nat) : ∀ (i : Nat), i + d = a.length → i ≤ b.length →
  slices_Compare_int_int.l0 (d + 1) a b a (a.length : Int) (i : Int) = some (handCmp (a.drop i) (b.drop i)) := by
 induction d with
 | zero =>
  intro i hi hb; simp only [slices_Compare_int_int.l0]; rw [if_neg (by omega), List.drop_of_length_le (by omega)]
  by_cases h : (a.length : Int) < (b.length : Int)
  ·rw [if_pos h, hand_drop (by omega : i < b.length)]; rfl
  rw [if_neg h, List.drop_of_length_le (by omega)]; rfl
 | succ d ih =>
  intro i hi hb; have hn2 := ih (i + 1) (by omega); rw [slices_Compare_int_int.l0, hand_wr (show -9223372036854775808 ≤ (i : Int) + 1 by omega) (by omega), hand_cmp, Option.bind_some]; rw [hand_drop (by omega : i < a.length), if_pos (by omega), if_pos (by omega), if_pos (by omega)]
  by_cases h : (i : Int) ≥ (b.length : Int)
  ·rw [if_pos h, show b.drop i = [] from List.drop_of_length_le (by omega)]; rfl
  rw [if_neg h, if_pos (by omega), hand_drop (by omega : i < b.length)]; simp only [handCmp]
  by_cases h1 : rd a (i : Int) < rd b (i : Int)
  ·simp only [if_pos h1]; rw [if_neg (by omega)]
  by_cases h2 : rd a (i : Int) > rd b (i : Int)
  ·simp only [if_neg h1, if_pos h2]; rw [if_neg (by omega)]
  simp only [if_neg h1, if_neg h2]; exact hn2 (by omega)
theorem hand_compare (a b : List Int) (hn : a.length ≤ 4611686018427387904) : slices_Compare_int_int.f (a.length + 1) a b = some (handCmp a b) := by
 have h := hand_cmp_l0 a b hn a.length 0 (by omega) (by omega); simp only [slices_Compare_int_int.f]; rw [show ((0 : Nat) : Int) = 0 from rfl] at h; rw [h]
 simp
theorem hand_eq_l0 (a b : List Int) (hab : a.length = b.length) (hn : a.length ≤ 4611686018427387904) (d : Nat) : ∀ (i : Nat), i + d = a.length →
  slices_Equal_int_int.l0 (d + 1) a b (a.length : Int) (i : Int) = some (decide (a.drop i = b.drop i)) := by
 induction d with
 | zero =>
  intro i hi; simp only [slices_Equal_int_int.l0]; rw [if_neg (by omega), List.drop_of_length_le (by omega), List.drop_of_length_le (by omega)]
  simp
 | succ d ih =>
  intro i hi; have hn2 := ih (i + 1) (by omega); rw [slices_Equal_int_int.l0, hand_wr (show -9223372036854775808 ≤ (i : Int) + 1 by omega) (by omega)]; rw [hand_drop (by omega : i < a.length), hand_drop (by omega : i < b.length), if_pos (by omega), if_pos (by omega), if_pos (by omega), if_pos (by omega)]
  by_cases h : rd a (i : Int) = rd b (i : Int)
  ·rw [if_pos h]; refine hn2.trans ?_; rw [h]; simp
  rw [if_neg h]
  simp [h]
theorem hand_equal (a b : List Int) (hn : a.length ≤ 4611686018427387904) : slices_Equal_int_int.f (a.length + 1) a b = some (decide (a = b)) := by
 unfold slices_Equal_int_int.f
 by_cases h : a.length = b.length
 ·rw [if_pos (by omega)]
  have := hand_eq_l0 a b h hn a.length 0 (by omega)
  simpa using this
 rw [if_neg (by omega)]
 have : a ≠ b := fun e => h (by rw [e])
 simp [this]
structure HOrd (c : List Int → List Int → Int) : Prop where
 anti : ∀ a b, c b a = - c a b
 tr : ∀ a b d, c a b ≤ 0 → c b d ≤ 0 → c a d ≤ 0
 zero : ∀ a b, c a b = 0 → a = b
theorem HOrd.self {c : List Int → List Int → Int} (h : HOrd c) (a : List Int) : c a a = 0 := by have := h.anti a a; omega
theorem HOrd.tr1 {c : List Int → List Int → Int} (h : HOrd c) {a b d : List Int} (h1 : c a b < 0) (h2 : c b d ≤ 0) : c a d < 0 := by
 have h3 := h.tr a b d (by omega) h2
 by_cases h4 : c a d = 0
 ·have := h.zero _ _ h4
  subst this
  have := h.anti a b
  omega
 omega
theorem handCmp_anti : ∀ a b : List Int, handCmp b a = - handCmp a b
 | [], [] => rfl
 | [], _ :: _ => rfl
 | _ :: _, [] => rfl
 | x :: a, y :: b => by
  have := handCmp_anti a b
  simp only [handCmp]
  by_cases h1 : x < y
  ·rw [if_pos h1, if_neg (by omega), if_pos (by omega)]; omega
  by_cases h2 : x > y
  ·have h3 : y < x := h2
   simp [h1, h3]
  rw [if_neg h1, if_neg h2, if_neg (by omega), if_neg (by omega)]; exact this
theorem handCmp_zero : ∀ a b : List Int, handCmp a b = 0 → a = b
 | [], [] => fun _ => rfl
 | [], _ :: _ => fun h => absurd h (by simp [handCmp])
 | _ :: _, [] => fun h => absurd h (by simp [handCmp])
 | x :: a, y :: b => fun h => by
  simp only [handCmp] at h
  by_cases h1 : x < y
  ·rw [if_pos h1] at h; omega
  by_cases h2 : x > y
  ·rw [if_neg h1, if_pos h2] at h; omega
  rw [if_neg h1, if_neg h2] at h; rw [handCmp_zero a b h, show x = y by omega]
theorem handCmp_tr : ∀ a b d : List Int, handCmp a b ≤ 0 → handCmp b d ≤ 0 → handCmp a d ≤ 0
 | [], _, [] => fun _ _ => by simp [handCmp]
 | [], _, _ :: _ => fun _ _ => by simp [handCmp]
 | _ :: _, [], _ => fun h _ => absurd h (by simp [handCmp])
 | _ :: _, _ :: _, [] => fun _ h => absurd h (by simp [handCmp])
 | x :: a, y :: b, z :: d => fun h1 h2 => by
  have ih := handCmp_tr a b d; simp only [handCmp] at h1 h2 ⊢
  by_cases e1 : x < y
  ·by_cases e2 : y < z
   ·rw [if_pos (by omega)]; omega
   by_cases e3 : y > z
   ·rw [if_neg e2, if_pos e3] at h2; omega
   rw [if_pos (by omega)]; omega
  by_cases e2 : x > y
  ·rw [if_neg e1, if_pos e2] at h1; omega
  rw [if_neg e1, if_neg e2] at h1
  have : x = y := by omega
  subst this
  by_cases e3 : x < z
  ·rw [if_pos e3]; omega
  by_cases e4 : x > z
  ·rw [if_neg e3, if_pos e4] at h2; omega
  rw [if_neg e3, if_neg e4] at h2 ⊢; exact ih h1 h2
theorem handCmp_ord : HOrd handCmp := ⟨handCmp_anti, handCmp_tr, handCmp_zero⟩
def hins (c : List Int → List Int → Int) (x : List Int) : List (List Int) → List (List Int)
 | [] => [x]
 | y :: l => if c x y < 0 then x :: y :: l else if c x y = 0 then y :: l else y :: hins c x l
def huniq (c : List Int → List Int → Int) (L : List (List Int)) : List (List Int) := L.foldr (hins c) []
theorem hins_mem {c : List Int → List Int → Int} (h : HOrd c) (x z : List Int) : ∀ l, z ∈ hins c x l ↔ z = x ∨ z ∈ l
 | [] => by simp [hins]
 | y :: l => by
  have ih := hins_mem h x z l; unfold hins
  split
  ·simp
  split
  ·rename_i e
   rw [h.zero _ _ e]
   constructor
   ·intro hz; exact .inr hz
   rintro (rfl | hz)
   ·simp
   exact hz
  simp only [List.mem_cons, ih]
  constructor
  ·rintro (h | h | h)
   ·exact .inr (.inl h)
   ·exact .inl h
   exact .inr (.inr h)
  rintro (h | h | h)
  ·exact .inr (.inl h)
  ·exact .inl h
  exact .inr (.inr h)
theorem hins_strict {c : List Int → List Int → Int} (h : HOrd c) (x : List Int) : ∀ l, l.Pairwise (fun a b => c a b < 0) → (hins c x l).Pairwise (fun a b => c a b < 0)
 | [], _ => by simp [hins]
 | y :: l, hl => by
  have ih := hins_strict h x l (List.pairwise_cons.1 hl).2; unfold hins
  split
  ·rename_i e
   refine List.pairwise_cons.2 ⟨fun z hz => ?_, hl⟩
   rcases List.mem_cons.1 hz with rfl | hz
   ·exact e
   exact h.tr1 e (by have := (List.pairwise_cons.1 hl).1 z hz; omega)
  split
  ·exact hl
  rename_i e1 e2
  refine List.pairwise_cons.2 ⟨fun z hz => ?_, ih⟩
  rcases (hins_mem h x z l).1 hz with rfl | hz
  ·have := h.anti z y
   omega
  exact (List.pairwise_cons.1 hl).1 z hz
theorem huniq_mem {c : List Int → List Int → Int} (h : HOrd c) (z : List Int) : ∀ L, z ∈ huniq c L ↔ z ∈ L
 | [] => by simp [huniq]
 | x :: L => by
  have ih := huniq_mem h z L
  show z ∈ hins c x (huniq c L) ↔ _
  rw [hins_mem h, ih, List.mem_cons]
theorem huniq_strict {c : List Int → List Int → Int} (h : HOrd c) : ∀ L, (huniq c L).Pairwise (fun a b => c a b < 0)
 | [] => by simp [huniq]
 | x :: L => hins_strict h x _ (huniq_strict h L)
theorem hstrict_ext {c : List Int → List Int → Int} (h : HOrd c) : ∀ a b : List (List Int), a.Pairwise (fun a b => c a b < 0) → b.Pairwise (fun a b => c a b < 0) → (∀ z, z ∈ a ↔ z ∈ b) → a = b
 | [], [], _, _, _ => rfl
 | [], y :: b, _, _, hm => absurd ((hm y).2 List.mem_cons_self) (by simp)
 | x :: a, [], _, _, hm => absurd ((hm x).1 List.mem_cons_self) (by simp)
 | x :: a, y :: b, ha, hb, hm => by
  have ha' := List.pairwise_cons.1 ha
  have hb' := List.pairwise_cons.1 hb
  have hxy : x = y := by
   rcases List.mem_cons.1 ((hm x).1 List.mem_cons_self) with e | e
   ·exact e
   rcases List.mem_cons.1 ((hm y).2 List.mem_cons_self) with e2 | e2
   ·exact e2.symm
   have h1 := hb'.1 x e; have h2 := ha'.1 y e2
   have := h.anti x y
   omega
  subst hxy; rw [hstrict_ext h a b ha'.2 hb'.2 (fun z => ?_)]
  constructor
  ·intro hz
   rcases List.mem_cons.1 ((hm z).1 (List.mem_cons_of_mem _ hz)) with e | e
   ·subst e; have h1 := ha'.1 z hz; have := h.self z; omega
   exact e
  intro hz
  rcases List.mem_cons.1 ((hm z).2 (List.mem_cons_of_mem _ hz)) with e | e
  ·subst e; have h1 := hb'.1 z hz; have := h.self z; omega
  exact e
/-! what CompactFunc keeps: places of an array of indices, by what the indices' rows are -/
def hkeep (f : Nat → List Int) (d : Array Nat) (j : Nat) : Bool := decide (j = 0 ∨ f d[j]! ≠ f d[j - 1]!)
def hcomp (f : Nat → List Int) (d : Array Nat) (m : Nat) : List Nat := ((List.range m).filter (hkeep f d)).map (d[·]!)
theorem hkeep_lt_one (f : Nat → List Int) (d : Array Nat) : ∀ j, j < 1 → hkeep f d j = true := by
 intro j hj
 have : j = 0 := by omega
 subst this
 simp [hkeep]
theorem hkeep_pos {f : Nat → List Int} {d : Array Nat} {m : Nat} (h : f d[m]! ≠ f d[m - 1]!) : hkeep f d m = true := by simp [hkeep, h]
theorem hkeep_neg {f : Nat → List Int} {d : Array Nat} {m : Nat} (hm : 0 < m) (h : f d[m]! = f d[m - 1]!) : hkeep f d m = false := by
 have : m ≠ 0 := by omega
 simp [hkeep, h, this]
theorem hcomp_succ (f : Nat → List Int) (d : Array Nat) (m : Nat) : hcomp f d (m + 1) = hcomp f d m ++ (if hkeep f d m then [d[m]!] else []) := by
 unfold hcomp; rw [List.range_succ, List.filter_append, List.map_append]
 congr 1
 by_cases h : hkeep f d m <;> simp [h]
theorem hcomp_all (f : Nat → List Int) (d : Array Nat) (m : Nat) (h : ∀ j, j < m → hkeep f d j = true) : hcomp f d m = (List.range m).map (d[·]!) := by
 unfold hcomp; rw [List.filter_eq_self.2 (fun j hj => h j (List.mem_range.1 hj))]
structure HInv (f : Nat → List Int) (d : Array Nat) (m k : Nat) (dk : Array Nat) : Prop where
 size : dk.size = d.size
 len : (hcomp f d m).length = k
 lt : k < m
 low : ∀ j, j < k → (hcomp f d m)[j]? = some dk[j]!
 high : ∀ j, k ≤ j → dk[j]! = d[j]!
open Go.Sort in
theorem HInv.start {f : Nat → List Int} {d : Array Nat} {k0 : Nat} (hall : ∀ j, j < k0 → hkeep f d j = true) (hdup : hkeep f d k0 = false) : HInv f d (k0 + 1) k0 d where
 size := rfl
 len := by rw [hcomp_succ, hdup, hcomp_all f d k0 hall]; simp
 lt := Nat.lt_succ_self _
 low := fun j hj => by rw [hcomp_succ, hdup, hcomp_all f d k0 hall]; simp [hj]
 high := fun _ _ => rfl
open Go.Sort in
theorem HInv.keep {f : Nat → List Int} {d dk : Array Nat} {m k : Nat} (h : HInv f d m k dk) (hm : m < d.size) (hk : hkeep f d m = true) : HInv f d (m + 1) (k + 1) (dk.setIfInBounds k d[m]!) where
 size := by simp [h.size]
 len := by rw [hcomp_succ, hk]; simp [h.len]
 lt := by have := h.lt; omega
 low := fun j hj => by
  rw [hcomp_succ, hk, if_pos rfl]
  by_cases e : j = k
  ·subst e; rw [List.getElem?_append_right (by rw [h.len]; exact Nat.le_refl _), h.len, Nat.sub_self, getElem!_set_same dk j _ (by have := h.lt; have := h.size; omega)]
   rfl
  rw [List.getElem?_append_left (by rw [h.len]; omega), h.low j (by omega), getElem!_set_other dk k j _ e]
 high := fun j hj => by rw [getElem!_set_other dk k j _ (by omega), h.high j (by omega)]
theorem HInv.skip {f : Nat → List Int} {d dk : Array Nat} {m k : Nat} (h : HInv f d m k dk) (hk : hkeep f d m = false) : HInv f d (m + 1) k dk where
 size := h.size
 len := by rw [hcomp_succ, hk]; simpa using h.len
 lt := by have := h.lt; omega
 low := fun j hj => by rw [hcomp_succ, hk]; simpa using h.low j hj
 high := h.high
open Go.Sort Go.Lib in
theorem HInv.done {f : Nat → List Int} {d dk : Array Nat} {k : Nat} (h : HInv f d d.size k dk) (z : Nat) :
  Lib.lay dk k (List.replicate (d.size - k) z) = (hcomp f d d.size ++ List.replicate (d.size - k) z).toArray := by
 have hk := h.lt; have hs := h.size; have hl := h.len
 apply Array.ext_getElem?
 intro j; rw [Lib.lay_get? _ dk k j (by simp; omega), show (hcomp f d d.size ++ List.replicate (d.size - k) z).toArray[j]? = (hcomp f d d.size ++ List.replicate (d.size - k) z)[j]? from List.getElem?_toArray]; simp only [List.length_replicate]
 by_cases e : j < k
 ·rw [if_neg (by omega), List.getElem?_append_left (by omega), h.low j e, getElem!_pos dk j (by omega), Array.getElem?_eq_getElem (by omega)]
 rw [List.getElem?_append_right (by omega), hl]
 by_cases e2 : j < k + (d.size - k)
 ·rw [if_pos ⟨by omega, e2⟩]
 rw [if_neg (by omega), Array.getElem?_eq_none (by omega), List.getElem?_eq_none (by simp; omega)]
open Go.Sort Go.Lib in
theorem hand_store_world (enc : Nat → Value) {w wr : World} {n blk : Nat} {dk : Array Nat} {i : Nat} (hi : i < dk.size) (hwr : wr = putRow enc (Sort.ahead w n) blk 0 dk) (x m : Nat) :
  ((wr.drewN m).setCell ⟨blk, i, none⟩ (enc x)) = putRow enc (Sort.ahead w (n + m)) blk 0 (dk.setIfInBounds i x) := by
 subst hwr; have h := putRow_set enc (Sort.ahead w (n + m)) blk 0 dk i x hi; rw [Nat.zero_add] at h; rw [← h, ← ahead_ahead]
 rfl
open Go.Sort Go.Lib in
set_option maxHeartbeats 4000000 in
set_option maxRecDepth 1000000 in
theorem hand_compact (enc : Nat → Value) (hO : OneCell enc) (f : Nat → List Int) (zr : Nat) (hz : enc zr = .slice none 0 0) (blk cap : Nat) (d : Array Nat) (w : World) (hH : Holds enc w blk 0 d) (hsz : d.size ≤ 4611686018427387904) (hcap : d.size ≤ cap)
  (heq : ∀ (q : Nat) (dk : Array Nat) (x y : Nat), dk.size = d.size → Calls Tryz.prog 60 #[enc x, enc y] (putRow enc (Sort.ahead w q) blk 0 dk) fun e w' => e = .returned (.bool (decide (f x = f y))) ∧ ∃ m, w' = (putRow enc (Sort.ahead w q) blk 0 dk).drewN m) :
  Calls Tryz.prog 59 #[.slice (some ⟨blk, 0, none⟩) d.size cap, .func (.func 60) #[] #[]] w fun e w' => e = .returned (.slice (some ⟨blk, 0, none⟩) (hcomp f d d.size).length cap) ∧ ∃ q, w' = putRow enc (Sort.ahead w q) blk 0 (hcomp f d d.size ++ List.replicate (d.size - (hcomp f d d.size).length) zr).toArray := by
 have hcl0 := hO.cells; simp only [Value.cells] at hcl0; have hst := hO.store Tryz.prog
 have HS := A_ (show ∀ q, (∀ j, j < d.size → hkeep f d j = true) → (hcomp f d d.size).length = d.size ∧ w.drewN q = putRow enc (Sort.ahead w q) blk 0 (hcomp f d d.size ++ List.replicate (d.size - (hcomp f d d.size).length) zr).toArray by
  intro q hall
  have e : hcomp f d d.size = d.toList := by rw [hcomp_all f d _ hall, Lib.range_map_get]
  rw [e]; refine ⟨by simp, ?_⟩; simp only [Array.length_toList, Nat.sub_self, List.replicate_zero, List.append_nil, Array.toArray_toList]; exact (putRow_self enc (Sort.ahead w q) blk 0 d (holds_ahead enc w q blk 0 d hH)).symm)
 have HE := A_ heq; clear heq
 by_cases h2 : d.size < 2
 ·have HH := A_ hH
  have c0b : decide ((d.size : Int) < 2) = true := decide_eq_true (by omega)
  clear hH; go_enter Tryz.func59, Tryz.ntmps59
  go_wp2
  go_ret
  obtain ⟨e1, e2⟩ := HS.out 0 (fun j hj => hkeep_lt_one f d j (by omega)); exact ⟨by rw [e1]; rfl, 0, e2⟩
 have c0b : decide ((d.size : Int) < 2) = false := decide_eq_false (by omega)
 go_enter Tryz.func59, Tryz.ntmps59
 go_wp2
 go_loopg [5] d.size (fun g s3 wr => ∃ k q : Nat, 1 ≤ k ∧ k ≤ d.size ∧ d.size - k ≤ g ∧ s3 = .int .i64 k ∧ wr = w.drewN q ∧ ∀ j, j < k → hkeep f d j = true)
 case atStart => exact ⟨1, 0, Nat.le_refl _, by omega, by omega, rfl, rfl, hkeep_lt_one f d⟩
 case round =>
  obtain ⟨k, q, hk1, hk, hg, rfl, rfl, hall⟩ := hrel
  by_cases hlt : k < d.size
  ·obtain ⟨c1, f1⟩ := hH k hlt; obtain ⟨c0, f0⟩ := hH (k - 1) (by omega); rw [Nat.zero_add] at c1 c0; have A := A_ hall; have HH := A_ hH; clear hall hH f1 f0
   generalize hx : d[k]! = x at c1
   generalize hy : d[k - 1]! = y at c0
   have B := A_ (And.intro hx hy); clear hx hy; obtain ⟨kp, rfl⟩ : ∃ kp, k = kp + 1 := ⟨k - 1, by omega⟩; rw [Nat.add_sub_cancel] at c0
   have p1 : (0 ≤ ((kp : Int) + 1)) = True := eq_true (by omega)
   have p2 : (((kp : Int) + 1) < (d.size : Int)) = True := eq_true (by omega)
   have p3 : (0 ≤ (kp : Int)) = True := eq_true (by omega)
   have p4 : ((kp : Int) < (d.size : Int)) = True := eq_true (by omega)
   have CE := A_ (show ∀ n, Calls Tryz.prog 60 #[enc x, enc y] (w.drewN (q + n)) fun e w' => e = .returned (.bool (decide (f x = f y))) ∧ ∃ m, w' = w.drewN (q + m) by
    intro n; have h := HE.out (q + n) d x y rfl; rw [putRow_self enc (Sort.ahead w (q + n)) blk 0 d (holds_ahead enc w (q + n) blk 0 d HH.out)] at h; refine Calls.mono h ?_; rintro e w' ⟨he, m, hm⟩; exact ⟨he, n + m, by rw [hm, ← Nat.add_assoc]; exact World.drewN_drewN w (q + n) m⟩)
   have hs1 : IntKind.i64.wrap (kp : Int) = (kp : Int) := by rw [i64_w]; exact hand_wr (by omega) (by omega)
   by_cases hdup : f x = f y
   ·rw [decide_eq_true hdup] at CE
    go_wp2_with fail
    go_quiet (first | (go_at_call 60; exact CE.out _))
    go_wp2
    clear c0 c1
    go_loopg [5, 7] d.size (fun g s3 s5 wr => ∃ (kk k2 q2 : Nat) (dk : Array Nat), s3 = .int .i64 kk ∧ s5 = .int .i64 k2 ∧ 1 ≤ k2 ∧ kp + 1 + k2 ≤ d.size ∧ d.size - (kp + 1 + k2) ≤ g ∧ Aside0 (wr = putRow enc (Sort.ahead w q2) blk 0 dk) ∧ Aside0 (HInv f d (kp + 1 + k2) kk dk))
    case atStart => exact ⟨kp + 1, 1, q + nq, d, rfl, rfl, Nat.le_refl _, by omega, by omega, ⟨by show w.drewN (q + nq) = _; rw [show w.drewN (q + nq) = Sort.ahead w (q + nq) from rfl]; exact (putRow_self enc (Sort.ahead w (q + nq)) blk 0 d (holds_ahead enc w (q + nq) blk 0 d HH.out)).symm⟩, ⟨HInv.start A.out (hkeep_neg (by omega) (by have h1_ := B.out.1; have h2_ := B.out.2; rw [Nat.add_sub_cancel] at h2_ ⊢; rw [h1_, h2_]; exact hdup))⟩⟩
    case round =>
     obtain ⟨kk, k2, q2, dk, rfl, rfl, h1, hle, hg2, W2, I2⟩ := hrel; have hkk := I2.out.lt; have hds := I2.out.size
     have hHk : Holds enc wr blk 0 dk := by rw [W2.out]; exact holds_putRow enc _ blk 0 d dk (holds_ahead enc w q2 blk 0 d HH.out) hds
     obtain ⟨k2p, rfl⟩ : ∃ k2p, k2 = k2p + 1 := ⟨k2 - 1, by omega⟩
     by_cases hlt2 : kp + 1 + (k2p + 1) < d.size
     ·obtain ⟨cm, _⟩ := hHk (kp + 1 + (k2p + 1)) (by omega); obtain ⟨cp, _⟩ := hHk (kp + 1 + k2p) (by omega); obtain ⟨ck, fk⟩ := hHk kk (by omega); rw [I2.out.high (kp + 1 + (k2p + 1)) (by omega), Nat.zero_add] at cm; rw [I2.out.high (kp + 1 + k2p) (by omega), Nat.zero_add] at cp; rw [Nat.zero_add] at ck fk; clear hHk
      generalize hu : d[kp + 1 + (k2p + 1)]! = u at cm
      generalize hv : d[kp + 1 + k2p]! = v at cp
      generalize dk[kk]! = old at ck
      have C := A_ (And.intro hu hv); clear hu hv
      have hl2 : ((d.size - (kp + 1) : Nat) : Int) = (d.size : Int) - ((kp : Int) + 1) := by omega
      have r1 : (0 ≤ ((k2p : Int) + 1)) = True := eq_true (by omega)
      have r2c : (((k2p : Int) + 1) < (d.size : Int) - ((kp : Int) + 1)) = True := eq_true (by omega)
      have r3 : (0 ≤ (k2p : Int)) = True := eq_true (by omega)
      have r4c : ((k2p : Int) < (d.size : Int) - ((kp : Int) + 1)) = True := eq_true (by omega)
      have hs2 : IntKind.i64.wrap (k2p : Int) = (k2p : Int) := by rw [i64_w]; exact hand_wr (by omega) (by omega)
      have CE2 := A_ (show ∀ n, Calls Tryz.prog 60 #[enc u, enc v] (wr.drewN n) fun e w' => e = .returned (.bool (decide (f u = f v))) ∧ ∃ m, w' = wr.drewN m by
       intro n; have h := HE.out (q2 + n) dk u v hds
       have hw : (putRow enc (Sort.ahead w q2) blk 0 dk).drewN n = putRow enc (Sort.ahead w (q2 + n)) blk 0 dk := by rw [← ahead_ahead]; rfl
       rw [W2.out, hw]; refine Calls.mono h ?_; rintro e w' ⟨he, m, hm⟩; exact ⟨he, n + m, by rw [hm, ← hw]; exact World.drewN_drewN (putRow enc (Sort.ahead w q2) blk 0 dk) n m⟩)
      by_cases huv : f u = f v
      ·rw [decide_eq_true huv] at CE2
       go_wp2_with fail
       go_quiet (first | (go_at_call 60; exact CE2.out _))
       go_wp2
       go_roundg (d.size - (kp + 1 + (k2p + 1 + 1)))
       case measure => omega
       case rel => exact ⟨kk, k2p + 1 + 1, q2 + nq, dk, rfl, by go_num, by omega, by omega, Nat.le_refl _, ⟨by rw [W2.out, ← ahead_ahead]; rfl⟩, ⟨I2.out.skip (hkeep_neg (by omega) (by show f d[kp + 1 + (k2p + 1)]! = f d[kp + 1 + k2p]!; rw [C.out.1, C.out.2]; exact huv))⟩⟩
      rw [decide_eq_false huv] at CE2
      have s1 : (0 ≤ (kk : Int)) = True := eq_true (by omega)
      have s2 : ((kk : Int) < (d.size : Int)) = True := eq_true (by omega)
      go_wp2_with fail
      go_quiet (first | (go_at_call 60; exact CE2.out _))
      go_wp2
      go_roundg (d.size - (kp + 1 + (k2p + 1 + 1)))
      case measure => omega
      case rel => exact ⟨kk + 1, k2p + 1 + 1, q2 + nq, dk.setIfInBounds kk u, by go_num, by go_num, by omega, by omega, Nat.le_refl _, ⟨hand_store_world enc (by omega) W2.out u nq⟩, ⟨by have h_ := I2.out.keep hlt2 (hkeep_pos (by show f d[kp + 1 + (k2p + 1)]! ≠ f d[kp + 1 + k2p]!; rw [C.out.1, C.out.2]; exact huv)); rwa [C.out.1] at h_⟩⟩
     have hend : kp + 1 + (k2p + 1) = d.size := by omega
     have c4b : decide ((k2p : Int) + 1 < ((d.size - (kp + 1) : Nat) : Int)) = false := decide_eq_false (by omega)
     have hcl : ∀ ty, (Builtin.clear_ #[47] ty #[.slice (some ⟨blk, kk, none⟩) (d.size - kk) (cap - kk)]).run Tryz.prog wr = .ok (.tuple #[]) (wr.setCells blk kk (List.replicate (d.size - kk) (enc zr))) :=
      fun ty => Lib.run_clear_slice wr _ _ ty _ Tryz.underlying47 (by rw [hz]; exact Tryz.zeroValue24) (hO.cells zr) (hO zr) blk kk _ _ (by omega) (fun j hj => by have h_ := (hHk (kk + j) (by omega)).1; rw [Nat.zero_add] at h_; rw [h_]; rfl) (fun j hj => by have h_ := (hHk (kk + j) (by omega)).2; rw [Nat.zero_add] at h_; exact h_)
     clear hHk
     go_wp2
     go_ret
     have hI := I2.out; rw [hend] at hI; refine ⟨by rw [hI.len]; rfl, q2, ?_⟩; have hsc := Lib.putRow_setCells enc (Sort.ahead w q2) blk 0 (List.replicate (d.size - kk) zr) dk kk (by simp; omega); rw [Nat.zero_add, List.map_replicate] at hsc; rw [hI.len, ← hI.done zr, ← hsc, ← W2.out, hz]
   rw [decide_eq_false hdup] at CE
   go_wp2_with fail
   go_quiet (first | (go_at_call 60; exact CE.out _))
   go_wp2
   go_roundg (d.size - (kp + 1 + 1))
   case measure => omega
   case rel =>
    refine ⟨kp + 1 + 1, q + nq, by omega, by omega, Nat.le_refl _, by go_num, rfl, fun j hj => ?_⟩
    by_cases e : j = kp + 1
    ·subst e; exact hkeep_pos (by have h1_ := B.out.1; have h2_ := B.out.2; rw [Nat.add_sub_cancel] at h2_ ⊢; rw [h1_, h2_]; exact hdup)
    exact A.out j (by omega)
  have : k = d.size := by omega
  subst this
  clear hH
  go_wp2
  go_ret
  obtain ⟨e1, e2⟩ := HS.out q hall; exact ⟨by rw [e1]; rfl, q, e2⟩
open Go.Sort Go.Lib in
theorem HOrd.swo {c : List Int → List Int → Int} (h : HOrd c) (f : Nat → List Int) : SWO (ltOf fun i j => c (f i) (f j)) where
 irrefl x := by simp [ltOf, h.self]
 trans x y z h1 h2 := by
  simp only [ltOf, decide_eq_true_eq] at *; exact h.tr1 h1 (by omega)
 ntrans x y z h1 h2 := by
  simp only [ltOf, decide_eq_false_iff_not] at *; have a1 := h.anti (f x) (f y); have a2 := h.anti (f y) (f z); have a3 := h.anti (f x) (f z)
  have := h.tr (f z) (f y) (f x) (by omega) (by omega)
  omega
theorem hcomp_facts {c : List Int → List Int → Int} (hc : HOrd c) (f : Nat → List Int) (d : Array Nat) (hs : ∀ i j, i < j → j < d.size → c (f d[i]!) (f d[j]!) ≤ 0) :
  ∀ m, m ≤ d.size → (((hcomp f d m).map f).Pairwise (fun a b => c a b < 0)) ∧ (∀ i ∈ hcomp f d m, ∃ j, j < m ∧ i = d[j]!) ∧ (∀ j, j < m → ∃ i ∈ hcomp f d m, f i = f d[j]!) := by
 intro m
 induction m with
 | zero => intro _; simp [hcomp]
 | succ m ih =>
  intro hm; obtain ⟨i1, i2, i3⟩ := ih (by omega); rw [hcomp_succ]
  cases hk : hkeep f d m with
  | true =>
   rw [if_pos rfl]; refine ⟨?_, ?_, ?_⟩
   ·rw [List.map_append, List.pairwise_append]; refine ⟨i1, by simp, fun a ha b hb => ?_⟩; obtain ⟨i, hi, rfl⟩ := List.mem_map.1 ha
    have hb : b = f d[m]! := by simpa using hb
    subst hb; obtain ⟨j, hj, rfl⟩ := i2 i hi; have h1 := hs j m hj (by omega)
    by_cases h0 : c (f d[j]!) (f d[m]!) = 0
    ·have he := hc.zero _ _ h0; simp only [hkeep, decide_eq_true_eq] at hk
     rcases hk with hk | hk
     ·omega
     exfalso
     apply hk
     by_cases hj2 : j = m - 1
     ·rw [← hj2]; exact he.symm
     have h2 := hs j (m - 1) (by omega) (by omega); have h3 := hs (m - 1) m (by omega) (by omega); rw [← he] at h3 ⊢
     have := hc.anti (f d[j]!) (f d[m - 1]!)
     exact hc.zero _ _ (by omega)
    omega
   ·intro i hi
    rcases List.mem_append.1 hi with hi | hi
    ·obtain ⟨j, hj, e⟩ := i2 i hi; exact ⟨j, by omega, e⟩
    exact ⟨m, by omega, by simpa using hi⟩
   intro j hj
   by_cases e : j = m
   ·subst e; exact ⟨d[j]!, by simp, rfl⟩
   obtain ⟨i, hi, e2⟩ := i3 j (by omega); exact ⟨i, List.mem_append_left _ hi, e2⟩
  | false =>
   simp only [hkeep, decide_eq_false_iff_not, not_or, Decidable.not_not] at hk; simp only [Bool.false_eq_true, if_false, List.append_nil]; refine ⟨i1, fun i hi => ?_, fun j hj => ?_⟩
   ·obtain ⟨j, hj, e⟩ := i2 i hi; exact ⟨j, by omega, e⟩
   by_cases e : j = m
   ·subst e; obtain ⟨i, hi, e2⟩ := i3 (j - 1) (by omega); exact ⟨i, hi, by rw [e2, hk.2]⟩
   exact i3 j (by omega)
open Go.Sort Go.Lib in
theorem hcomp_uniq {c : List Int → List Int → Int} (hc : HOrd c) (L : List (List Int)) (d : Array Nat)
  (hp : PermIn 0 (List.range L.length).toArray.size (List.range L.length).toArray d) (hs : SortedIn (ltOf fun i j => c (L.getD i []) (L.getD j [])) 0 (List.range L.length).toArray.size d) :
  d.size = L.length ∧ (hcomp (fun i => L.getD i []) d d.size).map (fun i => L.getD i []) = huniq c L ∧ (∀ i ∈ hcomp (fun i => L.getD i []) d d.size, i < L.length) := by
 have hsz : d.size = L.length := by have := hp.1; simpa using this
 have hperm : d.toList.Perm (List.range L.length) := by
  have h1 := hp.2.2; simp only [List.size_toArray, List.length_range] at h1
  have e1 : (d.extract 0 L.length).toList = d.toList := by rw [← hsz]; simp
  have e2 : ((List.range L.length).toArray.extract 0 L.length).toList = List.range L.length := by
   have : (List.range L.length).toArray.size = L.length := by simp
   conv => lhs; rw [← this]
   simp
  rw [e1, e2] at h1; exact h1
 have hget : ∀ j, j < d.size → d[j]! ∈ d.toList := fun j hj => by rw [getElem!_pos d j hj]; simp
 have hlt : ∀ j, j < d.size → d[j]! < L.length := fun j hj => List.mem_range.1 (hperm.mem_iff.1 (hget j hj))
 have hF := hcomp_facts hc (fun i => L.getD i []) d (fun i j hij hj => by
  have h1 := hs i j (Nat.zero_le _) hij (by simpa [hsz] using hj); simp only [ltOf, decide_eq_false_iff_not] at h1
  have := hc.anti (L.getD d[i]! []) (L.getD d[j]! [])
  show c (L.getD d[i]! []) (L.getD d[j]! []) ≤ 0
  omega) d.size (Nat.le_refl _)
 obtain ⟨f1, f2, f3⟩ := hF; refine ⟨hsz, ?_, fun i hi => ?_⟩
 ·refine hstrict_ext hc _ _ f1 (huniq_strict hc L) (fun z => ?_); rw [huniq_mem hc]
  constructor
  ·intro hz; obtain ⟨i, hi, rfl⟩ := List.mem_map.1 hz; obtain ⟨j, hj, rfl⟩ := f2 i hi
   have := hlt j hj
   simp [List.getD_eq_getElem?_getD, List.getElem?_eq_getElem this]
  intro hz; obtain ⟨i, hi, rfl⟩ := List.getElem_of_mem hz
  have hm : i ∈ d.toList := hperm.mem_iff.2 (List.mem_range.2 hi)
  obtain ⟨j, hj, e⟩ := List.getElem_of_mem hm
  have hj' : j < d.size := by simpa using hj
  obtain ⟨i2, hi2, e2⟩ := f3 j hj'; refine List.mem_map.2 ⟨i2, hi2, ?_⟩; rw [e2, getElem!_pos d j hj']
  have e' : d[j] = i := by simpa using e
  simp [e', List.getD_eq_getElem?_getD, List.getElem?_eq_getElem hi]
 obtain ⟨j, hj, rfl⟩ := f2 i hi; exact hlt j hj
open Go.Sort Go.Lib in
theorem hand_heap {enc : Nat → Value} {w : World} {g n : Nat} {os : Array Obj} {cur : Array Value} {e : TypeId} {fr : Nat × Nat} (d : Array Nat) (hb : w.heap[g]? = some (.cells cur e fr)) :
  (grow (putRow enc (Sort.ahead w n) g 0 d) os).heap[g]? = some (.cells (putCells enc 0 d cur) e fr) := by
 have hg : g < w.heap.size := (Array.getElem?_eq_some_iff.1 hb).1
 rw [Go.Sort.heap_grow_old _ _ (by simpa using hg)]
 simp [putRow, mapBlock, Sort.ahead, Array.getElem?_modify, hb, onCells]
open Go.Sort Go.Lib in
theorem hand_grownBy {enc : Nat → Value} {w : World} {g n : Nat} {os : Array Obj} (d : Array Nat) : w.grownBy (grow (putRow enc (Sort.ahead w n) g 0 d) os) (some g) := by
 refine ⟨rfl, rfl, rfl, by simp, fun k hk hne => ?_⟩; rw [Go.Sort.heap_grow_old _ _ (by simpa using hk)]
 have : g ≠ k := fun e => hne (by rw [e])
 simp [putRow, mapBlock, Sort.ahead, Array.getElem?_modify, this]
open Go.Sort Go.Lib in
theorem hand_take (enc : Nat → Value) (cur : Array Value) (ts us : List Nat) (h : ts.length + us.length ≤ cur.size) : (putCells enc 0 (ts ++ us).toArray cur).toList.take ts.length = ts.map enc := by
 apply List.ext_getElem?
 intro j
 by_cases hj : j < ts.length
 ·rw [List.getElem?_take_of_lt hj, Array.getElem?_toList]
  simp [putCells, hj, show j < cur.size by omega, show j < ts.length + us.length by omega, List.getElem_append_left]
 rw [List.getElem?_take_eq_none (by omega), List.getElem?_eq_none (by simp; omega)]
theorem hand_C_nil (W : World) : Kd.C (Kd.int .i64) W none ([] : List Int).length [] := ⟨rfl, by simp, fun h => absurd h (by simp)⟩
def Cmps (g : Nat) (c : List Int → List Int → Int) : Prop := ∀ (A1 : Option Addr) (c1 : Nat) (l1 : List Int) (A2 : Option Addr) (c2 : Nat) (l2 : List Int) (W : World), Kd.C (Kd.int .i64) W A1 l1.length l1 → l1.length ≤ c1 → Kd.C (Kd.int .i64) W A2 l2.length l2 → l2.length ≤ c2 → l1.length ≤ 1000000 → l2.length ≤ 1000000 →
 Calls Tryz.prog g #[.slice A1 l1.length c1, .slice A2 l2.length c2] W fun e w' => e = .returned (.int .i64 (c l1 l2)) ∧ ∃ q os', w' = Go.Sort.grow (W.drewN q) os'
set_option maxHeartbeats 4000000 in
theorem hand_compact_none (A : Option Addr) (cap : Nat) (w : World) :
  Calls Tryz.prog 59 #[.slice A 0 cap, .func (.func 60) #[] #[]] w fun e w' => e = .returned (.slice A 0 cap) ∧ w' = w := by
 go_enter Tryz.func59, Tryz.ntmps59
 go_wp2
 go_ret
 exact ⟨rfl, rfl⟩
open Go.Sort Go.Lib in
set_option maxHeartbeats 4000000 in
theorem hand_rows (c : List Int → List Int → Int) (hc : HOrd c) (g : Nat) (eg : ∀ args w, (callFunc g args).run Tryz.prog w = .ok (.enter g args) w) (hcmp : Cmps g c)
  (N : Nat) (v : Value) (L : List (List Int)) (w : World) (hN : N ≤ w.heap.size) (hS : Kd.S (Kd.slice 3 (Kd.int .i64)) 24 w N (fun _ => True) v L) (hl : L.length ≤ 1000000) (hrow : ∀ x ∈ L, x.length ≤ 1000000) :
  Calls Tryz.prog 54 #[v, .func (.func g) #[] #[]] w fun e w1 => e = .returned (.tuple #[]) ∧ Below N w w1 ∧
   Calls Tryz.prog 59 #[v, .func (.func 60) #[] #[]] w1 fun e w2 => ∃ v', e = .returned v' ∧ Kd.S (Kd.slice 3 (Kd.int .i64)) 24 w2 N (fun _ => True) v' (huniq c L) ∧ Below N w1 w2 := by
 obtain ⟨f, h0, inner, ho, hr⟩ := hS; rw [List.length_zipIdx] at ho
 rcases ho.2 with ⟨rfl, hn⟩ | ⟨b, cap, cur, rfl, hb, hh, hncap, hcapm, hsz, htake⟩
 ·have hL : L = [] := by simpa using hn
  subst hL; refine (AnyF.slices_SortFunc_none { Tryz.sortRows with } none 0 (.func (.func g) #[] #[]) w).mono ?_; rintro e w1 ⟨rfl, rfl⟩; refine ⟨rfl, Below.refl _ _, (hand_compact_none none 0 w1).mono ?_⟩; rintro e w2 ⟨rfl, rfl⟩; exact ⟨_, rfl, Kd.S_nil _ _ _ _ _, Below.refl _ _⟩
 have hblk : b < w.heap.size := (Array.getElem?_eq_some_iff.1 hh).1
 have hil : inner.length = L.length := by have := ho.1; rw [this]; show L.length * 1 = _; omega
 have H1 : ∀ j, (hj : j < L.length) → ∃ u, inner[j]? = some u ∧ (Kd.int .i64).R 3 w N (fun k => ((True ∧ some k ≠ some b) ∧ f k = j)) u L[j] := by
  intro j hj; have h1 := hr.2 j (L[j], j) (Kd.zip_at (List.getElem?_eq_getElem hj)); obtain ⟨u, hu, hR⟩ := h1; refine ⟨u, ?_, hR⟩
  have h2 : ((inner.drop (j * 1)).take 1)[0]? = some u := by
   have h3 : (inner.drop (j * 1)).take 1 = [u] := hu
   rw [h3]; rfl
  rw [List.getElem?_take_of_lt (by omega), List.getElem?_drop] at h2
  simpa using h2
 obtain ⟨enc, henc⟩ : ∃ enc : Nat → Value, enc = fun i => inner.getD i (.slice none 0 0) := ⟨_, rfl⟩; obtain ⟨κ, hκ⟩ : ∃ κ : Nat → List Int, κ = fun i => L.getD i [] := ⟨_, rfl⟩
 have hlen : ∀ i, (κ i).length ≤ 1000000 := by
  intro i; rw [hκ]
  by_cases hi : i < L.length
  ·have h3 : L.getD i [] ∈ L := by simp [List.getD_eq_getElem?_getD, List.getElem?_eq_getElem hi]
   exact hrow _ h3
  simp [List.getD_eq_getElem?_getD, List.getElem?_eq_none (show L.length ≤ i by omega)]
 have HC : ∀ i (W : World), (∀ k, k < w.heap.size → k ≠ b → W.heap[k]? = w.heap[k]?) → ∃ A cp, enc i = .slice A (κ i).length cp ∧ (κ i).length ≤ cp ∧ Kd.C (Kd.int .i64) W A (κ i).length (κ i) := by
  intro i W hW
  by_cases hi : i < L.length
  ·obtain ⟨u, hu, hR⟩ := H1 i hi
   have e1 : enc i = u := by rw [henc]; simp [List.getD_eq_getElem?_getD, hu]
   have e2 : κ i = L[i] := by rw [hκ]; simp [List.getD_eq_getElem?_getD, List.getElem?_eq_getElem hi]
   rw [e1, e2]; have hR2 := Kd.R_step (w1 := W) hR (fun k hk hlt => hW k hlt (fun e => hk.1.2 (by rw [e]))); exact Kd.R_reads hR2
  have e1 : enc i = .slice none 0 0 := by rw [henc]; simp [List.getD_eq_getElem?_getD, List.getElem?_eq_none (show inner.length ≤ i by omega)]
  have e2 : κ i = [] := by rw [hκ]; simp [List.getD_eq_getElem?_getD, List.getElem?_eq_none (show L.length ≤ i by omega)]
  rw [e1, e2]; exact ⟨none, 0, rfl, Nat.le_refl _, hand_C_nil W⟩
 have hO : OneCell enc := by
  intro i; obtain ⟨A, cp, e, _⟩ := HC i w (fun _ _ _ => rfl); rw [e]; rfl
 obtain ⟨d0, hd0⟩ : ∃ d0 : Array Nat, d0 = (List.range L.length).toArray := ⟨_, rfl⟩
 have hds : d0.size = L.length := by rw [hd0]; simp
 have hcur : ∀ j, j < L.length → cur[j]? = some (enc j) := by
  intro j hj; obtain ⟨u, hu, _⟩ := H1 j hj
  have e1 : enc j = u := by rw [henc]; simp [List.getD_eq_getElem?_getD, hu]
  rw [e1, ← Array.getElem?_toList, ← hu, ← htake, List.getElem?_take_of_lt (by show j < L.length * 1; omega)]
 have hH : Holds enc w b 0 d0 := by
  intro j hj
  have hj' : j < L.length := by omega
  refine ⟨?_, by simp [World.frozen?, hh]⟩
  have e1 : d0[j]! = j := by rw [hd0]; simp [hj']
  simp only [World.cell?, hh, Nat.zero_add]; simp only [Option.isSome_none, Bool.false_eq_true, if_false]; rw [hcur j hj', e1]
 have hW : ∀ (m : Nat) (dk : Array Nat) (os : Array Obj), ∀ k, k < w.heap.size → k ≠ b → (sortWorld enc w b 0 m dk os).heap[k]? = w.heap[k]? := fun m dk os k hk hne =>
  (hand_grownBy (enc := enc) (w := w) (g := b) (n := m) (os := os) dk).block k hk (fun e => hne (by injection e))
 have hcmp' : CmpLays1 Tryz.prog g #[] enc (fun i j => c (κ i) (κ j)) b 0 d0.size w := by
  intro m os dk hs x y; obtain ⟨A1, c1, e1, l1, r1⟩ := HC x (sortWorld enc w b 0 m dk os) (hW m dk os); obtain ⟨A2, c2, e2, l2, r2⟩ := HC y (sortWorld enc w b 0 m dk os) (hW m dk os); have h := hcmp A1 c1 (κ x) A2 c2 (κ y) (sortWorld enc w b 0 m dk os) r1 l1 r2 l2 (hlen x) (hlen y); rw [e1, e2]; exact h
 have hsort := Any.slices_SortFunc Tryz.sortRows enc hO (fun i j => c (κ i) (κ j)) (hc.swo κ) g #[] b 0 cap d0 w eg hcmp' hH hblk (by omega); rw [hds] at hsort; refine Calls.mono hsort ?_; rintro e w1 ⟨rfl, d', nn, os, hp, hs, rfl⟩; have hU := hcomp_uniq hc L d' (by rw [hd0] at hp; simpa using hp) (by rw [hκ] at hs; simpa using hs); rw [← hκ] at hU; obtain ⟨hd's, hmap, hI⟩ := hU; have hgb := hand_grownBy (enc := enc) (w := w) (g := b) (n := nn) (os := os) d'
 have hbelow : Below N w (sortWorld enc w b 0 nn d' os) := (Below.refl N w).grown hgb hN (fun k hk => by injection hk with hk; omega)
 have hh1 := hand_heap (enc := enc) (n := nn) (os := os) d' hh
 have hsz1 : w.heap.size ≤ (sortWorld enc w b 0 nn d' os).heap.size := hgb.size
 refine ⟨rfl, hbelow, ?_⟩; obtain ⟨w1, hw1⟩ : ∃ w1, w1 = sortWorld enc w b 0 nn d' os := ⟨_, rfl⟩
 have hh1' : w1.heap[b]? = some (.cells (putCells enc 0 d' cur) 24 (0, 0)) := by rw [hw1]; exact hh1
 have hW1 : ∀ k, k < w.heap.size → k ≠ b → w1.heap[k]? = w.heap[k]? := by rw [hw1]; exact hW nn d' os
 rw [← hw1] at hsz1 ⊢
 have hH1 : Holds enc w1 b 0 d' := by
  intro j hj; refine ⟨?_, by simp [World.frozen?, hh1']⟩; simp only [World.cell?, hh1', Nat.zero_add]; simp only [Option.isSome_none, Bool.false_eq_true, if_false]
  have hcs : cur.size = cap := by rw [hsz]; show cap * 1 = cap; omega
  simp [putCells, hj, show j < cur.size by omega]
 have hzr : enc L.length = .slice none 0 0 := by rw [henc]; simp [List.getD_eq_getElem?_getD, List.getElem?_eq_none (show inner.length ≤ L.length by omega)]
 have heq' : ∀ (q : Nat) (dk : Array Nat) (x y : Nat), dk.size = d'.size → Calls Tryz.prog 60 #[enc x, enc y] (putRow enc (Sort.ahead w1 q) b 0 dk) fun e w' => e = .returned (.bool (decide (κ x = κ y))) ∧ ∃ m, w' = (putRow enc (Sort.ahead w1 q) b 0 dk).drewN m := by
  intro q dk x y _
  have hWq : ∀ k, k < w.heap.size → k ≠ b → (putRow enc (Sort.ahead w1 q) b 0 dk).heap[k]? = w.heap[k]? := by
   intro k hk hne; rw [← hW1 k hk hne]; have hgq := (hand_grownBy (enc := enc) (w := w1) (g := b) (n := q) (os := #[]) dk).block k (by omega) (fun e => hne (by injection e)); rw [grow_empty] at hgq; exact hgq
  obtain ⟨A1, c1, e1, l1, r1⟩ := HC x _ hWq; obtain ⟨A2, c2, e2, l2, r2⟩ := HC y _ hWq; rw [e1, e2]; exact (slices_Equal_int_int.calls ((κ x).length + 1) A1 c1 (κ x) A2 c2 (κ y) _ _ r1 l1 r2 l2 (hand_equal _ _ (by have := hlen x; omega))).mono (fun _ _ ⟨he, m, hm⟩ => ⟨he, m, hm⟩)
 have hcomp' := hand_compact enc hO κ L.length hzr b cap d' w1 hH1 (by omega) (by omega) heq'
 rw [hd's] at hcomp' hmap hI; refine Calls.mono hcomp' ?_; rintro e w2 ⟨rfl, q, rfl⟩; obtain ⟨I, hIe⟩ : ∃ I, I = hcomp κ d' L.length := ⟨_, rfl⟩; rw [← hIe] at hmap hI ⊢
 have hIl : I.length ≤ L.length := by
  rw [hIe]; unfold hcomp; rw [List.length_map]; exact Nat.le_trans (List.length_filter_le _ _) (by simp)
 obtain ⟨arr, harr⟩ : ∃ arr : Array Nat, arr = (I ++ List.replicate (L.length - I.length) L.length).toArray := ⟨_, rfl⟩; rw [← harr]
 have hg2 : w1.grownBy (putRow enc (Sort.ahead w1 q) b 0 arr) (some b) := by
  have h_ := hand_grownBy (enc := enc) (w := w1) (g := b) (n := q) (os := #[]) arr; rw [grow_empty] at h_; exact h_
 have hh2 : (putRow enc (Sort.ahead w1 q) b 0 arr).heap[b]? = some (.cells (putCells enc 0 arr (putCells enc 0 d' cur)) 24 (0, 0)) := by
  have h_ := hand_heap (enc := enc) (n := q) (os := #[]) arr hh1'; rw [grow_empty] at h_; exact h_
 refine ⟨_, rfl, ?_, (Below.refl N w1).grown hg2 (by omega) (fun k hk => by injection hk with hk; omega)⟩; obtain ⟨w2, hw2⟩ : ∃ w2, w2 = putRow enc (Sort.ahead w1 q) b 0 arr := ⟨_, rfl⟩; rw [← hw2] at hh2 hg2 ⊢
 have hW2 : ∀ k, k < w.heap.size → k ≠ b → w2.heap[k]? = w.heap[k]? := fun k hk hne => (hg2.block k (by omega) (fun e => hne (by injection e))).trans (hW1 k hk hne)
 rw [← hmap]
 have hcs : cur.size = cap := by rw [hsz]; show cap * 1 = cap; omega
 have hnd : I.Nodup := by
  have h_ := huniq_strict hc L; rw [← hmap, List.pairwise_map] at h_; refine h_.imp (fun {a b} hab e => ?_); rw [e, hc.self] at hab
  omega
 refine ⟨fun k => I.idxOf (f k), fun k _ => trivial, I.map enc, ⟨by rw [List.length_map, List.length_zipIdx, List.length_map]; show I.length = I.length * 1; omega, .inr ⟨b, cap, _, by rw [List.length_zipIdx, List.length_map], hb, hh2, by rw [List.length_zipIdx, List.length_map]; omega, hcapm, by (show (putCells enc 0 arr (putCells enc 0 d' cur)).size = cap * 1); simp [putCells, hcs], ?_⟩⟩, by rw [List.length_map, List.length_zipIdx, List.length_map]; show I.length = I.length * 1; omega, ?_⟩
 ·rw [harr]; have h_ := hand_take enc (putCells enc 0 d' cur) I (List.replicate (L.length - I.length) L.length) (by simp [putCells, hcs]; omega); rw [List.length_zipIdx, List.length_map]
  show List.take (I.length * 1) _ = _
  rw [Nat.mul_one]; exact h_
 intro j p hj; rw [List.getElem?_zipIdx, Nat.zero_add] at hj; obtain ⟨x, hx, hxp⟩ := Option.map_eq_some_iff.1 hj; subst hxp; rw [List.getElem?_map] at hx; obtain ⟨i, hi, rfl⟩ := Option.map_eq_some_iff.1 hx; obtain ⟨hjl, hji⟩ := List.getElem?_eq_some_iff.1 hi; have hi2 := hI i (by rw [← hji]; exact List.getElem_mem hjl); obtain ⟨u, hu, hR⟩ := H1 i hi2
 have e1 : enc i = u := by rw [henc]; simp [List.getD_eq_getElem?_getD, hu]
 have e2 : κ i = L[i] := by rw [hκ]; simp [List.getD_eq_getElem?_getD, List.getElem?_eq_getElem hi2]
 refine ⟨u, ?_, ?_⟩
 ·show List.take 1 (List.drop (j * 1) (I.map enc)) = [u]
  rw [Nat.mul_one, List.drop_eq_getElem_cons (by simpa using hjl)]
  simp [hji, e1]
 show (Kd.int .i64).R 3 w2 N _ u (κ i)
 rw [e2]; refine Kd.R_mono (Kd.R_step hR (fun k hk hlt => hW2 k hlt (fun e => hk.1.2 (by rw [e])))) (fun k hk => ⟨⟨trivial, hk.1.2⟩, ?_⟩)
 show I.idxOf (f k) = j
 rw [hk.2, ← hji]; exact List.Nodup.idxOf_getElem hnd j hjl
def hok (L : List (List Int)) : Bool := decide (L.length ≤ 1000000) && L.all fun x => decide (x.length ≤ 1000000)
def hwrap (c : List Int → List Int → Int) (L : List (List Int)) : Option (List (List Int)) := if hok L = true then some (huniq c L) else none
theorem hwrap_some {c : List Int → List Int → Int} {L r : List (List Int)} (h : hwrap c L = some r) : L.length ≤ 1000000 ∧ (∀ x ∈ L, x.length ≤ 1000000) ∧ r = huniq c L := by
 unfold hwrap at h
 split at h
 ·rename_i h1
  simp only [hok, Bool.and_eq_true, decide_eq_true_eq, List.all_eq_true] at h1; exact ⟨h1.1, h1.2, (Option.some.inj h).symm⟩
 cases h
theorem hand_enters {f : FuncId} {fn : Func} {c : Code} (hf : Tryz.prog.funcs[f]? = some fn) (hname : (fn.name == "runtime.NumGoroutine") = false) (hb : fn.body = some c) : ∀ args w, (callFunc f args).run Tryz.prog w = .ok (.enter f args) w := by
 intro args w
 have h1 : fn.name ≠ "runtime.NumGoroutine" := by simpa using hname
 simp [callFunc, hf, h1, hb, mark]
theorem hand_cmps31 : Cmps 58 handCmp := by
 intro A1 c1 l1 A2 c2 l2 W r1 h1 r2 h2 n1 n2; refine (slices_Compare_int_int.calls (l1.length + 1) A1 c1 l1 A2 c2 l2 _ W r1 h1 r2 h2 (hand_compare _ _ (by omega))).mono ?_; rintro e w' ⟨he, m, hm⟩; exact ⟨he, m, #[], by rw [hm, Go.Sort.grow_empty]⟩
set_option maxHeartbeats 4000000 in
theorem hand_different (N : Nat) (v : Value) (L : List (List Int)) (w : World) (hN : N ≤ w.heap.size) (hS : Kd.S (Kd.slice 3 (Kd.int .i64)) 24 w N (fun _ => True) v L) (hl : L.length ≤ 1000000) (hrow : ∀ x ∈ L, x.length ≤ 1000000) :
  Calls Tryz.prog 66 #[v] w fun e w2 => ∃ v', e = .returned v' ∧ Kd.S (Kd.slice 3 (Kd.int .i64)) 24 w2 N (fun _ => True) v' (huniq handCmp L) ∧ Below N w w2 := by
 have HH := A_ (hand_rows handCmp handCmp_ord 58 (hand_enters Tryz.func58 (by kernel_rfl) rfl) hand_cmps31 N v L w hN hS hl hrow); obtain ⟨Aw_, c_, hv_⟩ := Kd.R_slice (Kd.S_R hS); clear hS hrow; subst hv_; go_enter Tryz.func66, Tryz.ntmps66
 go_wp2_with (first
  | (go_at_call 54; refine HH.out.mono ?_; rintro e w1 ⟨rfl, hb1, hc1⟩; have HB1 := A_ hb1; have HC1 := A_ hc1; clear hb1 hc1)
  | (go_at_call 59; refine HC1.out.mono ?_; rintro e w2 ⟨v', rfl, hs2, hb2⟩; have HS2 := A_ hs2; have HB2 := A_ hb2; clear hs2 hb2))
 go_ret
 exact ⟨v', rfl, HS2.out, HB1.out.trans HB2.out⟩
def handCmpL (a b : List Int) : Int := if a.length < b.length then -1 else if b.length < a.length then 1 else handCmp a b
theorem handCmpL_ord : HOrd handCmpL where
 anti a b := by
  have := handCmp_anti a b
  unfold handCmpL
  by_cases h1 : a.length < b.length
  ·simp [h1, show ¬ b.length < a.length by omega]
  by_cases h2 : b.length < a.length
  ·simp [h1, h2]
  simp [h1, h2, this]
 tr a b d h1 h2 := by
  have := handCmp_tr a b d
  unfold handCmpL at *
  by_cases e1 : a.length < d.length
  ·simp [e1]
  by_cases e2 : d.length < a.length
  ·exfalso
   by_cases e3 : a.length < b.length
   ·have e4 : d.length < b.length := by omega
    simp [e4, show ¬ b.length < d.length by omega] at h2
   by_cases e5 : b.length < a.length
   ·simp [e5, show ¬ a.length < b.length by omega] at h1
   have e6 : d.length < b.length := by omega
   simp [e6, show ¬ b.length < d.length by omega] at h2
  rw [if_neg e1, if_neg e2]
  by_cases e3 : a.length < b.length
  ·have e4 : d.length < b.length := by omega
   simp [e4, show ¬ b.length < d.length by omega] at h2
  by_cases e5 : b.length < a.length
  ·simp [e5, show ¬ a.length < b.length by omega] at h1
  rw [if_neg e3, if_neg e5] at h1; rw [if_neg (by omega), if_neg (by omega)] at h2; exact this h1 h2
 zero a b h := by
  unfold handCmpL at h
  by_cases e1 : a.length < b.length
  ·simp [e1] at h
  by_cases e2 : b.length < a.length
  ·simp [e1, e2] at h
  rw [if_neg e1, if_neg e2] at h; exact handCmp_zero _ _ h
theorem hand_or (x y : Int) : cmp_Or_int.f 4 [x, y] = some (if x = 0 then y else x) := by
 have w1 : wrap64 1 = 1 := hand_wr (by omega) (by omega)
 have w2 : wrap64 2 = 2 := hand_wr (by omega) (by omega)
 have r0 : rd [x, y] 0 = x := rfl
 have r1 : rd [x, y] 1 = y := rfl
 by_cases h1 : x = 0
 ·by_cases h2 : y = 0
  ·subst h1; subst h2; simp [cmp_Or_int.f, cmp_Or_int.l0, w1, w2, r0, r1]
  subst h1; simp [cmp_Or_int.f, cmp_Or_int.l0, w1, w2, r0, r1, h2]
 simp [cmp_Or_int.f, cmp_Or_int.l0, w1, w2, r0, r1, h1]
theorem handCmpL_or (a b : List Int) : (if (if (a.length : Int) < (b.length : Int) then (-1 : Int) else if (a.length : Int) > (b.length : Int) then 1 else 0) = 0 then handCmp a b else (if (a.length : Int) < (b.length : Int) then (-1 : Int) else if (a.length : Int) > (b.length : Int) then 1 else 0)) = handCmpL a b := by
 unfold handCmpL
 by_cases e1 : a.length < b.length
 ·simp [e1, show (a.length : Int) < b.length by omega]
 by_cases e2 : b.length < a.length
 ·simp [e1, e2, show ¬ (a.length : Int) < b.length by omega, show (b.length : Int) < a.length by omega]
 simp [e1, e2, show ¬ (a.length : Int) < b.length by omega, show ¬ (b.length : Int) < a.length by omega]
theorem hand_two (W : World) (x y : Int) : Kd.C (Kd.int .i64) (W.alloc (.cells #[.int .i64 x, .int .i64 y] 3)) (some ⟨W.heap.size, 0, none⟩) [x, y].length [x, y] := by
 refine ⟨rfl, by simp, fun _ => ⟨_, rfl, fun j p hj => ⟨[.int .i64 p], rfl, rfl, fun i u hu => ?_⟩⟩⟩
 have hi : i = 0 := by
  rcases i with _ | i
  ·rfl
  simp at hu
 subst hi
 have hu : Value.int .i64 p = u := by simpa using hu
 subst hu
 rcases j with _ | _ | j
 ·have hp : x = p := by simpa using hj
  subst hp; exact (blk_cell (blk_new W (.cells #[.int .i64 x, .int .i64 y] 3)) 0).trans rfl
 ·have hp : y = p := by simpa using hj
  subst hp; exact (blk_cell (blk_new W (.cells #[.int .i64 x, .int .i64 y] 3)) 1).trans rfl
 simp at hj
theorem hand_grown (W : World) (a b : Nat) (o : Obj) : ((W.drewN a).alloc o).drewN b = Go.Sort.grow (W.drewN (a + b)) #[o] := by
 simp [Go.Sort.grow, World.alloc, World.drewN, Nat.add_assoc]
set_option maxHeartbeats 4000000 in
theorem hand_cmps28 : Cmps 55 handCmpL := by
 intro A1 c1 l1 A2 c2 l2 W r1 h1 r2 h2 n1 n2; have HR1 := A_ r1; have HC1 := A_ h1; have HR2 := A_ r2; have HC2 := A_ h2; have HO := A_ (handCmpL_or l1 l2); have AC := A_ (hand_cmp (l1.length : Int) (l2.length : Int)); obtain ⟨x, hx⟩ : ∃ x : Int, x = if (l1.length : Int) < (l2.length : Int) then (-1 : Int) else if (l1.length : Int) > (l2.length : Int) then 1 else 0 := ⟨_, rfl⟩; rw [← hx] at HO AC; have AS := A_ (hand_compare l1 l2 (by omega)); obtain ⟨y, hy⟩ : ∃ y : Int, y = handCmp l1 l2 := ⟨_, rfl⟩; rw [← hy] at HO AS; have AO := A_ (hand_or x y); rw [HO.out] at AO; clear hx hy r1 h1 r2 h2; go_enter Tryz.func55, Tryz.ntmps55
 go_wp2_with (first
  | (go_at_call 57; (with_reducible refine (cmp_Compare_int.calls _ _ x _ AC.out).mono ?_); rintro e w' ⟨rfl, ⟨nd, rfl⟩⟩)
  | (go_at_call 58; (with_reducible refine (slices_Compare_int_int.calls (l1.length + 1) _ _ l1 _ _ l2 y _ ?side1 ?side2 ?side3 ?side4 AS.out).mono ?_); (case side1 => repeat (first | exact HR1.out | (with_reducible refine Kd.C_drewN ?_ _) | (with_reducible refine Kd.C_drew ?_))); (case side2 => exact HC1.out); (case side3 => repeat (first | exact HR2.out | (with_reducible refine Kd.C_drewN ?_ _) | (with_reducible refine Kd.C_drew ?_))); (case side4 => exact HC2.out); rintro e w' ⟨rfl, ⟨nd2, rfl⟩⟩)
  | (go_at_call 56; refine (cmp_Or_int.calls 4 _ _ [x, y] (handCmpL l1 l2) _ (hand_two _ x y) ?_ AO.out).mono ?_; exact Nat.le_refl _; rintro e w' ⟨rfl, ⟨nd3, rfl⟩⟩))
 go_ret
 exact ⟨rfl, nd + nd2 + nd3, _, hand_grown W (nd + nd2) nd3 _⟩
mutual
def impl_PalindromesOf.l0 : Nat → List Int → List (List Int) → Int → Int → Option ((List (List Int)))
 | 0, _, _, _, _ => none
 | k + 1, x0, x3, x12, x13 => if x13 < x12 then (impl_PalindromesOf.l1 k x0 x3 x13 (wrap64 (x13 + 1)) x12 x13) else (some x3)
def impl_PalindromesOf.l1 : Nat → List Int → List (List Int) → Int → Int → Int → Int → Option ((List (List Int)))
 | 0, _, _, _, _, _, _ => none
 | k + 1, x0, x3, x4, x5, x12, x13 => if x5 ≤ (x0.length : Int) then (if 0 ≤ x4 then (if x4 ≤ x5 then ((impl_IsPalindrome.f k ((x0.take (x5 : Int).toNat).drop (x4 : Int).toNat)).bind fun t817 => (if t817 = true then ((some (([] : List Int) : List Int)).bind fun y818 => (if y818.length + ((x0.take (x5 : Int).toNat).drop (x4 : Int).toNat).length < 17592186044416 then (if x3.length < 5864062014805 then (impl_PalindromesOf.l1 k x0 (x3 ++ [(y818 ++ ((x0.take (x5 : Int).toNat).drop (x4 : Int).toNat))]) x4 (wrap64 (x5 + 1)) x12 x13) else (none)) else (none))) else (impl_PalindromesOf.l1 k x0 x3 x4 (wrap64 (x5 + 1)) x12 x13))) else (none)) else (none)) else (impl_PalindromesOf.l0 k x0 x3 x12 (wrap64 (x13 + 1)))
end
def impl_PalindromesOf.f (k : Nat) (l0 : List Int) : Option ((List (List Int))) := Option.bind ((some (([] : List (List Int)) : List (List Int))).bind fun y812 => ((impl_isShort.f k l0 64).bind fun t815 => (if t815 = true then (impl_PalindromesOf.l0 k l0 y812 (l0.length : Int) 0) else (some y812)))) (hwrap handCmpL)
theorem impl_PalindromesOf.calls (k : Nat) (A0 : Option Addr) (c0 : Nat) (l0 : List Int) (r : List (List Int)) (w : World) (hr0 : Kd.C (Kd.int .i64) w A0 l0.length l0) (hc0 : l0.length ≤ c0) (h : impl_PalindromesOf.f k l0 = some r) :
  Calls Tryz.prog 42 #[.slice A0 l0.length c0] w fun e w' => ∃ v0_ : Value, e = .returned (v0_) ∧ Kd.S (Kd.slice 3 (Kd.int .i64)) 24 w' w.heap.size (fun _ => True) v0_ r ∧ Below w.heap.size w w' := by
 have HR0 := A_ hr0; have HC0 := A_ hc0; clear hr0 hc0; have HB := A_ (Below.refl w.heap.size w); obtain ⟨L_, hL_, h2_⟩ := Option.bind_eq_some_iff.mp h; have HW_ := A_ (hwrap_some h2_)
 have H : ((some (([] : List (List Int)) : List (List Int))).bind fun y812 => ((impl_isShort.f k l0 64).bind fun t815 => (if t815 = true then (impl_PalindromesOf.l0 k l0 y812 (l0.length : Int) 0) else (some y812)))) = some L_ := hL_
 clear hL_ h2_ h; obtain ⟨y812, hy812⟩ := ex_ ((([] : List (List Int))) : List (List Int)); replace H : ((impl_isShort.f k l0 64).bind fun t815 => (if t815 = true then (impl_PalindromesOf.l0 k l0 y812 (l0.length : Int) 0) else (some y812))) = some L_ := by (have H2_ := (Option.bind_some _ _).symm.trans H; rw [hy812]; with_reducible exact H2_)
 have Ny812 := A_ hy812; clear hy812; replace H := bA_ H; obtain ⟨t815, A2, H⟩ := H
 by_cases c3 : t815 = true
 ·subst c3; rw [if_pos rfl] at H
  have H' := A_ H
  clear H; go_enter Tryz.func42, Tryz.ntmps42
  go_wp2_with (first | ((with_reducible refine gate_dst (N := 6) rfl ?_); refine Kd.S_lit (Kd.slice 3 (Kd.int .i64)) _ 24 ?hg (N := 6) ?hd (xs := ([] : List (List Int))) (inner := []) (ok := fun _ => True) (okp := fun _ => True) ?hr ?hp (fun _ hk => hk) trivial (Below.refl _ _) (Nat.le_refl _) (by simp) ?_; (case hd | hg => rfl); (case hr => go_simp; done); (case hp => exact (Reps.none _ _)); rintro v813 w4 ho5 hb - -; (rw [← Ny812.out] at ho5); have HO814 := A_ (Kd.S_lower ho5 (below_size HB.out)); replace HB := bs_ HB hb; clear hb ho5) | ((with_reducible refine gc_ 39 rfl ?_); refine cD_ E39 8 rfl rfl rfl (impl_isShort.calls k _ _ l0 64 true _ (Kd.C_below HR0.out HB.out) HC0.out A2.out) (by simp only [mA, mB, mC]; rfl) fun nd => ?_))
  go_loopg [3, 13] k (fun kq v3 v13 w' => ∃ (x3_1 : List (List Int)) (x13_1 : Int), v13 = .int .i64 x13_1 ∧ Aside0 (impl_PalindromesOf.l0 kq l0 x3_1 (l0.length : Int) x13_1 = some L_) ∧ Aside0 (kq ≤ k) ∧ Aside0 (Kd.S (Kd.slice 3 (Kd.int .i64)) 24 w' w.heap.size (fun _ => True) v3 x3_1) ∧ Aside0 (Below w.heap.size w w'))
  case atStart => exact ⟨(y812), (0), (by rfl), H', ⟨Nat.le_refl _⟩, ⟨by (with_reducible repeat (first | apply Kd.S_alloc | apply Kd.S_drewN | apply Kd.S_drew)); exact HO814.out⟩, ⟨by repeat (first | (with_reducible first | exact HB.out | apply below_alloc | apply pw_below_drewN | apply below_drew1) | exact HB.out)⟩⟩
  case round =>
   clear H'; obtain ⟨x3_1, x13_1, rfl, HA, HK1, HO_3, HB⟩ := hrel
   cases gk with
   | zero => exact absurd HA.out (by simp [impl_PalindromesOf.l0])
   | succ k1 =>
    have H := HA.out; clear HA; simp only [impl_PalindromesOf.l0] at H
    by_cases c6 : x13_1 < (l0.length : Int)
    ·rw [if_pos c6] at H; have c6b0 := decide_eq_true c6; clear c6
     have H' := A_ H
     clear H
     go_wp2
     go_loopg [3, 5] k1 (fun kq v3 v5 w' => ∃ (x3_2 : List (List Int)) (x5_2 : Int), v5 = .int .i64 x5_2 ∧ Aside0 (impl_PalindromesOf.l1 kq l0 x3_2 x13_1 x5_2 (l0.length : Int) x13_1 = some L_) ∧ Aside0 (kq ≤ k1) ∧ Aside0 (Kd.S (Kd.slice 3 (Kd.int .i64)) 24 w' w.heap.size (fun _ => True) v3 x3_2) ∧ Aside0 (Below w.heap.size w w'))
     case atStart => exact ⟨(x3_1), (wrap64 (x13_1 + 1)), (by rfl), H', ⟨Nat.le_refl _⟩, ⟨HO_3.out⟩, ⟨HB.out⟩⟩
     case round =>
      clear H'
      try skip
      obtain ⟨x3_2, x5_2, rfl, HA, HK2, HO_3, HB⟩ := hrel
      cases gk with
      | zero => exact absurd HA.out (by simp [impl_PalindromesOf.l1])
      | succ k2 =>
       have H := HA.out; clear HA; simp only [impl_PalindromesOf.l1] at H
       by_cases c7 : x5_2 ≤ (l0.length : Int)
       ·rw [if_pos c7] at H; have c7b0 := decide_eq_true c7; clear c7
        by_cases c8 : 0 ≤ x13_1
        ·rw [if_pos c8] at H; have c8b0 := eq_true c8; have c8b1 := decide_eq_true c8; clear c8
         by_cases c9 : x13_1 ≤ x5_2
         ·rw [if_pos c9] at H; have c9b1 := decide_eq_true c9; clear c9; have c10b0 := eq_true (od_ (by assumption) : x5_2 ≤ (l0.length : Int)); replace H := bA_ H; obtain ⟨t817, A11, H⟩ := H
          by_cases c12 : t817 = true
          ·subst c12; rw [if_pos rfl] at H; obtain ⟨y818, hy818⟩ := ex_ ((([] : List Int)) : List Int); replace H : (if y818.length + ((l0.take (x5_2 : Int).toNat).drop (x13_1 : Int).toNat).length < 17592186044416 then (if x3_2.length < 5864062014805 then (impl_PalindromesOf.l1 k2 l0 (x3_2 ++ [(y818 ++ ((l0.take (x5_2 : Int).toNat).drop (x13_1 : Int).toNat))]) x13_1 (wrap64 (x5_2 + 1)) (l0.length : Int) x13_1) else (none)) else (none)) = some L_ := by (have H2_ := (Option.bind_some _ _).symm.trans H; rw [hy818]; with_reducible exact H2_)
           have Ny818 := A_ hy818; clear hy818; have c13b0 := eq_true (od_ (by assumption) : 0 ≤ x13_1); have c14b0 := eq_true (od_ (by assumption) : x13_1 ≤ x5_2); have c15b0 := eq_true (od_ (by assumption) : x5_2 ≤ (l0.length : Int))
           by_cases c16 : y818.length + ((l0.take (x5_2 : Int).toNat).drop (x13_1 : Int).toNat).length < 17592186044416
           ·rw [if_pos c16] at H; have LMc16 := A_ c16; clear c16; obtain ⟨y822, hy822⟩ := ex_ ((y818 ++ ((l0.take (x5_2 : Int).toNat).drop (x13_1 : Int).toNat)) : List Int); replace H : (if x3_2.length < 5864062014805 then (impl_PalindromesOf.l1 k2 l0 (x3_2 ++ [y822]) x13_1 (wrap64 (x5_2 + 1)) (l0.length : Int) x13_1) else (none)) = some L_ := by (rw [hy822]; with_reducible exact H)
            have Ny822 := A_ hy822; clear hy822
            by_cases c17 : x3_2.length < 5864062014805
            ·rw [if_pos c17] at H; have LMc17 := A_ c17; clear c17; obtain ⟨y825, hy825⟩ := ex_ ((x3_2 ++ [y822]) : List (List Int)); replace H : (impl_PalindromesOf.l1 k2 l0 y825 x13_1 (wrap64 (x5_2 + 1)) (l0.length : Int) x13_1) = some L_ := by (rw [hy825]; with_reducible exact H)
             have Ny825 := A_ hy825; clear hy825
             have H' := A_ H
             clear H; obtain ⟨i018, hi018, _, hsz18, _⟩ := info_parts info3; obtain ⟨A18, hcut18, hA18, hC18⟩ := print_mid_of (P := Tryz.prog) (Value.int .i64) 0 24 3 .i64 .i64 Tryz.underlying24 hi018 hsz18 A0 c0 l0 x13_1 x5_2 (od_ (by assumption)) (by first | omega | exact od_ (by assumption)) (od_ (by assumption)) HC0.out; have HR816 := A_ (Kd.C_of_reads (h1 := fun _ => rfl) (hA18 _ (Kd.reads_of_C HR0.out))); have HC816 := A_ hC18; clear hA18 hC18 hi018 hsz18
             go_wp2_with (first | ((with_reducible refine gc_ 53 rfl ?_); refine cD_ E53 28 rfl rfl rfl (impl_IsPalindrome.calls k2 _ _ ((l0.take (x5_2 : Int).toNat).drop (x13_1 : Int).toNat) true _ (Kd.C_below HR816.out HB.out) HC816.out A11.out) (by (try simp only [mA, mB, mC]); first | done | (rw [show ((l0.take (x5_2 : Int).toNat).drop (x13_1 : Int).toNat).length = (x5_2.toNat - x13_1.toNat) from (by rw [List.length_drop, List.length_take]; have h_ : (x5_2 : Int) ≤ (l0.length : Int) := od_ (by assumption); omega)] <;> rfl) | rfl | (simp only [List.length_drop, List.length_take]; rfl)) fun nd => ?_) | ((with_reducible refine gd_ 30 rfl ?_); refine RL_ 30 3 [] [] rfl rfl (by go_simp; done) rfl rfl ?_; rintro v819 w19 ho20 hb - -; (rw [← Ny818.out] at ho20); replace HO_3 := A_ (Kd.S_elder' (by (with_reducible repeat (first | apply Kd.S_alloc | apply Kd.S_drewN | apply Kd.S_drew)); exact HO_3.out) (Kd.R_base ho20) hb); have HO820 := A_ (Kd.R_lower ho20 (below_size (by repeat (first | (with_reducible first | exact HB.out | apply below_alloc | apply pw_below_drewN | apply below_drew1) | exact HB.out)))); replace HB := A_ (below_step (by repeat (first | (with_reducible first | exact HB.out | apply below_alloc | apply pw_below_drewN | apply below_drew1) | exact HB.out)) hb); clear hb ho20; obtain ⟨i021, hi021, _, hsz21, _⟩ := info_parts info3; clear hcut18; obtain ⟨A21, hcut21, hA21, hC21⟩ := print_mid_of (P := Tryz.prog) (Value.int .i64) 0 24 3 .i64 .i64 Tryz.underlying24 hi021 hsz21 A0 c0 l0 x13_1 x5_2 (od_ (by assumption)) (by first | omega | exact od_ (by assumption)) (od_ (by assumption)) HC0.out; have HR821 := A_ (Kd.C_of_reads (h1 := fun _ => rfl) (hA21 _ (Kd.reads_of_C HR0.out))); clear hA21 hC21 hi021 hsz21) | ((with_reducible refine gate_builtin (b := .append) (xs := #[.tmp 30, .tmp 34]) rfl ?_); at_builtin; refine Kd.R_append_rows (Kd.int .i64) (w0 := w) w.heap.size rfl (.tmp 30) (.tmp 34) 24 3 (.int .i64 0) 8 rfl Tryz.underlying24 info3 rfl (by decide) (by omega) v819 y818 ((l0.take (x5_2 : Int).toNat).drop (x13_1 : Int).toNat) _ _ _ (fun _ => True) (fun _ => False) rfl rfl ?aO ?aR (fun _ _ h => h) (fun _ h => h.elim) ?aF ?aB ?aS ?aL ?_; (case aR => first | (rw [← show ((l0.take (x5_2 : Int).toNat).drop (x13_1 : Int).toNat).length = (x5_2.toNat - x13_1.toNat) from (by rw [List.length_drop, List.length_take]; have h_ : (x5_2 : Int) ≤ (l0.length : Int) := od_ (by assumption); omega)]; exact (Kd.C_below HR821.out HB.out)) | (exact (Kd.C_below HR821.out HB.out))); (case aB => exact HB.out); (case aF => exact (fun _ _ => trivial)); (case aO => exact HO820.out); (case aS => exact (below_size HB.out)); (case aL => have := LMc16.out; have hlx_ := (show ((l0.take (x5_2 : Int).toNat).drop (x13_1 : Int).toNat).length = (x5_2.toNat - x13_1.toNat) from (by rw [List.length_drop, List.length_take]; have h_ : (x5_2 : Int) ≤ (l0.length : Int) := od_ (by assumption); omega)); omega); intro v823 w22 ho hb hg hat; rw [← Ny822.out] at ho; replace HO_3 := A_ (Kd.S_after (ok := (fun _ => True)) HO_3.out hg hat); replace HB := A_ (hb); have HO824 := A_ (ho); clear HO820; clear ho hb hg hat; obtain ⟨Ao24, co24, eo24⟩ := Kd.R_slice HO824.out; subst eo24) | ((with_reducible refine gate_builtin (b := .append) (xs := #[.tmp 29, .tmp 36]) rfl ?_); at_builtin; refine Kd.S_append (Kd.slice 3 (Kd.int .i64)) (w0 := w) w.heap.size rfl (.tmp 29) (.tmp 36) 47 24 (.slice none 0 0) 24 rfl Tryz.underlying47 info24 rfl (by decide) (by omega) u3 x3_2 y822 [.slice Ao24 y822.length co24] (fun _ => True) (fun k_ => some k_ = (.slice Ao24 y822.length co24 : Value).ownBlock) rfl rfl ?aP (fun k_ hk_ => ((Kd.R_mono (ok' := fun k_ => ((fun _ => True)) k_ ∧ some k_ ≠ (u3 : Value).ownBlock) (Kd.R_apart' (HO824.out) (Kd.S_typed HO_3.out) (by decide)) (fun k_ hk => ⟨trivial, hk.2⟩))).1 k_ hk_.symm) ?aF ?aO ?aB ?aS ?aL ?_; (case aP => exact Kd.M_row (Kd.R_mono (Kd.R_tight rfl (Kd.R_mono (ok' := fun k_ => ((fun _ => True)) k_ ∧ some k_ ≠ (u3 : Value).ownBlock) (Kd.R_apart' (HO824.out) (Kd.S_typed HO_3.out) (by decide)) (fun k_ hk => ⟨trivial, hk.2⟩))) (fun _ h_ => h_))); (case aB => exact HB.out); (case aF => exact (fun _ _ => trivial)); (case aO => exact (by exact Kd.S_mono HO_3.out (fun k_ hk => ⟨trivial, fun e_ => hk.2 e_⟩))); (case aS => exact (below_size HB.out)); (case aL => have := LMc17.out; omega); intro v826 w23 ho hb hg hat; rw [← Ny825.out] at ho; replace HB := A_ (hb); have HO827 := A_ (ho); clear HO_3 HO824; clear ho hb hg hat))
             go_roundg k2
             case measure => have := HK1.out; have := HK2.out; omega
             case rel => exact ⟨(y825), (wrap64 (x5_2 + 1)), (by rfl), H', ⟨by have := HK1.out; have := HK2.out; omega⟩, ⟨HO827.out⟩, ⟨HB.out⟩⟩
            rw [if_neg c17] at H
            cases H
           rw [if_neg c16] at H
           cases H
          replace c12 := Bool.eq_false_iff.mpr c12; subst c12; rw [if_neg nf_] at H
          have H' := A_ H
          clear H; obtain ⟨i025, hi025, _, hsz25, _⟩ := info_parts info3; obtain ⟨A25, hcut25, hA25, hC25⟩ := print_mid_of (P := Tryz.prog) (Value.int .i64) 0 24 3 .i64 .i64 Tryz.underlying24 hi025 hsz25 A0 c0 l0 x13_1 x5_2 (od_ (by assumption)) (by first | omega | exact od_ (by assumption)) (od_ (by assumption)) HC0.out; have HR816 := A_ (Kd.C_of_reads (h1 := fun _ => rfl) (hA25 _ (Kd.reads_of_C HR0.out))); have HC816 := A_ hC25; clear hA25 hC25 hi025 hsz25
          go_wp2_with (first | ((with_reducible refine gc_ 53 rfl ?_); refine cD_ E53 28 rfl rfl rfl (impl_IsPalindrome.calls k2 _ _ ((l0.take (x5_2 : Int).toNat).drop (x13_1 : Int).toNat) false _ (Kd.C_below HR816.out HB.out) HC816.out A11.out) (by (try simp only [mA, mB, mC]); first | done | (rw [show ((l0.take (x5_2 : Int).toNat).drop (x13_1 : Int).toNat).length = (x5_2.toNat - x13_1.toNat) from (by rw [List.length_drop, List.length_take]; have h_ : (x5_2 : Int) ≤ (l0.length : Int) := od_ (by assumption); omega)] <;> rfl) | rfl | (simp only [List.length_drop, List.length_take]; rfl)) fun nd => ?_))
          go_roundg k2
          case measure => have := HK1.out; have := HK2.out; omega
          case rel => exact ⟨(x3_2), (wrap64 (x5_2 + 1)), (by rfl), H', ⟨by have := HK1.out; have := HK2.out; omega⟩, ⟨by (with_reducible repeat (first | apply Kd.S_alloc | apply Kd.S_drewN | apply Kd.S_drew)); exact HO_3.out⟩, ⟨by repeat (first | (with_reducible first | exact HB.out | apply below_alloc | apply pw_below_drewN | apply below_drew1) | exact HB.out)⟩⟩
         rw [if_neg c9] at H
         cases H
        rw [if_neg c8] at H
        cases H
       rw [if_neg c7] at H; have c7b0 := decide_eq_false c7; clear c7
       have H' := A_ H
       clear H
       go_wp2
       go_roundg k2
       case measure => have := HK1.out; have := HK2.out; omega
       case rel => exact ⟨(x3_2), (wrap64 (x13_1 + 1)), (by rfl), H', ⟨by have := HK1.out; have := HK2.out; omega⟩, ⟨HO_3.out⟩, ⟨HB.out⟩⟩
    rw [if_neg c6] at H; have c6b0 := decide_eq_false c6; clear c6; obtain rfl := Option.some.inj H; have HH := A_ (hand_rows handCmpL handCmpL_ord 55 (hand_enters Tryz.func55 (by kernel_rfl) rfl) hand_cmps28 w.heap.size _ _ _ (below_size HB.out) HO_3.out HW_.out.1 HW_.out.2.1); obtain ⟨Az_, cz_, hv_⟩ := Kd.R_slice (Kd.S_R HO_3.out); subst hv_
    go_wp2_with (first | (go_at_call 54; refine HH.out.mono ?_; rintro e w1 ⟨rfl, hb1, hc1⟩; have HB1 := A_ hb1; have HC1_ := A_ hc1; clear hb1 hc1) | (go_at_call 59; refine HC1_.out.mono ?_; rintro e w2 ⟨v', rfl, hs2, hb2⟩; have HS2 := A_ hs2; have HB2 := A_ hb2; clear hs2 hb2))
    go_ret
    obtain rfl := HW_.out.2.2; exact ⟨v', rfl, HS2.out, HB.out.trans (HB1.out.trans HB2.out)⟩
 replace c3 := Bool.eq_false_iff.mpr c3; subst c3; rw [if_neg nf_] at H; obtain rfl := Option.some.inj H
 have hr_ : r = y812 := by rw [HW_.out.2.2, Ny812.out]; rfl
 subst hr_; go_enter Tryz.func42, Tryz.ntmps42
 go_wp2_with (first | ((with_reducible refine gate_dst (N := 6) rfl ?_); refine Kd.S_lit (Kd.slice 3 (Kd.int .i64)) _ 24 ?hg (N := 6) ?hd (xs := ([] : List (List Int))) (inner := []) (ok := fun _ => True) (okp := fun _ => True) ?hr ?hp (fun _ hk => hk) trivial (Below.refl _ _) (Nat.le_refl _) (by simp) ?_; (case hd | hg => rfl); (case hr => go_simp; done); (case hp => exact (Reps.none _ _)); rintro v813 w26 ho27 hb - -; (rw [← Ny812.out] at ho27); have HO814 := A_ (Kd.S_lower ho27 (below_size HB.out)); replace HB := bs_ HB hb; clear hb ho27) | ((with_reducible refine gc_ 39 rfl ?_); refine cD_ E39 8 rfl rfl rfl (impl_isShort.calls k _ _ l0 64 false _ (Kd.C_below HR0.out HB.out) HC0.out A2.out) (by simp only [mA, mB, mC]; rfl) fun nd => ?_))
 go_ret
 exact ⟨_, by rfl, by (with_reducible repeat (first | apply Kd.S_alloc | apply Kd.S_drewN | apply Kd.S_drew)); exact HO814.out, by repeat (first | (with_reducible first | exact HB.out | apply below_alloc | apply pw_below_drewN | apply below_drew1) | exact HB.out)⟩
def impl_RichnessOf.f (k : Nat) (l0 : List Int) : Option (Int) := (impl_PalindromesOf.f k l0).bind fun t828 => (some (t828.length : Int))
theorem impl_RichnessOf.calls (k : Nat) (A0 : Option Addr) (c0 : Nat) (l0 : List Int) (r : Int) (w : World) (hr0 : Kd.C (Kd.int .i64) w A0 l0.length l0) (hc0 : l0.length ≤ c0) (h : impl_RichnessOf.f k l0 = some r) :
  Calls Tryz.prog 24 #[.slice A0 l0.length c0] w fun e w' => e = .returned (.int .i64 r) ∧ Below w.heap.size w w' := by
 have HR0 := A_ hr0; have HC0 := A_ hc0; clear hr0 hc0; have HB := A_ (Below.refl w.heap.size w); unfold impl_RichnessOf.f at h; have H := h; clear h; replace H := bA_ H; obtain ⟨t828, A2, H⟩ := H; obtain rfl := Option.some.inj H; go_enter Tryz.func24, Tryz.ntmps24
 go_wp2_with (first | ((with_reducible refine gc_ 42 rfl ?_); refine cL_ E42 4 rfl rfl rfl (impl_PalindromesOf.calls k _ _ l0 t828 _ (by repeat (first | exact HR0.out | (with_reducible refine Kd.C_alloc ?_ _) | (with_reducible refine Kd.C_drewN ?_ _) | (with_reducible refine Kd.C_drew ?_))) HC0.out A2.out) (by simp only [mA, mB, mC]; rfl) ?_; rintro e w3 ⟨v829, rfl, ho0, hb⟩; refine ⟨_, rfl, ?_⟩; have HO830 := A_ (Kd.S_lower ho0 (below_size HB.out)); replace HB := bs_ HB hb; clear hb ho0; obtain ⟨Ao4, co4, eo4⟩ := Kd.S_slice HO830.out; subst eo4))
 go_ret
 exact ⟨by rfl, HB.out⟩

def impl_IsRich.f (k : Nat) (l0 : List Int) : Option (Bool) := (impl_isShort.f k l0 64).bind fun t831 => (if t831 = true then ((impl_RichnessOf.f k l0).bind fun t832 => (some (t832 == (l0.length : Int)))) else (some false))
theorem impl_IsRich.calls (k : Nat) (A0 : Option Addr) (c0 : Nat) (l0 : List Int) (r : Bool) (w : World) (hr0 : Kd.C (Kd.int .i64) w A0 l0.length l0) (hc0 : l0.length ≤ c0) (h : impl_IsRich.f k l0 = some r) :
  Calls Tryz.prog 19 #[.slice A0 l0.length c0] w fun e w' => e = .returned (.bool r) ∧ Below w.heap.size w w' := by
 have HR0 := A_ hr0; have HC0 := A_ hc0; clear hr0 hc0; have HB := A_ (Below.refl w.heap.size w); unfold impl_IsRich.f at h; have H := h; clear h; replace H := bA_ H; obtain ⟨t831, A2, H⟩ := H
 by_cases c3 : t831 = true
 ·subst c3; rw [if_pos rfl] at H; replace H := bA_ H; obtain ⟨t832, A4, H⟩ := H; obtain rfl := Option.some.inj H; go_enter Tryz.func19, Tryz.ntmps19
  go_wp2_with (first | ((with_reducible refine gc_ 39 rfl ?_); refine cD_ E39 4 rfl rfl rfl (impl_isShort.calls k _ _ l0 64 true _ (by repeat (first | exact HR0.out | (with_reducible refine Kd.C_alloc ?_ _) | (with_reducible refine Kd.C_drewN ?_ _) | (with_reducible refine Kd.C_drew ?_))) HC0.out A2.out) (by simp only [mA, mB, mC]; rfl) fun nd => ?_) | (go_at_call 24; (with_reducible refine (impl_RichnessOf.calls k _ _ l0 t832 _ ?side1 ?side2 A4.out).mono ?_); (case side1 => repeat (first | exact HR0.out | (with_reducible refine Kd.C_alloc ?_ _) | (with_reducible refine Kd.C_drewN ?_ _) | (with_reducible refine Kd.C_drew ?_))); (case side2 => exact HC0.out); rintro e w5 ⟨rfl, hb⟩; replace HB := A_ (below_step (by repeat (first | (with_reducible first | exact HB.out | apply below_alloc | apply pw_below_drewN | apply below_drew1) | exact HB.out)) hb); clear hb; (try clear hi)))
  go_ret
  exact ⟨by rfl, HB.out⟩
 replace c3 := Bool.eq_false_iff.mpr c3; subst c3; rw [if_neg nf_] at H; obtain rfl := Option.some.inj H; go_enter Tryz.func19, Tryz.ntmps19
 go_wp2_with (first | ((with_reducible refine gc_ 39 rfl ?_); refine cD_ E39 4 rfl rfl rfl (impl_isShort.calls k _ _ l0 64 false _ (by repeat (first | exact HR0.out | (with_reducible refine Kd.C_alloc ?_ _) | (with_reducible refine Kd.C_drewN ?_ _) | (with_reducible refine Kd.C_drew ?_))) HC0.out A2.out) (by simp only [mA, mB, mC]; rfl) fun nd => ?_))
 go_ret
 exact ⟨by rfl, by repeat (first | (with_reducible first | exact HB.out | apply below_alloc | apply pw_below_drewN | apply below_drew1) | exact HB.out)⟩

def spec_DrawIsSturmianPrefix.f (k : Nat) (l0 : List Int) : Option (List Int × Int) := (spec_l1New.f k l0).bind fun bt833 => ((spec_l26Word.f k bt833.1 bt833.2.1 bt833.2.2).bind fun bt837 => ((spec_l1Below.f bt833.1 bt837.2.1 bt837.2.2 8).bind fun bt842 => (some (bt837.1, wrap64 (bt842.1 - 1)))))
theorem spec_DrawIsSturmianPrefix.calls (k : Nat) (A0 : Option Addr) (c0 : Nat) (l0 : List Int) (r1 : List Int) (r2 : Int) (w : World) (hr0 : Kd.C (Kd.int .u8) w A0 l0.length l0) (hc0 : l0.length ≤ c0) (h : spec_DrawIsSturmianPrefix.f k l0 = some (r1, r2)) :
  Calls Tryz.prog 20 #[.slice A0 l0.length c0] w fun e w' => ∃ v0_ : Value, e = .returned (.tuple #[v0_, .int .i64 r2]) ∧ Kd.R (Kd.int .i64) 3 w' w.heap.size (fun _ => True) v0_ r1 ∧ Below w.heap.size w w' := by
 have HR0 := A_ hr0; have HC0 := A_ hc0; clear hr0 hc0; have HB := A_ (Below.refl w.heap.size w); unfold spec_DrawIsSturmianPrefix.f at h; have H := h; clear h; replace H := bA_ H; obtain ⟨⟨t833, t834, t835⟩, A2, H⟩ := H; dsimp only at H; replace H := bA_ H; obtain ⟨⟨t837, t840, t841⟩, A3, H⟩ := H; dsimp only at H; replace H := bA_ H; obtain ⟨⟨t842, t843, t844⟩, A4, H⟩ := H; dsimp only at H; simp only [Option.some.injEq, Prod.mk.injEq] at H; obtain ⟨rfl, rfl⟩ := H; go_enter Tryz.func20, Tryz.ntmps20
 go_wp2_with (first | ((with_reducible refine gc_ 28 rfl ?_); refine cL_ E28 7 rfl rfl rfl (spec_l1New.calls k _ _ l0 t833 t834 t835 w _ HB.out HR0.out HC0.out A2.out) (by simp only [mA, mB, mC]; rfl) ?_; rintro e w5 ⟨g836, rfl, hi, hb, hb2⟩; refine ⟨_, rfl, ?_⟩; replace HB := A_ (hb); have HI836 := A_ (hi); clear hb hb2; (try clear hi)) | ((with_reducible refine gc_ 27 rfl ?_); refine cL_ E27 9 rfl rfl rfl (spec_l26Word.calls k g836 t833 t834 t835 t837 t840 t841 w _ HI836.out HB.out A3.out) (by simp only [mA, mB, mC]; rfl) ?_; rintro e w6 ⟨v838, rfl, ho0, hi, hb, hk⟩; refine ⟨_, rfl, ?_⟩; have HO839 := A_ (Kd.R_lower ho0 (below_size HB.out)); replace HB := A_ (hb); replace HI836 := A_ (hi); clear hb hk hi; (try clear ho0)) | ((with_reducible refine gc_ 33 rfl ?_); refine cL_ E33 12 rfl rfl rfl (spec_l1Below.calls g836 t833 t840 t841 8 t842 t843 t844 w _ HI836.out HB.out A4.out) (by simp only [mA, mB, mC]; rfl) ?_; rintro e w7 ⟨rfl, hi, hb, hk⟩; refine ⟨_, rfl, ?_⟩; replace HO839 := A_ (Kd.R_mono (Kd.R_keep (IsS57.apart HI836.out HO839.out (by decide)) hk (fun _ h => h.2)) (fun _ h => h.1)); replace HB := A_ (hb); replace HI836 := A_ (hi); clear hb hk; (try clear hi)))
 go_ret2
 exact ⟨_, by rfl, HO839.out, HB.out⟩

def spec_DrawRichnessOf.f (k : Nat) (l0 : List Int) : Option (List Int) := (spec_l1New.f k l0).bind fun bt845 => ((spec_l26Word.f k bt845.1 bt845.2.1 bt845.2.2).bind fun bt849 => (some bt849.1))
theorem spec_DrawRichnessOf.calls (k : Nat) (A0 : Option Addr) (c0 : Nat) (l0 : List Int) (r : List Int) (w : World) (hr0 : Kd.C (Kd.int .u8) w A0 l0.length l0) (hc0 : l0.length ≤ c0) (h : spec_DrawRichnessOf.f k l0 = some r) :
  Calls Tryz.prog 21 #[.slice A0 l0.length c0] w fun e w' => ∃ v0_ : Value, e = .returned (v0_) ∧ Kd.R (Kd.int .i64) 3 w' w.heap.size (fun _ => True) v0_ r ∧ Below w.heap.size w w' := by
 have HR0 := A_ hr0; have HC0 := A_ hc0; clear hr0 hc0; have HB := A_ (Below.refl w.heap.size w); unfold spec_DrawRichnessOf.f at h; have H := h; clear h; replace H := bA_ H; obtain ⟨⟨t845, t846, t847⟩, A2, H⟩ := H; dsimp only at H; replace H := bA_ H; obtain ⟨⟨t849, t852, t853⟩, A3, H⟩ := H; dsimp only at H; obtain rfl := Option.some.inj H; go_enter Tryz.func21, Tryz.ntmps21
 go_wp2_with (first | ((with_reducible refine gc_ 28 rfl ?_); refine cL_ E28 4 rfl rfl rfl (spec_l1New.calls k _ _ l0 t845 t846 t847 w _ HB.out HR0.out HC0.out A2.out) (by simp only [mA, mB, mC]; rfl) ?_; rintro e w4 ⟨g848, rfl, hi, hb, hb2⟩; refine ⟨_, rfl, ?_⟩; replace HB := A_ (hb); have HI848 := A_ (hi); clear hb hb2; (try clear hi)) | ((with_reducible refine gc_ 27 rfl ?_); refine cL_ E27 5 rfl rfl rfl (spec_l26Word.calls k g848 t845 t846 t847 t849 t852 t853 w _ HI848.out HB.out A3.out) (by simp only [mA, mB, mC]; rfl) ?_; rintro e w5 ⟨v850, rfl, ho0, hi, hb, hk⟩; refine ⟨_, rfl, ?_⟩; have HO851 := A_ (Kd.R_lower ho0 (below_size HB.out)); replace HB := A_ (hb); replace HI848 := A_ (hi); clear hb hk hi; (try clear ho0)))
 go_ret
 exact ⟨_, by rfl, HO851.out, HB.out⟩

def impl_parts.l0 : Nat → List Int → Int → List (List Int) → Int → Option ((List (List Int)))
 | 0, _, _, _, _ => none
 | k + 1, x0, x1, x5, x6 => if (wrap64 (x6 + x1)) ≤ (x0.length : Int) then ((some (([] : List Int) : List Int)).bind fun y857 => (if 0 ≤ x6 then (if x6 ≤ (wrap64 (x6 + x1)) then (if y857.length + ((x0.take ((wrap64 (x6 + x1)) : Int).toNat).drop (x6 : Int).toNat).length < 17592186044416 then (if x5.length < 5864062014805 then (impl_parts.l0 k x0 x1 (x5 ++ [(y857 ++ ((x0.take ((wrap64 (x6 + x1)) : Int).toNat).drop (x6 : Int).toNat))]) (wrap64 (x6 + 1))) else (none)) else (none)) else (none)) else (none))) else (some x5)
def impl_parts.f (k : Nat) (l0 : List Int) (a1 : Int) : Option ((List (List Int))) := Option.bind (impl_parts.l0 k l0 a1 (([] : List (List Int))) 0) (hwrap handCmp)
theorem impl_parts.calls (k : Nat) (A0 : Option Addr) (c0 : Nat) (l0 : List Int) (a1 : Int) (r : List (List Int)) (w : World) (hr0 : Kd.C (Kd.int .i64) w A0 l0.length l0) (hc0 : l0.length ≤ c0) (h : impl_parts.f k l0 a1 = some r) :
  Calls Tryz.prog 51 #[.slice A0 l0.length c0, .int .i64 a1] w fun e w' => ∃ v0_ : Value, e = .returned (v0_) ∧ Kd.S (Kd.slice 3 (Kd.int .i64)) 24 w' w.heap.size (fun _ => True) v0_ r ∧ Below w.heap.size w w' := by
 have HR0 := A_ hr0; have HC0 := A_ hc0; clear hr0 hc0; have HB := A_ (Below.refl w.heap.size w); obtain ⟨L_, hL_, h2_⟩ := Option.bind_eq_some_iff.mp h; have HW_ := A_ (hwrap_some h2_)
 have H : (impl_parts.l0 k l0 a1 (([] : List (List Int))) 0) = some L_ := hL_
 clear hL_ h2_ h; obtain ⟨y854, hy854⟩ := ex_ ((([] : List (List Int))) : List (List Int)); replace H : (impl_parts.l0 k l0 a1 y854 0) = some L_ := by (rw [hy854]; with_reducible exact H)
 have Ny854 := A_ hy854; clear hy854
 have H' := A_ H
 clear H; go_enter Tryz.func51, Tryz.ntmps51
 go_wp2_with (first | ((with_reducible refine gate_dst (N := 7) rfl ?_); refine Kd.S_lit (Kd.slice 3 (Kd.int .i64)) _ 24 ?hg (N := 7) ?hd (xs := ([] : List (List Int))) (inner := []) (ok := fun _ => True) (okp := fun _ => True) ?hr ?hp (fun _ hk => hk) trivial (Below.refl _ _) (Nat.le_refl _) (by simp) ?_; (case hd | hg => rfl); (case hr => go_simp; done); (case hp => exact (Reps.none _ _)); rintro v855 w3 ho4 hb - -; (rw [← Ny854.out] at ho4); have HO856 := A_ (Kd.S_lower ho4 (below_size HB.out)); replace HB := bs_ HB hb; clear hb ho4))
 go_loopg [5, 6] k (fun kq v5 v6 w' => ∃ (x5_1 : List (List Int)) (x6_1 : Int), v6 = .int .i64 x6_1 ∧ Aside0 (impl_parts.l0 kq l0 a1 x5_1 x6_1 = some L_) ∧ Aside0 (kq ≤ k) ∧ Aside0 (Kd.S (Kd.slice 3 (Kd.int .i64)) 24 w' w.heap.size (fun _ => True) v5 x5_1) ∧ Aside0 (Below w.heap.size w w'))
 case atStart => exact ⟨(y854), (0), (by rfl), H', ⟨Nat.le_refl _⟩, ⟨HO856.out⟩, ⟨HB.out⟩⟩
 case round =>
  clear H'; obtain ⟨x5_1, x6_1, rfl, HA, HK1, HO_5, HB⟩ := hrel
  cases gk with
  | zero => exact absurd HA.out (by simp [impl_parts.l0])
  | succ k1 =>
   have H := HA.out; clear HA; simp only [impl_parts.l0] at H
   by_cases c5 : (wrap64 (x6_1 + a1)) ≤ (l0.length : Int)
   ·rw [if_pos c5] at H; have c5b0 := decide_eq_true c5; clear c5; obtain ⟨y857, hy857⟩ := ex_ ((([] : List Int)) : List Int); replace H : (if 0 ≤ x6_1 then (if x6_1 ≤ (wrap64 (x6_1 + a1)) then (if y857.length + ((l0.take ((wrap64 (x6_1 + a1)) : Int).toNat).drop (x6_1 : Int).toNat).length < 17592186044416 then (if x5_1.length < 5864062014805 then (impl_parts.l0 k1 l0 a1 (x5_1 ++ [(y857 ++ ((l0.take ((wrap64 (x6_1 + a1)) : Int).toNat).drop (x6_1 : Int).toNat))]) (wrap64 (x6_1 + 1))) else (none)) else (none)) else (none)) else (none)) = some L_ := by (have H2_ := (Option.bind_some _ _).symm.trans H; rw [hy857]; with_reducible exact H2_)
    have Ny857 := A_ hy857; clear hy857
    by_cases c6 : 0 ≤ x6_1
    ·rw [if_pos c6] at H; have c6b0 := eq_true c6; have c6b1 := decide_eq_true c6; clear c6
     by_cases c7 : x6_1 ≤ (wrap64 (x6_1 + a1))
     ·rw [if_pos c7] at H; have c7b0 := eq_true c7; have c7b1 := decide_eq_true c7; have c8b0 := eq_true (od_ (by assumption) : (wrap64 (x6_1 + a1)) ≤ (l0.length : Int))
      by_cases c9 : y857.length + ((l0.take ((wrap64 (x6_1 + a1)) : Int).toNat).drop (x6_1 : Int).toNat).length < 17592186044416
      ·rw [if_pos c9] at H; have LMc9 := A_ c9; clear c9; obtain ⟨y861, hy861⟩ := ex_ ((y857 ++ ((l0.take ((wrap64 (x6_1 + a1)) : Int).toNat).drop (x6_1 : Int).toNat)) : List Int); replace H : (if x5_1.length < 5864062014805 then (impl_parts.l0 k1 l0 a1 (x5_1 ++ [y861]) (wrap64 (x6_1 + 1))) else (none)) = some L_ := by (rw [hy861]; with_reducible exact H)
       have Ny861 := A_ hy861; clear hy861
       by_cases c10 : x5_1.length < 5864062014805
       ·rw [if_pos c10] at H; have LMc10 := A_ c10; clear c10; obtain ⟨y864, hy864⟩ := ex_ ((x5_1 ++ [y861]) : List (List Int)); replace H : (impl_parts.l0 k1 l0 a1 y864 (wrap64 (x6_1 + 1))) = some L_ := by (rw [hy864]; with_reducible exact H)
        have Ny864 := A_ hy864; clear hy864
        have H' := A_ H
        clear H
        go_wp2_with (first | ((with_reducible refine gd_ 17 rfl ?_); refine RL_ 17 3 [] [] rfl rfl (by go_simp; done) rfl rfl ?_; rintro v858 w11 ho12 hb - -; (rw [← Ny857.out] at ho12); replace HO_5 := A_ (Kd.S_elder' HO_5.out (Kd.R_base ho12) hb); have HO859 := A_ (Kd.R_lower ho12 (below_size HB.out)); replace HB := bs_ HB hb; clear hb ho12; obtain ⟨i013, hi013, _, hsz13, _⟩ := info_parts info3; obtain ⟨A13, hcut13, hA13, hC13⟩ := print_mid_of (P := Tryz.prog) (Value.int .i64) 0 24 3 .i64 .i64 Tryz.underlying24 hi013 hsz13 A0 c0 l0 x6_1 (wrap64 (x6_1 + a1)) (od_ (by assumption)) (by first | omega | exact od_ (by first | (with_reducible assumption) | assumption)) (od_ (by assumption)) HC0.out; have HR860 := A_ (Kd.C_of_reads (h1 := fun _ => rfl) (hA13 _ (Kd.reads_of_C HR0.out))); clear hA13 hC13 hi013 hsz13) | ((with_reducible refine gate_builtin (b := .append) (xs := #[.tmp 17, .tmp 23]) rfl ?_); at_builtin; refine Kd.R_append_rows (Kd.int .i64) (w0 := w) w.heap.size rfl (.tmp 17) (.tmp 23) 24 3 (.int .i64 0) 8 rfl Tryz.underlying24 info3 rfl (by decide) (by omega) v858 y857 ((l0.take ((wrap64 (x6_1 + a1)) : Int).toNat).drop (x6_1 : Int).toNat) _ _ _ (fun _ => True) (fun _ => False) rfl rfl ?aO ?aR (fun _ _ h => h) (fun _ h => h.elim) ?aF ?aB ?aS ?aL ?_; (case aR => first | (rw [← show ((l0.take ((wrap64 (x6_1 + a1)) : Int).toNat).drop (x6_1 : Int).toNat).length = ((wrap64 (x6_1 + a1)).toNat - x6_1.toNat) from (by rw [List.length_drop, List.length_take]; have h_ : ((wrap64 (x6_1 + a1)) : Int) ≤ (l0.length : Int) := od_ (by assumption); omega)]; exact (Kd.C_below HR860.out HB.out)) | (exact (Kd.C_below HR860.out HB.out))); (case aB => exact HB.out); (case aF => exact (fun _ _ => trivial)); (case aO => exact HO859.out); (case aS => exact (below_size HB.out)); (case aL => have := LMc9.out; have hlx_ := (show ((l0.take ((wrap64 (x6_1 + a1)) : Int).toNat).drop (x6_1 : Int).toNat).length = ((wrap64 (x6_1 + a1)).toNat - x6_1.toNat) from (by rw [List.length_drop, List.length_take]; have h_ : ((wrap64 (x6_1 + a1)) : Int) ≤ (l0.length : Int) := od_ (by assumption); omega)); omega); intro v862 w14 ho hb hg hat; rw [← Ny861.out] at ho; replace HO_5 := A_ (Kd.S_after (ok := (fun _ => True)) HO_5.out hg hat); replace HB := A_ (hb); have HO863 := A_ (ho); clear HO859; clear ho hb hg hat; obtain ⟨Ao16, co16, eo16⟩ := Kd.R_slice HO863.out; subst eo16) | ((with_reducible refine gate_builtin (b := .append) (xs := #[.tmp 16, .tmp 25]) rfl ?_); at_builtin; refine Kd.S_append (Kd.slice 3 (Kd.int .i64)) (w0 := w) w.heap.size rfl (.tmp 16) (.tmp 25) 47 24 (.slice none 0 0) 24 rfl Tryz.underlying47 info24 rfl (by decide) (by omega) u5 x5_1 y861 [.slice Ao16 y861.length co16] (fun _ => True) (fun k_ => some k_ = (.slice Ao16 y861.length co16 : Value).ownBlock) rfl rfl ?aP (fun k_ hk_ => ((Kd.R_mono (ok' := fun k_ => ((fun _ => True)) k_ ∧ some k_ ≠ (u5 : Value).ownBlock) (Kd.R_apart' (HO863.out) (Kd.S_typed HO_5.out) (by decide)) (fun k_ hk => ⟨trivial, hk.2⟩))).1 k_ hk_.symm) ?aF ?aO ?aB ?aS ?aL ?_; (case aP => exact Kd.M_row (Kd.R_mono (Kd.R_tight rfl (Kd.R_mono (ok' := fun k_ => ((fun _ => True)) k_ ∧ some k_ ≠ (u5 : Value).ownBlock) (Kd.R_apart' (HO863.out) (Kd.S_typed HO_5.out) (by decide)) (fun k_ hk => ⟨trivial, hk.2⟩))) (fun _ h_ => h_))); (case aB => exact HB.out); (case aF => exact (fun _ _ => trivial)); (case aO => exact (by exact Kd.S_mono HO_5.out (fun k_ hk => ⟨trivial, fun e_ => hk.2 e_⟩))); (case aS => exact (below_size HB.out)); (case aL => have := LMc10.out; omega); intro v865 w15 ho hb hg hat; rw [← Ny864.out] at ho; replace HB := A_ (hb); have HO866 := A_ (ho); clear HO_5 HO863; clear ho hb hg hat))
        go_roundg k1
        case measure => have := HK1.out; omega
        case rel => exact ⟨(y864), (wrap64 (x6_1 + 1)), (by rfl), H', ⟨by have := HK1.out; omega⟩, ⟨HO866.out⟩, ⟨HB.out⟩⟩
       rw [if_neg c10] at H
       cases H
      rw [if_neg c9] at H
      cases H
     rw [if_neg c7] at H
     cases H
    rw [if_neg c6] at H
    cases H
   rw [if_neg c5] at H; have c5b0 := decide_eq_false c5; clear c5; obtain rfl := Option.some.inj H
   go_wp2_with (first | (go_at_call 66; refine (hand_different w.heap.size _ _ _ (below_size HB.out) HO_5.out HW_.out.1 HW_.out.2.1).mono ?_; rintro e w2 ⟨v', rfl, hs2, hb2⟩; have HS2 := A_ hs2; have HB2 := A_ hb2; clear hs2 hb2))
   go_ret
   obtain rfl := HW_.out.2.2; exact ⟨v', rfl, HS2.out, HB.out.trans HB2.out⟩

mutual
def impl_ComplexityOf.j0 : Nat → List Int → Int → List Int → Bool → Option (List Int)
 | 0, _, _, _, _ => none
 | k + 1, x0, x1, x5, x18 => if x18 = true then (some x5) else (impl_ComplexityOf.l0 k x0 x5 (wrap64 (x1 + 1)) 0)
def impl_ComplexityOf.l0 : Nat → List Int → List Int → Int → Int → Option (List Int)
 | 0, _, _, _, _ => none
 | k + 1, x0, x5, x21, x22 => if x22 < x21 then ((impl_parts.f k x0 x22).bind fun t871 => (if x5.length < 17592186044416 then (impl_ComplexityOf.l0 k x0 (x5 ++ [(t871.length : Int)]) x21 (wrap64 (x22 + 1))) else (none))) else (some x5)
end
def impl_ComplexityOf.f (k : Nat) (l0 : List Int) (a1 : Int) : Option (List Int) := (some (([] : List Int) : List Int)).bind fun y867 => ((impl_isShort.f k l0 128).bind fun t870 => (if t870 = true then (if a1 < 0 then (impl_ComplexityOf.j0 k l0 a1 y867 true) else (impl_ComplexityOf.j0 k l0 a1 y867 (decide (a1 > 40)))) else (impl_ComplexityOf.j0 k l0 a1 y867 true)))
theorem impl_ComplexityOf.calls (k : Nat) (A0 : Option Addr) (c0 : Nat) (l0 : List Int) (a1 : Int) (r : List Int) (w : World) (hr0 : Kd.C (Kd.int .i64) w A0 l0.length l0) (hc0 : l0.length ≤ c0) (h : impl_ComplexityOf.f k l0 a1 = some r) :
  Calls Tryz.prog 40 #[.slice A0 l0.length c0, .int .i64 a1] w fun e w' => ∃ v0_ : Value, e = .returned (v0_) ∧ Kd.R (Kd.int .i64) 3 w' w.heap.size (fun _ => True) v0_ r ∧ Below w.heap.size w w' := by
 have HR0 := A_ hr0; have HC0 := A_ hc0; clear hr0 hc0; have HB := A_ (Below.refl w.heap.size w); unfold impl_ComplexityOf.f at h; have H := h; clear h; obtain ⟨y867, hy867⟩ := ex_ ((([] : List Int)) : List Int); replace H : ((impl_isShort.f k l0 128).bind fun t870 => (if t870 = true then (if a1 < 0 then (impl_ComplexityOf.j0 k l0 a1 y867 true) else (impl_ComplexityOf.j0 k l0 a1 y867 (decide (a1 > 40)))) else (impl_ComplexityOf.j0 k l0 a1 y867 true))) = some r := by (have H2_ := (Option.bind_some _ _).symm.trans H; rw [hy867]; with_reducible exact H2_)
 have Ny867 := A_ hy867; clear hy867; have HC3 := A_ H; clear H; go_enter Tryz.func40, Tryz.ntmps40
 go_upto_region 2 with (first | ((with_reducible refine gd_ 7 rfl ?_); refine RL_ 7 3 [] [] rfl rfl (by go_simp; done) rfl rfl ?_; rintro v868 w4 ho5 hb - -; (rw [← Ny867.out] at ho5); have HO869 := A_ (Kd.R_lower ho5 (below_size HB.out)); replace HB := bs_ HB hb; clear hb ho5))
 (try simp only [Act.put, mD, mE, mF])
 go_cut [18] (fun v18 wc => ∃ (kq : Nat) (x18_2 : Bool), v18 = .bool x18_2 ∧ Aside0 (impl_ComplexityOf.j0 kq l0 a1 y867 x18_2 = some r) ∧ Aside0 (kq ≤ k) ∧ Aside0 (Kd.R (Kd.int .i64) 3 wc w.heap.size (fun _ => True) v868 y867) ∧ Aside0 (Below w.heap.size w wc))
 case first =>
  have H := HC3.out; clear HC3; replace H := bA_ H; obtain ⟨t870, A6, H⟩ := H
  by_cases c7 : t870 = true
  ·subst c7; rw [if_pos rfl] at H
   by_cases c8 : a1 < 0
   ·rw [if_pos c8] at H; have c8b0 := decide_eq_true c8; clear c8
    (skip)
    have H' := A_ H
    clear H
    go_wp2_with (first | ((with_reducible refine gc_ 39 rfl ?_); refine cD_ E39 9 rfl rfl rfl (impl_isShort.calls k _ _ l0 128 true _ (Kd.C_below HR0.out HB.out) HC0.out A6.out) (by simp only [mA, mB, mC]; rfl) fun nd => ?_))
    go_meet
    case rel => exact ⟨_, (true), (by rfl), H', ⟨by omega⟩, ⟨by (with_reducible repeat (first | apply Kd.R_alloc | apply Kd.R_drewN | apply Kd.R_drew)); exact HO869.out⟩, ⟨by repeat (first | (with_reducible first | exact HB.out | apply below_alloc | apply pw_below_drewN | apply below_drew1) | exact HB.out)⟩⟩
   rw [if_neg c8] at H; have c8b0 := decide_eq_false c8; clear c8
   (skip)
   have H' := A_ H
   clear H
   go_wp2_with (first | ((with_reducible refine gc_ 39 rfl ?_); refine cD_ E39 9 rfl rfl rfl (impl_isShort.calls k _ _ l0 128 true _ (Kd.C_below HR0.out HB.out) HC0.out A6.out) (by simp only [mA, mB, mC]; rfl) fun nd => ?_))
   go_meet
   case rel => exact ⟨_, (decide (a1 > 40)), (by rfl), H', ⟨by omega⟩, ⟨by (with_reducible repeat (first | apply Kd.R_alloc | apply Kd.R_drewN | apply Kd.R_drew)); exact HO869.out⟩, ⟨by repeat (first | (with_reducible first | exact HB.out | apply below_alloc | apply pw_below_drewN | apply below_drew1) | exact HB.out)⟩⟩
  replace c7 := Bool.eq_false_iff.mpr c7; subst c7; rw [if_neg nf_] at H
  have H' := A_ H
  clear H
  go_wp2_with (first | ((with_reducible refine gc_ 39 rfl ?_); refine cD_ E39 9 rfl rfl rfl (impl_isShort.calls k _ _ l0 128 false _ (Kd.C_below HR0.out HB.out) HC0.out A6.out) (by simp only [mA, mB, mC]; rfl) fun nd => ?_))
  go_meet
  case rel => exact ⟨_, (true), (by rfl), H', ⟨by omega⟩, ⟨by (with_reducible repeat (first | apply Kd.R_alloc | apply Kd.R_drewN | apply Kd.R_drew)); exact HO869.out⟩, ⟨by repeat (first | (with_reducible first | exact HB.out | apply below_alloc | apply pw_below_drewN | apply below_drew1) | exact HB.out)⟩⟩
 case rest =>
  clear HC3; obtain ⟨kq, x18_2, rfl, HA, HJ2, HO_5, HB⟩ := hcut
  cases kq with
  | zero => exact absurd HA.out (by simp [impl_ComplexityOf.j0])
  | succ kj2 =>
   have H := HA.out; clear HA; simp only [impl_ComplexityOf.j0] at H
   by_cases c9 : x18_2 = true
   ·subst c9; rw [if_pos rfl] at H; obtain rfl := Option.some.inj H
    go_wp2
    go_ret
    exact ⟨_, by rfl, HO_5.out, HB.out⟩
   replace c9 := Bool.eq_false_iff.mpr c9; subst c9; rw [if_neg nf_] at H
   have H' := A_ H
   clear H
   go_wp2
   go_loopg [5, 22] kj2 (fun kq v5 v22 w' => ∃ (x5_2 : List Int) (x22_2 : Int), v22 = .int .i64 x22_2 ∧ Aside0 (impl_ComplexityOf.l0 kq l0 x5_2 (wrap64 (a1 + 1)) x22_2 = some r) ∧ Aside0 (kq ≤ kj2) ∧ Aside0 (Kd.R (Kd.int .i64) 3 w' w.heap.size (fun _ => True) v5 x5_2) ∧ Aside0 (Below w.heap.size w w'))
   case atStart => exact ⟨(y867), (0), (by rfl), H', ⟨Nat.le_refl _⟩, ⟨HO_5.out⟩, ⟨HB.out⟩⟩
   case round =>
    clear H'; obtain ⟨x5_2, x22_2, rfl, HA, HK2, HO_5, HB⟩ := hrel
    cases gk with
    | zero => exact absurd HA.out (by simp [impl_ComplexityOf.l0])
    | succ k2 =>
     have H := HA.out; clear HA; simp only [impl_ComplexityOf.l0] at H
     by_cases c10 : x22_2 < (wrap64 (a1 + 1))
     ·rw [if_pos c10] at H; have c10b0 := decide_eq_true c10; clear c10; replace H := bA_ H; obtain ⟨t871, A11, H⟩ := H
      by_cases c12 : x5_2.length < 17592186044416
      ·rw [if_pos c12] at H; have LMc12 := A_ c12; clear c12; obtain ⟨y874, hy874⟩ := ex_ ((x5_2 ++ [(t871.length : Int)]) : List Int); replace H : (impl_ComplexityOf.l0 k2 l0 y874 (wrap64 (a1 + 1)) (wrap64 (x22_2 + 1))) = some r := by (rw [hy874]; with_reducible exact H)
       have Ny874 := A_ hy874; clear hy874
       have H' := A_ H
       clear H
       go_wp2_with (first | ((with_reducible refine gc_ 51 rfl ?_); refine cL_ E51 28 rfl rfl rfl (impl_parts.calls k2 _ _ l0 x22_2 t871 _ (Kd.C_below HR0.out HB.out) HC0.out A11.out) (by simp only [mA, mB, mC]; rfl) ?_; rintro e w13 ⟨v872, rfl, ho0, hb⟩; refine ⟨_, rfl, ?_⟩; have HO873 := A_ (Kd.S_lower (Kd.S_new' ho0 (Kd.R_lt HO_5.out)) (below_size HB.out)); replace HO_5 := A_ (Kd.R_below HO_5.out hb); replace HB := bs_ HB hb; clear hb ho0; obtain ⟨Ao14, co14, eo14⟩ := Kd.S_slice HO873.out; subst eo14) | ((with_reducible refine gate_builtin (b := .append) (xs := #[.tmp 25, .tmp 30]) rfl ?_); at_builtin; refine Kd.R_append (Kd.int .i64) (w0 := w) w.heap.size rfl (.tmp 25) (.tmp 30) 24 3 (.int .i64 0) 8 rfl Tryz.underlying24 info3 rfl (by decide) (by omega) u5 x5_2 (t871.length : Int) [.int .i64 (t871.length : Int)] (fun _ => True) (fun _ => False) rfl rfl ?aP (fun _ hk => hk.elim) ?aF ?aO ?aB ?aS ?aL ?_; (case aP => exact rfl); (case aB => exact HB.out); (case aF => exact (fun _ _ => trivial)); (case aO => exact HO_5.out); (case aS => exact (below_size HB.out)); (case aL => have := LMc12.out; omega); intro v875 w15 ho hb hg hat; rw [← Ny874.out] at ho; replace HO873 := A_ (Kd.S_after (ok := (fun _ => True)) HO873.out hg hat); replace HB := A_ (hb); have HO876 := A_ (ho); clear HO_5; clear ho hb hg hat))
       go_roundg k2
       case measure => have := HJ2.out; have := HK2.out; omega
       case rel => exact ⟨(y874), (wrap64 (x22_2 + 1)), (by rfl), H', ⟨by have := HJ2.out; have := HK2.out; omega⟩, ⟨HO876.out⟩, ⟨HB.out⟩⟩
      rw [if_neg c12] at H
      cases H
     rw [if_neg c10] at H; have c10b0 := decide_eq_false c10; clear c10; obtain rfl := Option.some.inj H
     go_wp2
     go_ret
     exact ⟨_, by rfl, HO_5.out, HB.out⟩

mutual
def impl_IsSturmianPrefix.j0 : Nat → List Int → Int → Bool → Option (Bool)
 | 0, _, _, _ => none
 | k + 1, x0, x1, x22 => if x22 = true then (some false) else ((impl_ComplexityOf.f k x0 x1).bind fun t878 => (impl_IsSturmianPrefix.l0 k t878 (t878.length : Int) 0))
def impl_IsSturmianPrefix.l0 : Nat → List Int → Int → Int → Option (Bool)
 | 0, _, _, _ => none
 | k + 1, x25, x26, x27 => if x27 < x26 then (if 0 ≤ x27 then (if x27 < (x25.length : Int) then (if (rd x25 x27) = (wrap64 (x27 + 1)) then (impl_IsSturmianPrefix.l0 k x25 x26 (wrap64 (x27 + 1))) else (some false)) else (none)) else (none)) else (some true)
end
def impl_IsSturmianPrefix.f (k : Nat) (l0 : List Int) (a1 : Int) : Option (Bool) := (impl_areLetters.f k l0 2).bind fun t877 => (if t877 = true then (if (l0.length : Int) > 128 then (impl_IsSturmianPrefix.j0 k l0 a1 true) else (if a1 < 0 then (impl_IsSturmianPrefix.j0 k l0 a1 true) else (impl_IsSturmianPrefix.j0 k l0 a1 (decide (a1 > 20))))) else (impl_IsSturmianPrefix.j0 k l0 a1 true))
theorem impl_IsSturmianPrefix.calls (k : Nat) (A0 : Option Addr) (c0 : Nat) (l0 : List Int) (a1 : Int) (r : Bool) (w : World) (hr0 : Kd.C (Kd.int .i64) w A0 l0.length l0) (hc0 : l0.length ≤ c0) (h : impl_IsSturmianPrefix.f k l0 a1 = some r) :
  Calls Tryz.prog 22 #[.slice A0 l0.length c0, .int .i64 a1] w fun e w' => e = .returned (.bool r) ∧ Below w.heap.size w w' := by
 have HR0 := A_ hr0; have HC0 := A_ hc0; clear hr0 hc0; have HB := A_ (Below.refl w.heap.size w); unfold impl_IsSturmianPrefix.f at h; have H := h; clear h; have HC3 := A_ H; clear H; go_enter Tryz.func22, Tryz.ntmps22
 go_upto_region 1 with (fail)
 go_cut [22] (fun v22 wc => ∃ (kq : Nat) (x22_2 : Bool), v22 = .bool x22_2 ∧ Aside0 (impl_IsSturmianPrefix.j0 kq l0 a1 x22_2 = some r) ∧ Aside0 (kq ≤ k) ∧ Aside0 (Below w.heap.size w wc))
 case first =>
  have H := HC3.out; clear HC3; replace H := bA_ H; obtain ⟨t877, A4, H⟩ := H
  by_cases c5 : t877 = true
  ·subst c5; rw [if_pos rfl] at H
   by_cases c6 : (l0.length : Int) > 128
   ·rw [if_pos c6] at H
    have c6b0 : decide (128 < (l0.length : Int)) = true := decide_eq_true c6
    clear c6
    (skip)
    have H' := A_ H
    clear H
    go_wp2_with (first | ((with_reducible refine gc_ 30 rfl ?_); refine cD_ E30 8 rfl rfl rfl (impl_areLetters.calls k _ _ l0 2 true _ (Kd.C_below HR0.out HB.out) HC0.out A4.out) (by simp only [mA, mB, mC]; rfl) fun nd => ?_))
    go_meet
    case rel => exact ⟨_, (true), (by rfl), H', ⟨by omega⟩, ⟨by repeat (first | (with_reducible first | exact HB.out | apply below_alloc | apply pw_below_drewN | apply below_drew1) | exact HB.out)⟩⟩
   rw [if_neg c6] at H
   have c6b0 : decide (128 < (l0.length : Int)) = false := decide_eq_false c6
   have c6b1 : decide (128 < l0.length) = false := decide_eq_false (by omega)
   clear c6
   (skip)
   by_cases c7 : a1 < 0
   ·rw [if_pos c7] at H; have c7b0 := decide_eq_true c7; clear c7
    have H' := A_ H
    clear H
    go_wp2_with (first | ((with_reducible refine gc_ 30 rfl ?_); refine cD_ E30 8 rfl rfl rfl (impl_areLetters.calls k _ _ l0 2 true _ (Kd.C_below HR0.out HB.out) HC0.out A4.out) (by simp only [mA, mB, mC]; rfl) fun nd => ?_))
    go_meet
    case rel => exact ⟨_, (true), (by rfl), H', ⟨by omega⟩, ⟨by repeat (first | (with_reducible first | exact HB.out | apply below_alloc | apply pw_below_drewN | apply below_drew1) | exact HB.out)⟩⟩
   rw [if_neg c7] at H; have c7b0 := decide_eq_false c7; clear c7
   have H' := A_ H
   clear H
   go_wp2_with (first | ((with_reducible refine gc_ 30 rfl ?_); refine cD_ E30 8 rfl rfl rfl (impl_areLetters.calls k _ _ l0 2 true _ (Kd.C_below HR0.out HB.out) HC0.out A4.out) (by simp only [mA, mB, mC]; rfl) fun nd => ?_))
   go_meet
   case rel => exact ⟨_, (decide (a1 > 20)), (by rfl), H', ⟨by omega⟩, ⟨by repeat (first | (with_reducible first | exact HB.out | apply below_alloc | apply pw_below_drewN | apply below_drew1) | exact HB.out)⟩⟩
  replace c5 := Bool.eq_false_iff.mpr c5; subst c5; rw [if_neg nf_] at H
  have H' := A_ H
  clear H
  go_wp2_with (first | ((with_reducible refine gc_ 30 rfl ?_); refine cD_ E30 8 rfl rfl rfl (impl_areLetters.calls k _ _ l0 2 false _ (Kd.C_below HR0.out HB.out) HC0.out A4.out) (by simp only [mA, mB, mC]; rfl) fun nd => ?_))
  go_meet
  case rel => exact ⟨_, (true), (by rfl), H', ⟨by omega⟩, ⟨by repeat (first | (with_reducible first | exact HB.out | apply below_alloc | apply pw_below_drewN | apply below_drew1) | exact HB.out)⟩⟩
 case rest =>
  clear HC3; obtain ⟨kq, x22_2, rfl, HA, HJ2, HB⟩ := hcut
  cases kq with
  | zero => exact absurd HA.out (by simp [impl_IsSturmianPrefix.j0])
  | succ kj2 =>
   have H := HA.out; clear HA; simp only [impl_IsSturmianPrefix.j0] at H
   by_cases c8 : x22_2 = true
   ·subst c8; rw [if_pos rfl] at H; obtain rfl := Option.some.inj H
    go_wp2
    go_ret
    exact ⟨by rfl, HB.out⟩
   replace c8 := Bool.eq_false_iff.mpr c8; subst c8; rw [if_neg nf_] at H; replace H := bA_ H; obtain ⟨t878, A9, H⟩ := H
   have H' := A_ H
   clear H
   go_wp2_with (first | ((with_reducible refine gc_ 40 rfl ?_); refine cL_ E40 25 rfl rfl rfl (impl_ComplexityOf.calls kj2 _ _ l0 a1 t878 _ (Kd.C_below HR0.out HB.out) HC0.out A9.out) (by simp only [mA, mB, mC]; rfl) ?_; rintro e w10 ⟨v879, rfl, ho0, hb⟩; refine ⟨_, rfl, ?_⟩; have HO880 := A_ (Kd.R_lower ho0 (below_size HB.out)); replace HB := bs_ HB hb; clear hb ho0; obtain ⟨Ao11, co11, eo11⟩ := Kd.R_slice HO880.out; subst eo11))
   go_loopg [27] kj2 (fun kq v27 w' => ∃ (x27_2 : Int), v27 = .int .i64 x27_2 ∧ Aside0 (impl_IsSturmianPrefix.l0 kq t878 (t878.length : Int) x27_2 = some r) ∧ Aside0 (kq ≤ kj2) ∧ Aside0 (Kd.R (Kd.int .i64) 3 w' w.heap.size (fun _ => True) (.slice Ao11 t878.length co11) t878) ∧ Aside0 (Below w.heap.size w w'))
   case atStart => exact ⟨(0), (by rfl), H', ⟨Nat.le_refl _⟩, ⟨HO880.out⟩, ⟨HB.out⟩⟩
   case round =>
    clear H'; obtain ⟨x27_2, rfl, HA, HK2, HO_25, HB⟩ := hrel
    cases gk with
    | zero => exact absurd HA.out (by simp [impl_IsSturmianPrefix.l0])
    | succ k2 =>
     have H := HA.out; clear HA; simp only [impl_IsSturmianPrefix.l0] at H
     by_cases c12 : x27_2 < (t878.length : Int)
     ·rw [if_pos c12] at H; have c12b0 := decide_eq_true c12; clear c12
      by_cases c13 : 0 ≤ x27_2
      ·rw [if_pos c13] at H; have c13b0 := decide_eq_true c13; clear c13
       by_cases c14 : x27_2 < (t878.length : Int)
       ·rw [if_pos c14] at H; have c14b0 := decide_eq_true c14; clear c14
        by_cases c15 : (rd t878 x27_2) = (wrap64 (x27_2 + 1))
        ·rw [if_pos c15] at H
         have c15b1 : ((rd t878 x27_2) != (wrap64 (x27_2 + 1))) = false := bne_eq_false_iff_eq.mpr c15
         clear c15
         have H' := A_ H
         clear H
         have p881 : 0 ≤ (x27_2 : Int) := od_ (by assumption)
         have q881 : x27_2 < (t878.length : Int) := od_ (by assumption)
         obtain ⟨ad881, e881, hx881_0⟩ := Kd.at_int (Kd.R_reads' HO_25.out).2.2 x27_2 p881 q881
         cases e881
         replace p881 := eq_true p881; replace q881 := eq_true q881
         go_wp2
         go_roundg k2
         case measure => have := HJ2.out; have := HK2.out; omega
         case rel => exact ⟨(wrap64 (x27_2 + 1)), (by rfl), H', ⟨by have := HJ2.out; have := HK2.out; omega⟩, ⟨HO_25.out⟩, ⟨HB.out⟩⟩
        rw [if_neg c15] at H
        have c15b1 : ((rd t878 x27_2) != (wrap64 (x27_2 + 1))) = true := bne_iff_ne.mpr c15
        obtain rfl := Option.some.inj H
        have p881 : 0 ≤ (x27_2 : Int) := od_ (by assumption)
        have q881 : x27_2 < (t878.length : Int) := od_ (by assumption)
        obtain ⟨ad881, e881, hx881_0⟩ := Kd.at_int (Kd.R_reads' HO_25.out).2.2 x27_2 p881 q881
        cases e881
        replace p881 := eq_true p881; replace q881 := eq_true q881
        go_wp2
        go_ret
        exact ⟨by rfl, HB.out⟩
       rw [if_neg c14] at H
       cases H
      rw [if_neg c13] at H
      cases H
     rw [if_neg c12] at H; have c12b0 := decide_eq_false c12; clear c12; obtain rfl := Option.some.inj H
     go_wp2
     go_ret
     exact ⟨by rfl, HB.out⟩
mutual
def spec_CompareWords.l0 : Nat → List Int → List Int → Int → Option (Int)
 | 0, _, _, _ => none
 | k + 1, x0, x1, x5 => if x5 < (x0.length : Int) then (spec_CompareWords.j1 k x0 x1 x5 (decide (x5 < (x1.length : Int)))) else (spec_CompareWords.j1 k x0 x1 x5 false)
def spec_CompareWords.j1 : Nat → List Int → List Int → Int → Bool → Option (Int)
 | 0, _, _, _, _ => none
 | k + 1, x0, x1, x5, x15 => if x15 = true then (if 0 ≤ x5 then (if x5 < (x0.length : Int) then (if x5 < (x1.length : Int) then (if (rd x0 x5) < (rd x1 x5) then (some (-1)) else (if (rd x0 x5) > (rd x1 x5) then (some 1) else (spec_CompareWords.l0 k x0 x1 (wrap64 (x5 + 1))))) else (none)) else (none)) else (none)) else (if (x0.length : Int) < (x1.length : Int) then (some (-1)) else (if (x0.length : Int) > (x1.length : Int) then (some 1) else (some 0)))
end
def spec_CompareWords.f (k : Nat) (l0 : List Int) (l1 : List Int) : Option (Int) := spec_CompareWords.l0 k l0 l1 0
theorem spec_CompareWords.calls (k : Nat) (A0 : Option Addr) (c0 : Nat) (l0 : List Int) (A1 : Option Addr) (c1 : Nat) (l1 : List Int) (r : Int) (w : World) (hr0 : Kd.C (Kd.int .i64) w A0 l0.length l0) (hc0 : l0.length ≤ c0) (hr1 : Kd.C (Kd.int .i64) w A1 l1.length l1) (hc1 : l1.length ≤ c1) (h : spec_CompareWords.f k l0 l1 = some r) :
  Calls Tryz.prog 71 #[.slice A0 l0.length c0, .slice A1 l1.length c1] w fun e w' => e = .returned (.int .i64 r) ∧ Drawn0 w w' := by
 have HR0 := A_ hr0; clear hr0 hc0; have HR1 := A_ hr1; clear hr1 hc1; unfold spec_CompareWords.f at h; have H := h; clear h
 have H' := A_ H
 clear H; go_enter Tryz.func71, Tryz.ntmps71
 go_wp2
 repeat (go_quiet (fail); try go_wp2)
 go_loopg [5] k (fun kq v5 w' => ∃ (x5_1 : Int), v5 = .int .i64 x5_1 ∧ Aside0 (spec_CompareWords.l0 kq l0 l1 x5_1 = some r) ∧ Aside0 (kq ≤ k) ∧ Drawn0 w w')
 case atStart => exact ⟨(0), (by rfl), H', ⟨Nat.le_refl _⟩, by repeat (first | exact Drawn0.refl _ | apply Drawn0.step)⟩
 case round =>
  clear H'; obtain ⟨x5_1, rfl, HA, HK1, ⟨m1, rfl⟩⟩ := hrel
  cases gk with
  | zero => exact absurd HA.out (by simp [spec_CompareWords.l0])
  | succ k1 =>
   have H := HA.out; clear HA; simp only [spec_CompareWords.l0] at H; have HC3 := A_ H; clear H
   go_upto_region 2 with (fail)
   repeat (go_quiet (fail); go_upto_region 2 with (fail))
   go_cut [15] (fun v15 wc => ∃ (kq : Nat) (x15_2 : Bool), v15 = .bool x15_2 ∧ Aside0 (spec_CompareWords.j1 kq l0 l1 x5_1 x15_2 = some r) ∧ Aside0 (kq ≤ k1) ∧ Drawn0 w wc)
   case first =>
    have H := HC3.out; clear HC3
    by_cases c4 : x5_1 < (l0.length : Int)
    ·rw [if_pos c4] at H; have c4b0 := decide_eq_true c4; clear c4
     (skip)
     have H' := A_ H
     clear H
     go_wp2
     repeat (go_quiet (fail); try go_wp2)
     go_meet
     case rel => exact ⟨_, (decide (x5_1 < (l1.length : Int))), (by rfl), H', ⟨by have := HK1.out; omega⟩, by repeat (first | exact Drawn0.refl _ | apply Drawn0.step)⟩
    rw [if_neg c4] at H; have c4b0 := decide_eq_false c4; clear c4
    (skip)
    have H' := A_ H
    clear H
    go_wp2
    repeat (go_quiet (fail); try go_wp2)
    go_meet
    case rel => exact ⟨_, (false), (by rfl), H', ⟨by have := HK1.out; omega⟩, by repeat (first | exact Drawn0.refl _ | apply Drawn0.step)⟩
   case rest =>
    clear HC3; obtain ⟨kq, x15_2, rfl, HA, HJ2, ⟨mc2, rfl⟩⟩ := hcut
    cases kq with
    | zero => exact absurd HA.out (by simp [spec_CompareWords.j1])
    | succ kj2 =>
     have H := HA.out; clear HA; simp only [spec_CompareWords.j1] at H
     by_cases c5 : x15_2 = true
     ·subst c5; rw [if_pos rfl] at H
      by_cases c6 : 0 ≤ x5_1
      ·rw [if_pos c6] at H; have c6b0 := decide_eq_true c6; clear c6
       by_cases c7 : x5_1 < (l0.length : Int)
       ·rw [if_pos c7] at H; have c7b0 := decide_eq_true c7; clear c7
        by_cases c8 : x5_1 < (l1.length : Int)
        ·rw [if_pos c8] at H; have c8b0 := decide_eq_true c8; clear c8
         by_cases c9 : (rd l0 x5_1) < (rd l1 x5_1)
         ·rw [if_pos c9] at H; have c9b0 := decide_eq_true c9; clear c9; obtain rfl := Option.some.inj H
          have p882 : 0 ≤ (x5_1 : Int) := od_ (by assumption)
          have q882 : x5_1 < (l0.length : Int) := od_ (by assumption)
          obtain ⟨ad882, e882, hx882_0⟩ := Kd.at_int HR0.out x5_1 p882 q882
          cases e882
          replace p882 := eq_true p882; replace q882 := eq_true q882
          have p883 : 0 ≤ (x5_1 : Int) := od_ (by assumption)
          have q883 : x5_1 < (l1.length : Int) := od_ (by assumption)
          obtain ⟨ad883, e883, hx883_0⟩ := Kd.at_int HR1.out x5_1 p883 q883
          cases e883
          replace p883 := eq_true p883; replace q883 := eq_true q883
          go_wp2
          repeat (go_quiet (fail); try go_wp2)
          go_ret
          exact ⟨by rfl, by repeat (first | exact Drawn0.refl _ | apply Drawn0.step)⟩
         rw [if_neg c9] at H; have c9b0 := decide_eq_false c9; clear c9
         by_cases c10 : (rd l0 x5_1) > (rd l1 x5_1)
         ·rw [if_pos c10] at H
          have c10b0 : decide ((rd l1 x5_1) < (rd l0 x5_1)) = true := decide_eq_true c10
          clear c10; obtain rfl := Option.some.inj H
          have p882 : 0 ≤ (x5_1 : Int) := od_ (by assumption)
          have q882 : x5_1 < (l0.length : Int) := od_ (by assumption)
          obtain ⟨ad882, e882, hx882_0⟩ := Kd.at_int HR0.out x5_1 p882 q882
          cases e882
          replace p882 := eq_true p882; replace q882 := eq_true q882
          have p883 : 0 ≤ (x5_1 : Int) := od_ (by assumption)
          have q883 : x5_1 < (l1.length : Int) := od_ (by assumption)
          obtain ⟨ad883, e883, hx883_0⟩ := Kd.at_int HR1.out x5_1 p883 q883
          cases e883
          replace p883 := eq_true p883; replace q883 := eq_true q883
          have p884 : 0 ≤ (x5_1 : Int) := od_ (by assumption)
          have q884 : x5_1 < (l0.length : Int) := od_ (by assumption)
          obtain ⟨ad884, e884, hx884_0⟩ := Kd.at_int HR0.out x5_1 p884 q884; obtain rfl : ad882 = ad884 := (by injection e884); replace p884 := eq_true p884; replace q884 := eq_true q884
          have p885 : 0 ≤ (x5_1 : Int) := od_ (by assumption)
          have q885 : x5_1 < (l1.length : Int) := od_ (by assumption)
          obtain ⟨ad885, e885, hx885_0⟩ := Kd.at_int HR1.out x5_1 p885 q885; obtain rfl : ad883 = ad885 := (by injection e885); replace p885 := eq_true p885; replace q885 := eq_true q885
          go_wp2
          repeat (go_quiet (fail); try go_wp2)
          go_ret
          exact ⟨by rfl, by repeat (first | exact Drawn0.refl _ | apply Drawn0.step)⟩
         rw [if_neg c10] at H
         have c10b0 : decide ((rd l1 x5_1) < (rd l0 x5_1)) = false := decide_eq_false c10
         clear c10
         have H' := A_ H
         clear H
         have p882 : 0 ≤ (x5_1 : Int) := od_ (by assumption)
         have q882 : x5_1 < (l0.length : Int) := od_ (by assumption)
         obtain ⟨ad882, e882, hx882_0⟩ := Kd.at_int HR0.out x5_1 p882 q882
         cases e882
         replace p882 := eq_true p882; replace q882 := eq_true q882
         have p883 : 0 ≤ (x5_1 : Int) := od_ (by assumption)
         have q883 : x5_1 < (l1.length : Int) := od_ (by assumption)
         obtain ⟨ad883, e883, hx883_0⟩ := Kd.at_int HR1.out x5_1 p883 q883
         cases e883
         replace p883 := eq_true p883; replace q883 := eq_true q883
         have p884 : 0 ≤ (x5_1 : Int) := od_ (by assumption)
         have q884 : x5_1 < (l0.length : Int) := od_ (by assumption)
         obtain ⟨ad884, e884, hx884_0⟩ := Kd.at_int HR0.out x5_1 p884 q884; obtain rfl : ad882 = ad884 := (by injection e884); replace p884 := eq_true p884; replace q884 := eq_true q884
         have p885 : 0 ≤ (x5_1 : Int) := od_ (by assumption)
         have q885 : x5_1 < (l1.length : Int) := od_ (by assumption)
         obtain ⟨ad885, e885, hx885_0⟩ := Kd.at_int HR1.out x5_1 p885 q885; obtain rfl : ad883 = ad885 := (by injection e885); replace p885 := eq_true p885; replace q885 := eq_true q885
         go_wp2
         repeat (go_quiet (fail); try go_wp2)
         go_roundg kj2
         case measure => have := HK1.out; have := HJ2.out; omega
         case rel => exact ⟨(wrap64 (x5_1 + 1)), (by rfl), H', ⟨by have := HK1.out; have := HJ2.out; omega⟩, by repeat (first | exact Drawn0.refl _ | apply Drawn0.step)⟩
        rw [if_neg c8] at H
        cases H
       rw [if_neg c7] at H
       cases H
      rw [if_neg c6] at H
      cases H
     replace c5 := Bool.eq_false_iff.mpr c5; subst c5; rw [if_neg nf_] at H
     by_cases c11 : (l0.length : Int) < (l1.length : Int)
     ·rw [if_pos c11] at H
      have c11b1 : decide (l0.length < l1.length) = true := decide_eq_true (Int.ofNat_lt.mp c11)
      clear c11; obtain rfl := Option.some.inj H
      go_wp2
      repeat (go_quiet (fail); try go_wp2)
      go_ret
      exact ⟨by rfl, by repeat (first | exact Drawn0.refl _ | apply Drawn0.step)⟩
     rw [if_neg c11] at H; have c11b0 := decide_eq_false c11
     have c11b1 : decide (l0.length < l1.length) = false := decide_eq_false (fun h => c11 (Int.ofNat_lt.mpr h))
     clear c11
     by_cases c12 : (l0.length : Int) > (l1.length : Int)
     ·rw [if_pos c12] at H
      have c12b1 : decide (l1.length < l0.length) = true := decide_eq_true (Int.ofNat_lt.mp c12)
      clear c12; obtain rfl := Option.some.inj H
      go_wp2
      repeat (go_quiet (fail); try go_wp2)
      go_ret
      exact ⟨by rfl, by repeat (first | exact Drawn0.refl _ | apply Drawn0.step)⟩
     rw [if_neg c12] at H
     have c12b1 : decide (l1.length < l0.length) = false := decide_eq_false (fun h => c12 (Int.ofNat_lt.mpr h))
     clear c12; obtain rfl := Option.some.inj H
     go_wp2
     repeat (go_quiet (fail); try go_wp2)
     go_ret
     exact ⟨by rfl, by repeat (first | exact Drawn0.refl _ | apply Drawn0.step)⟩

def spec_l8Put.l0 : Nat → List (List Int) → List Int → List (List Int) → Bool → Int → Option ((List (List Int)))
 | 0, _, _, _, _, _ => none
 | k + 1, x0, x1, x5, x6, x7 => if x7 < (x0.length : Int) then (if 0 ≤ x7 then ((spec_CompareWords.f k x1 (rd_L2 x0 x7)).bind fun t899 => (if t899 = 0 then (if t899 < 0 then (if x5.length < 5864062014805 then (spec_l8Put.l0 k x0 x1 (x5 ++ [rd_L2 x0 x7]) true (wrap64 (x7 + 1))) else (none)) else (if x5.length < 5864062014805 then (spec_l8Put.l0 k x0 x1 (x5 ++ [rd_L2 x0 x7]) true (wrap64 (x7 + 1))) else (none))) else (if t899 < 0 then (if x6 = true then (if x5.length < 5864062014805 then (spec_l8Put.l0 k x0 x1 (x5 ++ [rd_L2 x0 x7]) x6 (wrap64 (x7 + 1))) else (none)) else ((some (([] : List Int) : List Int)).bind fun y912 => (if y912.length + x1.length < 17592186044416 then (if x5.length < 5864062014805 then ((some (x5 ++ [(y912 ++ x1)] : List (List Int))).bind fun y918 => (if y918.length < 5864062014805 then (spec_l8Put.l0 k x0 x1 (y918 ++ [rd_L2 x0 x7]) true (wrap64 (x7 + 1))) else (none))) else (none)) else (none)))) else (if x5.length < 5864062014805 then (spec_l8Put.l0 k x0 x1 (x5 ++ [rd_L2 x0 x7]) x6 (wrap64 (x7 + 1))) else (none))))) else (none)) else (if x6 = true then (some x5) else ((some (([] : List Int) : List Int)).bind fun y889 => (if y889.length + x1.length < 17592186044416 then (if x5.length < 5864062014805 then (some (x5 ++ [(y889 ++ x1)])) else (none)) else (none))))
def spec_l8Put.f (k : Nat) (l0 : List (List Int)) (l1 : List Int) : Option ((List (List Int))) := spec_l8Put.l0 k l0 l1 (([] : List (List Int))) false 0
theorem spec_l8Put.calls (k : Nat) (P0_ : Nat → Prop) (A0 : Option Addr) (c0 : Nat) (l0 : List (List Int)) (A1 : Option Addr) (c1 : Nat) (l1 : List Int) (r : List (List Int)) (w : World) (hs0 : Kd.V (Kd.slice 3 (Kd.int .i64)) 24 w w.heap.size (fun k_ => P0_ k_) (.slice A0 l0.length c0) l0) (hr1 : Kd.C (Kd.int .i64) w A1 l1.length l1) (hc1 : l1.length ≤ c1) (h : spec_l8Put.f k l0 l1 = some r) :
  Calls Tryz.prog 62 #[.slice A0 l0.length c0, .slice A1 l1.length c1] w fun e w' => ∃ v0_ : Value, e = .returned (v0_) ∧ Kd.N (Kd.slice 3 (Kd.int .i64)) 24 w' w.heap.size (fun k_ => (P0_ k_ ∨ w.heap.size ≤ k_)) v0_ r ∧ Below w.heap.size w w' := by
 have HO0 := A_ (show Kd.V (Kd.slice 3 (Kd.int .i64)) 24 w w.heap.size (fun k_ => (P0_ k_ ∨ w.heap.size ≤ k_)) (.slice A0 l0.length c0) l0 from Kd.V_mono hs0 (fun k_ hk => .inl hk)); have HR1 := A_ hr1; have HC1 := A_ hc1; clear hr1 hc1; have HB := A_ (Below.refl w.heap.size w); unfold spec_l8Put.f at h; have H := h; clear h; obtain ⟨y886, hy886⟩ := ex_ ((([] : List (List Int))) : List (List Int)); replace H : (spec_l8Put.l0 k l0 l1 y886 false 0) = some r := by (rw [hy886]; with_reducible exact H)
 have Ny886 := A_ hy886; clear hy886
 have H' := A_ H
 clear H; go_enter Tryz.func62, Tryz.ntmps62
 go_wp2_with (first | ((with_reducible refine gate_dst (N := 9) rfl ?_); refine Kd.N_lit (Kd.slice 3 (Kd.int .i64)) _ 24 ?hg (N' := 9) ?hd (xs := ([] : List (List Int))) (inner := []) (ok := (fun k_ => (P0_ k_ ∨ w.heap.size ≤ k_))) (okp := (fun k_ => (P0_ k_ ∨ w.heap.size ≤ k_))) ?hr ?hp (fun _ hk => hk) ((show ∀ k_, w.heap.size ≤ k_ → (fun k_ => (P0_ k_ ∨ w.heap.size ≤ k_)) k_ from fun k_ hk => (.inr (Nat.le_trans (below_size HB.out) hk))) _ (Nat.le_refl _)) (Below.refl _ _) (Nat.le_refl _) (by simp) ?_; (case hd | hg => rfl); (case hr => go_simp; done); (case hp => exact (Reps.none _ _)); rintro v887 w3 ho4 hb - -; (rw [← Ny886.out] at ho4); replace HO0 := A_ (Kd.V_elder' HO0.out (Kd.N_base ho4) hb); have HO888 := A_ (Kd.N_lower ho4 (below_size HB.out)); replace HB := bs_ HB hb; clear hb ho4))
 go_loopg [5, 6, 7] k (fun kq v5 v6 v7 w' => ∃ (x5_1 : List (List Int)) (x6_1 : Bool) (x7_1 : Int), v6 = .bool x6_1 ∧ v7 = .int .i64 x7_1 ∧ Aside0 (spec_l8Put.l0 kq l0 l1 x5_1 x6_1 x7_1 = some r) ∧ Aside0 (kq ≤ k) ∧ Aside0 (Kd.V (Kd.slice 3 (Kd.int .i64)) 24 w' w.heap.size (fun k_ => (P0_ k_ ∨ w.heap.size ≤ k_) ∧ some k_ ≠ (v5 : Value).ownBlock) (.slice A0 l0.length c0) l0) ∧ Aside0 (Kd.N (Kd.slice 3 (Kd.int .i64)) 24 w' w.heap.size (fun k_ => (P0_ k_ ∨ w.heap.size ≤ k_)) v5 x5_1) ∧ Aside0 (Below w.heap.size w w'))
 case atStart => exact ⟨(y886), (false), (0), (by rfl), (by rfl), H', ⟨Nat.le_refl _⟩, ⟨HO0.out⟩, ⟨HO888.out⟩, ⟨HB.out⟩⟩
 case round =>
  clear H'; obtain ⟨x5_1, x6_1, x7_1, rfl, rfl, HA, HK1, HO_0, HO_5, HB⟩ := hrel
  cases gk with
  | zero => exact absurd HA.out (by simp [spec_l8Put.l0])
  | succ k1 =>
   have H := HA.out; clear HA; simp only [spec_l8Put.l0] at H
   by_cases c5 : x7_1 < (l0.length : Int)
   ·rw [if_pos c5] at H; have c5b0 := decide_eq_true c5; clear c5
    by_cases c6 : 0 ≤ x7_1
    ·rw [if_pos c6] at H; have c6b0 := decide_eq_true c6; clear c6; replace H := bA_ H; obtain ⟨t899, A7, H⟩ := H
     by_cases c8 : t899 = 0
     ·rw [if_pos c8] at H
      have c8b0 : (t899 == 0) = true := beq_iff_eq.mpr c8
      have c8b1 : (t899 != 0) = false := bne_eq_false_iff_eq.mpr c8
      clear c8
      by_cases c9 : t899 < 0
      ·rw [if_pos c9] at H; have c9b0 := decide_eq_true c9; clear c9
       by_cases c10 : x5_1.length < 5864062014805
       ·rw [if_pos c10] at H; have LMc10 := A_ c10; clear c10; obtain ⟨y901, hy901⟩ := ex_ ((x5_1 ++ [rd_L2 l0 x7_1]) : List (List Int)); replace H : (spec_l8Put.l0 k1 l0 l1 y901 true (wrap64 (x7_1 + 1))) = some r := by (rw [hy901]; with_reducible exact H)
        have Ny901 := A_ hy901; clear hy901
        have H' := A_ H
        clear H
        have p898 : 0 ≤ (x7_1 : Int) := od_ (by assumption)
        have q898 : x7_1 < (l0.length : Int) := od_ (by assumption)
        obtain ⟨ad898, A898_0, c898_0, e898, hx898_0, hl898_0, hi898_0⟩ := at_L2 (Kd.V_reads' HO_0.out).2.2 x7_1 p898 q898
        cases e898
        obtain ⟨ce898, hce898, hMe898, hcc898⟩ := Kd.V_get HO_0.out [] x7_1 p898 (by exact q898); obtain ⟨ua898_0, uc898_0, rfl, ul898_0, ge898_0⟩ := Kd.FK_slice_open hMe898; have hv898_0 := hcc898 0 _ rfl; rw [Nat.add_zero, show ((Kd.slice 3 (Kd.int .i64))).sz = 1 from rfl, Nat.mul_one] at hv898_0; replace hv898_0 := Option.some.inj (hv898_0.symm.trans hx898_0)
        injection hv898_0 with hva_ hvn_ hvc_
        rw [hva_] at ge898_0; rw [hvc_] at ul898_0; have HL898_0 := A_ (show Kd.V (Kd.int .i64) 3 _ w.heap.size _ _ (rd_L2 l0 x7_1) from Kd.V_mk ul898_0 ge898_0); clear hva_ hvn_ hvc_ ge898_0 ul898_0 hcc898 hce898; have HR898_0 := A_ hi898_0; have HC898_0 := A_ hl898_0; clear hi898_0 hl898_0; replace p898 := eq_true p898; replace q898 := eq_true q898
        go_wp2_with (first | ((with_reducible refine gc_ 71 rfl ?_); refine cD_ E71 21 rfl rfl rfl (spec_CompareWords.calls k1 _ _ l1 _ _ (rd_L2 l0 x7_1) t899 _ (Kd.C_below HR1.out HB.out) HC1.out (by repeat (first | exact (by repeat (first | (with_reducible exact HR898_0.out) | (with_reducible refine Kd.C_alloc ?_ _) | (with_reducible refine Kd.C_drewN ?_ _) | (with_reducible refine Kd.C_drew ?_) | exact HR898_0.out)) | (with_reducible refine Kd.C_alloc ?_ _) | (with_reducible refine Kd.C_drewN ?_ _) | (with_reducible refine Kd.C_drew ?_))) HC898_0.out A7.out) (by simp only [mA, mB, mC]; rfl) fun nd => ?_; have p900 : 0 ≤ (x7_1 : Int) := od_ (by assumption); have q900 : x7_1 < (l0.length : Int) := od_ (by assumption); obtain ⟨ad900, A900_0, c900_0, e900, hx900_0, hl900_0, hi900_0⟩ := at_L2 (Kd.V_reads' HO_0.out).2.2 x7_1 p900 q900; obtain rfl : ad898 = ad900 := (by injection e900); obtain ⟨ce900, hce900, hMe900, hcc900⟩ := Kd.V_get HO_0.out [] x7_1 p900 (by exact q900); obtain ⟨ua900_0, uc900_0, rfl, ul900_0, ge900_0⟩ := Kd.FK_slice_open hMe900; have hv900_0 := hcc900 0 _ rfl; rw [Nat.add_zero, show ((Kd.slice 3 (Kd.int .i64))).sz = 1 from rfl, Nat.mul_one] at hv900_0; replace hv900_0 := Option.some.inj (hv900_0.symm.trans hx900_0); injection hv900_0 with hva_ hvn_ hvc_; rw [hva_] at ge900_0; rw [hvc_] at ul900_0; have HL900_0 := A_ (show Kd.V (Kd.int .i64) 3 _ w.heap.size _ _ (rd_L2 l0 x7_1) from Kd.V_mk ul900_0 ge900_0); clear hva_ hvn_ hvc_ ge900_0 ul900_0; clear hcc900 hce900; have HR900_0 := A_ hi900_0; have HC900_0 := A_ hl900_0; clear hi900_0 hl900_0; replace p900 := eq_true p900; replace q900 := eq_true q900; have ea_ := Option.some.inj (hx898_0.symm.trans hx900_0); injection ea_ with ea_ en_ ec_; subst ea_; subst ec_; clear en_) | ((with_reducible refine gate_builtin (b := .append) (xs := #[.tmp 36, .tmp 41]) rfl ?_); at_builtin; refine Kd.N_append (Kd.slice 3 (Kd.int .i64)) (w0 := w) w.heap.size rfl (.tmp 36) (.tmp 41) 47 24 (.slice none 0 0) 24 rfl Tryz.underlying47 info24 rfl (by decide) (by omega) u5 x5_1 (rd_L2 l0 x7_1) [.slice A898_0 (rd_L2 l0 x7_1).length c898_0] (fun k_ => (P0_ k_ ∨ w.heap.size ≤ k_)) (fun k_ => ((fun k_ => (P0_ k_ ∨ w.heap.size ≤ k_))) k_ ∧ some k_ ≠ (u5 : Value).ownBlock) rfl rfl ?aP (fun _ hk => hk) ?aF ?aO ?aB ?aS ?aL ?_; (case aP => first | exact (Kd.FK_slice_mk (Kd.V_reads' (Kd.V_mono (ok' := (fun k_ => ((fun k_ => (P0_ k_ ∨ w.heap.size ≤ k_))) k_ ∧ some k_ ≠ (u5 : Value).ownBlock)) (HL900_0.out) (fun k_ hk => ⟨hk.1, hk.2⟩))).2.1 (Kd.V_F (Kd.V_mono (ok' := (fun k_ => ((fun k_ => (P0_ k_ ∨ w.heap.size ≤ k_))) k_ ∧ some k_ ≠ (u5 : Value).ownBlock)) (HL900_0.out) (fun k_ hk => ⟨hk.1, hk.2⟩)))) | exact (Kd.FK_slice_mk (Kd.V_reads' (Kd.V_mono (ok' := (fun k_ => ((fun k_ => (P0_ k_ ∨ w.heap.size ≤ k_))) k_ ∧ some k_ ≠ (u5 : Value).ownBlock)) (HL900_0.out) (fun k_ hk => ⟨hk.1, hk.2⟩))).2.1 (Kd.V_F (Kd.V_mono (ok' := (fun k_ => ((fun k_ => (P0_ k_ ∨ w.heap.size ≤ k_))) k_ ∧ some k_ ≠ (u5 : Value).ownBlock)) (Kd.V_drewN HL900_0.out _) (fun k_ hk => ⟨hk.1, hk.2⟩))))); (case aB => exact (by repeat (first | (with_reducible first | exact HB.out | apply below_alloc | apply pw_below_drewN | apply below_drew1) | exact HB.out))); (case aF => exact (fun k_ hk => (.inr (Nat.le_trans (below_size (by repeat (first | (with_reducible first | exact HB.out | apply below_alloc | apply pw_below_drewN | apply below_drew1) | exact HB.out))) hk)))); (case aO => exact (by (with_reducible repeat (first | apply Kd.N_alloc | apply Kd.N_drewN | apply Kd.N_drew)); exact HO_5.out)); (case aS => exact (below_size (by repeat (first | (with_reducible first | exact HB.out | apply below_alloc | apply pw_below_drewN | apply below_drew1) | exact HB.out)))); (case aL => have := LMc10.out; omega); intro v902 w11 ho hb hg hat; rw [← Ny901.out] at ho; replace HO_0 := A_ (Kd.V_afterv (ok := (fun k_ => (P0_ k_ ∨ w.heap.size ≤ k_))) (by (with_reducible repeat (first | apply Kd.V_alloc | apply Kd.V_drewN | apply Kd.V_drew)); exact HO_0.out) hg hat); replace HL898_0 := A_ (Kd.V_afterv (ok := (fun k_ => (P0_ k_ ∨ w.heap.size ≤ k_))) (by (with_reducible repeat (first | apply Kd.V_alloc | apply Kd.V_drewN | apply Kd.V_drew)); exact HL898_0.out) hg hat); replace HL900_0 := A_ (Kd.V_afterv (ok := (fun k_ => (P0_ k_ ∨ w.heap.size ≤ k_))) (by (with_reducible repeat (first | apply Kd.V_alloc | apply Kd.V_drewN | apply Kd.V_drew)); exact HL900_0.out) hg hat); replace HB := A_ (hb); have HO903 := A_ (ho); clear HO_5; clear ho hb hg hat))
        go_roundg k1
        case measure => have := HK1.out; omega
        case rel => exact ⟨(y901), (true), (wrap64 (x7_1 + 1)), (by rfl), (by rfl), H', ⟨by have := HK1.out; omega⟩, ⟨HO_0.out⟩, ⟨HO903.out⟩, ⟨HB.out⟩⟩
       rw [if_neg c10] at H
       cases H
      rw [if_neg c9] at H; have c9b0 := decide_eq_false c9; clear c9
      by_cases c12 : x5_1.length < 5864062014805
      ·rw [if_pos c12] at H; have LMc12 := A_ c12; clear c12; obtain ⟨y905, hy905⟩ := ex_ ((x5_1 ++ [rd_L2 l0 x7_1]) : List (List Int)); replace H : (spec_l8Put.l0 k1 l0 l1 y905 true (wrap64 (x7_1 + 1))) = some r := by (rw [hy905]; with_reducible exact H)
       have Ny905 := A_ hy905; clear hy905
       have H' := A_ H
       clear H
       have p898 : 0 ≤ (x7_1 : Int) := od_ (by assumption)
       have q898 : x7_1 < (l0.length : Int) := od_ (by assumption)
       obtain ⟨ad898, A898_0, c898_0, e898, hx898_0, hl898_0, hi898_0⟩ := at_L2 (Kd.V_reads' HO_0.out).2.2 x7_1 p898 q898
       cases e898
       obtain ⟨ce898, hce898, hMe898, hcc898⟩ := Kd.V_get HO_0.out [] x7_1 p898 (by exact q898); obtain ⟨ua898_0, uc898_0, rfl, ul898_0, ge898_0⟩ := Kd.FK_slice_open hMe898; have hv898_0 := hcc898 0 _ rfl; rw [Nat.add_zero, show ((Kd.slice 3 (Kd.int .i64))).sz = 1 from rfl, Nat.mul_one] at hv898_0; replace hv898_0 := Option.some.inj (hv898_0.symm.trans hx898_0)
       injection hv898_0 with hva_ hvn_ hvc_
       rw [hva_] at ge898_0; rw [hvc_] at ul898_0; have HL898_0 := A_ (show Kd.V (Kd.int .i64) 3 _ w.heap.size _ _ (rd_L2 l0 x7_1) from Kd.V_mk ul898_0 ge898_0); clear hva_ hvn_ hvc_ ge898_0 ul898_0 hcc898 hce898; have HR898_0 := A_ hi898_0; have HC898_0 := A_ hl898_0; clear hi898_0 hl898_0; replace p898 := eq_true p898; replace q898 := eq_true q898
       go_wp2_with (first | ((with_reducible refine gc_ 71 rfl ?_); refine cD_ E71 21 rfl rfl rfl (spec_CompareWords.calls k1 _ _ l1 _ _ (rd_L2 l0 x7_1) t899 _ (Kd.C_below HR1.out HB.out) HC1.out (by repeat (first | exact (by repeat (first | (with_reducible exact HR898_0.out) | (with_reducible refine Kd.C_alloc ?_ _) | (with_reducible refine Kd.C_drewN ?_ _) | (with_reducible refine Kd.C_drew ?_) | exact HR898_0.out)) | (with_reducible refine Kd.C_alloc ?_ _) | (with_reducible refine Kd.C_drewN ?_ _) | (with_reducible refine Kd.C_drew ?_))) HC898_0.out A7.out) (by simp only [mA, mB, mC]; rfl) fun nd => ?_; have p904 : 0 ≤ (x7_1 : Int) := od_ (by assumption); have q904 : x7_1 < (l0.length : Int) := od_ (by assumption); obtain ⟨ad904, A904_0, c904_0, e904, hx904_0, hl904_0, hi904_0⟩ := at_L2 (Kd.V_reads' HO_0.out).2.2 x7_1 p904 q904; obtain rfl : ad898 = ad904 := (by injection e904); obtain ⟨ce904, hce904, hMe904, hcc904⟩ := Kd.V_get HO_0.out [] x7_1 p904 (by exact q904); obtain ⟨ua904_0, uc904_0, rfl, ul904_0, ge904_0⟩ := Kd.FK_slice_open hMe904; have hv904_0 := hcc904 0 _ rfl; rw [Nat.add_zero, show ((Kd.slice 3 (Kd.int .i64))).sz = 1 from rfl, Nat.mul_one] at hv904_0; replace hv904_0 := Option.some.inj (hv904_0.symm.trans hx904_0); injection hv904_0 with hva_ hvn_ hvc_; rw [hva_] at ge904_0; rw [hvc_] at ul904_0; have HL904_0 := A_ (show Kd.V (Kd.int .i64) 3 _ w.heap.size _ _ (rd_L2 l0 x7_1) from Kd.V_mk ul904_0 ge904_0); clear hva_ hvn_ hvc_ ge904_0 ul904_0; clear hcc904 hce904; have HR904_0 := A_ hi904_0; have HC904_0 := A_ hl904_0; clear hi904_0 hl904_0; replace p904 := eq_true p904; replace q904 := eq_true q904; have ea_ := Option.some.inj (hx898_0.symm.trans hx904_0); injection ea_ with ea_ en_ ec_; subst ea_; subst ec_; clear en_) | ((with_reducible refine gate_builtin (b := .append) (xs := #[.tmp 36, .tmp 41]) rfl ?_); at_builtin; refine Kd.N_append (Kd.slice 3 (Kd.int .i64)) (w0 := w) w.heap.size rfl (.tmp 36) (.tmp 41) 47 24 (.slice none 0 0) 24 rfl Tryz.underlying47 info24 rfl (by decide) (by omega) u5 x5_1 (rd_L2 l0 x7_1) [.slice A898_0 (rd_L2 l0 x7_1).length c898_0] (fun k_ => (P0_ k_ ∨ w.heap.size ≤ k_)) (fun k_ => ((fun k_ => (P0_ k_ ∨ w.heap.size ≤ k_))) k_ ∧ some k_ ≠ (u5 : Value).ownBlock) rfl rfl ?aP (fun _ hk => hk) ?aF ?aO ?aB ?aS ?aL ?_; (case aP => first | exact (Kd.FK_slice_mk (Kd.V_reads' (Kd.V_mono (ok' := (fun k_ => ((fun k_ => (P0_ k_ ∨ w.heap.size ≤ k_))) k_ ∧ some k_ ≠ (u5 : Value).ownBlock)) (HL904_0.out) (fun k_ hk => ⟨hk.1, hk.2⟩))).2.1 (Kd.V_F (Kd.V_mono (ok' := (fun k_ => ((fun k_ => (P0_ k_ ∨ w.heap.size ≤ k_))) k_ ∧ some k_ ≠ (u5 : Value).ownBlock)) (HL904_0.out) (fun k_ hk => ⟨hk.1, hk.2⟩)))) | exact (Kd.FK_slice_mk (Kd.V_reads' (Kd.V_mono (ok' := (fun k_ => ((fun k_ => (P0_ k_ ∨ w.heap.size ≤ k_))) k_ ∧ some k_ ≠ (u5 : Value).ownBlock)) (HL904_0.out) (fun k_ hk => ⟨hk.1, hk.2⟩))).2.1 (Kd.V_F (Kd.V_mono (ok' := (fun k_ => ((fun k_ => (P0_ k_ ∨ w.heap.size ≤ k_))) k_ ∧ some k_ ≠ (u5 : Value).ownBlock)) (Kd.V_drewN HL904_0.out _) (fun k_ hk => ⟨hk.1, hk.2⟩))))); (case aB => exact (by repeat (first | (with_reducible first | exact HB.out | apply below_alloc | apply pw_below_drewN | apply below_drew1) | exact HB.out))); (case aF => exact (fun k_ hk => (.inr (Nat.le_trans (below_size (by repeat (first | (with_reducible first | exact HB.out | apply below_alloc | apply pw_below_drewN | apply below_drew1) | exact HB.out))) hk)))); (case aO => exact (by (with_reducible repeat (first | apply Kd.N_alloc | apply Kd.N_drewN | apply Kd.N_drew)); exact HO_5.out)); (case aS => exact (below_size (by repeat (first | (with_reducible first | exact HB.out | apply below_alloc | apply pw_below_drewN | apply below_drew1) | exact HB.out)))); (case aL => have := LMc12.out; omega); intro v906 w13 ho hb hg hat; rw [← Ny905.out] at ho; replace HO_0 := A_ (Kd.V_afterv (ok := (fun k_ => (P0_ k_ ∨ w.heap.size ≤ k_))) (by (with_reducible repeat (first | apply Kd.V_alloc | apply Kd.V_drewN | apply Kd.V_drew)); exact HO_0.out) hg hat); replace HL898_0 := A_ (Kd.V_afterv (ok := (fun k_ => (P0_ k_ ∨ w.heap.size ≤ k_))) (by (with_reducible repeat (first | apply Kd.V_alloc | apply Kd.V_drewN | apply Kd.V_drew)); exact HL898_0.out) hg hat); replace HL904_0 := A_ (Kd.V_afterv (ok := (fun k_ => (P0_ k_ ∨ w.heap.size ≤ k_))) (by (with_reducible repeat (first | apply Kd.V_alloc | apply Kd.V_drewN | apply Kd.V_drew)); exact HL904_0.out) hg hat); replace HB := A_ (hb); have HO907 := A_ (ho); clear HO_5; clear ho hb hg hat))
       go_roundg k1
       case measure => have := HK1.out; omega
       case rel => exact ⟨(y905), (true), (wrap64 (x7_1 + 1)), (by rfl), (by rfl), H', ⟨by have := HK1.out; omega⟩, ⟨HO_0.out⟩, ⟨HO907.out⟩, ⟨HB.out⟩⟩
      rw [if_neg c12] at H
      cases H
     rw [if_neg c8] at H
     have c8b0 : (t899 == 0) = false := beq_eq_false_iff_ne.mpr c8
     have c8b1 : (t899 != 0) = true := bne_iff_ne.mpr c8
     by_cases c14 : t899 < 0
     ·rw [if_pos c14] at H; have c14b0 := decide_eq_true c14; clear c14
      by_cases c15 : x6_1 = true
      ·subst c15; rw [if_pos rfl] at H
       by_cases c16 : x5_1.length < 5864062014805
       ·rw [if_pos c16] at H; have LMc16 := A_ c16; clear c16; obtain ⟨y909, hy909⟩ := ex_ ((x5_1 ++ [rd_L2 l0 x7_1]) : List (List Int)); replace H : (spec_l8Put.l0 k1 l0 l1 y909 true (wrap64 (x7_1 + 1))) = some r := by (rw [hy909]; with_reducible exact H)
        have Ny909 := A_ hy909; clear hy909
        have H' := A_ H
        clear H
        have p898 : 0 ≤ (x7_1 : Int) := od_ (by assumption)
        have q898 : x7_1 < (l0.length : Int) := od_ (by assumption)
        obtain ⟨ad898, A898_0, c898_0, e898, hx898_0, hl898_0, hi898_0⟩ := at_L2 (Kd.V_reads' HO_0.out).2.2 x7_1 p898 q898
        cases e898
        obtain ⟨ce898, hce898, hMe898, hcc898⟩ := Kd.V_get HO_0.out [] x7_1 p898 (by exact q898); obtain ⟨ua898_0, uc898_0, rfl, ul898_0, ge898_0⟩ := Kd.FK_slice_open hMe898; have hv898_0 := hcc898 0 _ rfl; rw [Nat.add_zero, show ((Kd.slice 3 (Kd.int .i64))).sz = 1 from rfl, Nat.mul_one] at hv898_0; replace hv898_0 := Option.some.inj (hv898_0.symm.trans hx898_0)
        injection hv898_0 with hva_ hvn_ hvc_
        rw [hva_] at ge898_0; rw [hvc_] at ul898_0; have HL898_0 := A_ (show Kd.V (Kd.int .i64) 3 _ w.heap.size _ _ (rd_L2 l0 x7_1) from Kd.V_mk ul898_0 ge898_0); clear hva_ hvn_ hvc_ ge898_0 ul898_0 hcc898 hce898; have HR898_0 := A_ hi898_0; have HC898_0 := A_ hl898_0; clear hi898_0 hl898_0; replace p898 := eq_true p898; replace q898 := eq_true q898
        go_wp2_with (first | ((with_reducible refine gc_ 71 rfl ?_); refine cD_ E71 21 rfl rfl rfl (spec_CompareWords.calls k1 _ _ l1 _ _ (rd_L2 l0 x7_1) t899 _ (Kd.C_below HR1.out HB.out) HC1.out (by repeat (first | exact (by repeat (first | (with_reducible exact HR898_0.out) | (with_reducible refine Kd.C_alloc ?_ _) | (with_reducible refine Kd.C_drewN ?_ _) | (with_reducible refine Kd.C_drew ?_) | exact HR898_0.out)) | (with_reducible refine Kd.C_alloc ?_ _) | (with_reducible refine Kd.C_drewN ?_ _) | (with_reducible refine Kd.C_drew ?_))) HC898_0.out A7.out) (by simp only [mA, mB, mC]; rfl) fun nd => ?_; have p908 : 0 ≤ (x7_1 : Int) := od_ (by assumption); have q908 : x7_1 < (l0.length : Int) := od_ (by assumption); obtain ⟨ad908, A908_0, c908_0, e908, hx908_0, hl908_0, hi908_0⟩ := at_L2 (Kd.V_reads' HO_0.out).2.2 x7_1 p908 q908; obtain rfl : ad898 = ad908 := (by injection e908); obtain ⟨ce908, hce908, hMe908, hcc908⟩ := Kd.V_get HO_0.out [] x7_1 p908 (by exact q908); obtain ⟨ua908_0, uc908_0, rfl, ul908_0, ge908_0⟩ := Kd.FK_slice_open hMe908; have hv908_0 := hcc908 0 _ rfl; rw [Nat.add_zero, show ((Kd.slice 3 (Kd.int .i64))).sz = 1 from rfl, Nat.mul_one] at hv908_0; replace hv908_0 := Option.some.inj (hv908_0.symm.trans hx908_0); injection hv908_0 with hva_ hvn_ hvc_; rw [hva_] at ge908_0; rw [hvc_] at ul908_0; have HL908_0 := A_ (show Kd.V (Kd.int .i64) 3 _ w.heap.size _ _ (rd_L2 l0 x7_1) from Kd.V_mk ul908_0 ge908_0); clear hva_ hvn_ hvc_ ge908_0 ul908_0; clear hcc908 hce908; have HR908_0 := A_ hi908_0; have HC908_0 := A_ hl908_0; clear hi908_0 hl908_0; replace p908 := eq_true p908; replace q908 := eq_true q908; have ea_ := Option.some.inj (hx898_0.symm.trans hx908_0); injection ea_ with ea_ en_ ec_; subst ea_; subst ec_; clear en_) | ((with_reducible refine gate_builtin (b := .append) (xs := #[.tmp 36, .tmp 41]) rfl ?_); at_builtin; refine Kd.N_append (Kd.slice 3 (Kd.int .i64)) (w0 := w) w.heap.size rfl (.tmp 36) (.tmp 41) 47 24 (.slice none 0 0) 24 rfl Tryz.underlying47 info24 rfl (by decide) (by omega) u5 x5_1 (rd_L2 l0 x7_1) [.slice A898_0 (rd_L2 l0 x7_1).length c898_0] (fun k_ => (P0_ k_ ∨ w.heap.size ≤ k_)) (fun k_ => ((fun k_ => (P0_ k_ ∨ w.heap.size ≤ k_))) k_ ∧ some k_ ≠ (u5 : Value).ownBlock) rfl rfl ?aP (fun _ hk => hk) ?aF ?aO ?aB ?aS ?aL ?_; (case aP => first | exact (Kd.FK_slice_mk (Kd.V_reads' (Kd.V_mono (ok' := (fun k_ => ((fun k_ => (P0_ k_ ∨ w.heap.size ≤ k_))) k_ ∧ some k_ ≠ (u5 : Value).ownBlock)) (HL908_0.out) (fun k_ hk => ⟨hk.1, hk.2⟩))).2.1 (Kd.V_F (Kd.V_mono (ok' := (fun k_ => ((fun k_ => (P0_ k_ ∨ w.heap.size ≤ k_))) k_ ∧ some k_ ≠ (u5 : Value).ownBlock)) (HL908_0.out) (fun k_ hk => ⟨hk.1, hk.2⟩)))) | exact (Kd.FK_slice_mk (Kd.V_reads' (Kd.V_mono (ok' := (fun k_ => ((fun k_ => (P0_ k_ ∨ w.heap.size ≤ k_))) k_ ∧ some k_ ≠ (u5 : Value).ownBlock)) (HL908_0.out) (fun k_ hk => ⟨hk.1, hk.2⟩))).2.1 (Kd.V_F (Kd.V_mono (ok' := (fun k_ => ((fun k_ => (P0_ k_ ∨ w.heap.size ≤ k_))) k_ ∧ some k_ ≠ (u5 : Value).ownBlock)) (Kd.V_drewN HL908_0.out _) (fun k_ hk => ⟨hk.1, hk.2⟩))))); (case aB => exact (by repeat (first | (with_reducible first | exact HB.out | apply below_alloc | apply pw_below_drewN | apply below_drew1) | exact HB.out))); (case aF => exact (fun k_ hk => (.inr (Nat.le_trans (below_size (by repeat (first | (with_reducible first | exact HB.out | apply below_alloc | apply pw_below_drewN | apply below_drew1) | exact HB.out))) hk)))); (case aO => exact (by (with_reducible repeat (first | apply Kd.N_alloc | apply Kd.N_drewN | apply Kd.N_drew)); exact HO_5.out)); (case aS => exact (below_size (by repeat (first | (with_reducible first | exact HB.out | apply below_alloc | apply pw_below_drewN | apply below_drew1) | exact HB.out)))); (case aL => have := LMc16.out; omega); intro v910 w17 ho hb hg hat; rw [← Ny909.out] at ho; replace HO_0 := A_ (Kd.V_afterv (ok := (fun k_ => (P0_ k_ ∨ w.heap.size ≤ k_))) (by (with_reducible repeat (first | apply Kd.V_alloc | apply Kd.V_drewN | apply Kd.V_drew)); exact HO_0.out) hg hat); replace HL898_0 := A_ (Kd.V_afterv (ok := (fun k_ => (P0_ k_ ∨ w.heap.size ≤ k_))) (by (with_reducible repeat (first | apply Kd.V_alloc | apply Kd.V_drewN | apply Kd.V_drew)); exact HL898_0.out) hg hat); replace HL908_0 := A_ (Kd.V_afterv (ok := (fun k_ => (P0_ k_ ∨ w.heap.size ≤ k_))) (by (with_reducible repeat (first | apply Kd.V_alloc | apply Kd.V_drewN | apply Kd.V_drew)); exact HL908_0.out) hg hat); replace HB := A_ (hb); have HO911 := A_ (ho); clear HO_5; clear ho hb hg hat))
        go_roundg k1
        case measure => have := HK1.out; omega
        case rel => exact ⟨(y909), (true), (wrap64 (x7_1 + 1)), (by rfl), (by rfl), H', ⟨by have := HK1.out; omega⟩, ⟨HO_0.out⟩, ⟨HO911.out⟩, ⟨HB.out⟩⟩
       rw [if_neg c16] at H
       cases H
      replace c15 := Bool.eq_false_iff.mpr c15; subst c15; rw [if_neg nf_] at H; obtain ⟨y912, hy912⟩ := ex_ ((([] : List Int)) : List Int); replace H : (if y912.length + l1.length < 17592186044416 then (if x5_1.length < 5864062014805 then ((some (x5_1 ++ [(y912 ++ l1)] : List (List Int))).bind fun y918 => (if y918.length < 5864062014805 then (spec_l8Put.l0 k1 l0 l1 (y918 ++ [rd_L2 l0 x7_1]) true (wrap64 (x7_1 + 1))) else (none))) else (none)) else (none)) = some r := by (have H2_ := (Option.bind_some _ _).symm.trans H; rw [hy912]; with_reducible exact H2_)
      have Ny912 := A_ hy912; clear hy912
      by_cases c18 : y912.length + l1.length < 17592186044416
      ·rw [if_pos c18] at H; have LMc18 := A_ c18; clear c18; obtain ⟨y915, hy915⟩ := ex_ ((y912 ++ l1) : List Int); replace H : (if x5_1.length < 5864062014805 then ((some (x5_1 ++ [y915] : List (List Int))).bind fun y918 => (if y918.length < 5864062014805 then (spec_l8Put.l0 k1 l0 l1 (y918 ++ [rd_L2 l0 x7_1]) true (wrap64 (x7_1 + 1))) else (none))) else (none)) = some r := by (rw [hy915]; with_reducible exact H)
       have Ny915 := A_ hy915; clear hy915
       by_cases c19 : x5_1.length < 5864062014805
       ·rw [if_pos c19] at H; have LMc19 := A_ c19; clear c19; obtain ⟨y918, hy918⟩ := ex_ ((x5_1 ++ [y915]) : List (List Int)); replace H : (if y918.length < 5864062014805 then (spec_l8Put.l0 k1 l0 l1 (y918 ++ [rd_L2 l0 x7_1]) true (wrap64 (x7_1 + 1))) else (none)) = some r := by (have H2_ := (Option.bind_some _ _).symm.trans H; rw [hy918]; with_reducible exact H2_)
        have Ny918 := A_ hy918; clear hy918
        by_cases c20 : y918.length < 5864062014805
        ·rw [if_pos c20] at H; have LMc20 := A_ c20; clear c20; obtain ⟨y922, hy922⟩ := ex_ ((y918 ++ [rd_L2 l0 x7_1]) : List (List Int)); replace H : (spec_l8Put.l0 k1 l0 l1 y922 true (wrap64 (x7_1 + 1))) = some r := by (rw [hy922]; with_reducible exact H)
         have Ny922 := A_ hy922; clear hy922
         have H' := A_ H
         clear H
         have p898 : 0 ≤ (x7_1 : Int) := od_ (by assumption)
         have q898 : x7_1 < (l0.length : Int) := od_ (by assumption)
         obtain ⟨ad898, A898_0, c898_0, e898, hx898_0, hl898_0, hi898_0⟩ := at_L2 (Kd.V_reads' HO_0.out).2.2 x7_1 p898 q898
         cases e898
         obtain ⟨ce898, hce898, hMe898, hcc898⟩ := Kd.V_get HO_0.out [] x7_1 p898 (by exact q898); obtain ⟨ua898_0, uc898_0, rfl, ul898_0, ge898_0⟩ := Kd.FK_slice_open hMe898; have hv898_0 := hcc898 0 _ rfl; rw [Nat.add_zero, show ((Kd.slice 3 (Kd.int .i64))).sz = 1 from rfl, Nat.mul_one] at hv898_0; replace hv898_0 := Option.some.inj (hv898_0.symm.trans hx898_0)
         injection hv898_0 with hva_ hvn_ hvc_
         rw [hva_] at ge898_0; rw [hvc_] at ul898_0; have HL898_0 := A_ (show Kd.V (Kd.int .i64) 3 _ w.heap.size _ _ (rd_L2 l0 x7_1) from Kd.V_mk ul898_0 ge898_0); clear hva_ hvn_ hvc_ ge898_0 ul898_0 hcc898 hce898; have HR898_0 := A_ hi898_0; have HC898_0 := A_ hl898_0; clear hi898_0 hl898_0; replace p898 := eq_true p898; replace q898 := eq_true q898
         go_wp2_with (first | ((with_reducible refine gc_ 71 rfl ?_); refine cD_ E71 21 rfl rfl rfl (spec_CompareWords.calls k1 _ _ l1 _ _ (rd_L2 l0 x7_1) t899 _ (Kd.C_below HR1.out HB.out) HC1.out (by repeat (first | exact (by repeat (first | (with_reducible exact HR898_0.out) | (with_reducible refine Kd.C_alloc ?_ _) | (with_reducible refine Kd.C_drewN ?_ _) | (with_reducible refine Kd.C_drew ?_) | exact HR898_0.out)) | (with_reducible refine Kd.C_alloc ?_ _) | (with_reducible refine Kd.C_drewN ?_ _) | (with_reducible refine Kd.C_drew ?_))) HC898_0.out A7.out) (by simp only [mA, mB, mC]; rfl) fun nd => ?_) | ((with_reducible refine gd_ 31 rfl ?_); refine RL_ 31 3 [] [] rfl rfl (by go_simp; done) rfl rfl ?_; rintro v913 w21 ho22 hb - -; (rw [← Ny912.out] at ho22); replace HO_0 := A_ (Kd.V_elder' (by (with_reducible repeat (first | apply Kd.V_alloc | apply Kd.V_drewN | apply Kd.V_drew)); exact HO_0.out) (Kd.R_base ho22) hb); replace HO_5 := A_ (Kd.N_elder' (by (with_reducible repeat (first | apply Kd.N_alloc | apply Kd.N_drewN | apply Kd.N_drew)); exact HO_5.out) (Kd.R_base ho22) hb); replace HL898_0 := A_ (Kd.V_elder' (by (with_reducible repeat (first | apply Kd.V_alloc | apply Kd.V_drewN | apply Kd.V_drew)); exact HL898_0.out) (Kd.R_base ho22) hb); have HO914 := A_ (Kd.R_lower (Kd.R_newM (M := fun k_ => (w.heap.size ≤ k_)) ho22 (below_size (by repeat (first | (with_reducible first | exact HB.out | apply below_alloc | apply pw_below_drewN | apply below_drew1) | exact HB.out))) (fun k_ h_ => h_)) (below_size (by repeat (first | (with_reducible first | exact HB.out | apply below_alloc | apply pw_below_drewN | apply below_drew1) | exact HB.out)))); replace HR898_0 := A_ (Kd.C_below (by repeat (first | (with_reducible exact HR898_0.out) | (with_reducible refine Kd.C_alloc ?_ _) | (with_reducible refine Kd.C_drewN ?_ _) | (with_reducible refine Kd.C_drew ?_) | exact HR898_0.out)) hb); replace HB := A_ (below_step (by repeat (first | (with_reducible first | exact HB.out | apply below_alloc | apply pw_below_drewN | apply below_drew1) | exact HB.out)) hb); clear hb ho22) | ((with_reducible refine gate_builtin (b := .append) (xs := #[.tmp 31, .tmp 32]) rfl ?_); at_builtin; refine Kd.R_append_rows (Kd.int .i64) (w0 := w) w.heap.size rfl (.tmp 31) (.tmp 32) 24 3 (.int .i64 0) 8 rfl Tryz.underlying24 info3 rfl (by decide) (by omega) v913 y912 l1 _ _ _ (fun k_ => (w.heap.size ≤ k_)) (fun _ => False) rfl rfl ?aO ?aR (fun _ _ h => h) (fun _ h => h.elim) ?aF ?aB ?aS ?aL ?_; (case aR => exact (Kd.C_below HR1.out HB.out)); (case aB => exact HB.out); (case aF => exact (fun k_ hk => (Nat.le_trans (below_size HB.out) hk))); (case aO => exact (by exact Kd.R_mono HO914.out (fun _ hk => hk.1))); (case aS => exact (below_size HB.out)); (case aL => have := LMc18.out; omega); intro v916 w23 ho hb hg hat; rw [← Ny915.out] at ho; replace HO_0 := A_ (Kd.V_afterv (ok := (fun k_ => (P0_ k_ ∨ w.heap.size ≤ k_) ∧ some k_ ≠ (u5 : Value).ownBlock)) HO_0.out hg hat); replace HO_5 := A_ (Kd.N_afterv (ok := (fun k_ => (P0_ k_ ∨ w.heap.size ≤ k_))) HO_5.out hg hat); replace HL898_0 := A_ (Kd.V_afterv (ok := (fun k_ => (P0_ k_ ∨ w.heap.size ≤ k_) ∧ some k_ ≠ (u5 : Value).ownBlock)) HL898_0.out hg hat); replace HB := A_ (hb); have HO917 := A_ (ho); clear HO914; clear ho hb hg hat; obtain ⟨Ao25, co25, eo25⟩ := Kd.R_slice HO917.out; subst eo25) | ((with_reducible refine gate_builtin (b := .append) (xs := #[.tmp 30, .tmp 34]) rfl ?_); at_builtin; refine Kd.N_append (Kd.slice 3 (Kd.int .i64)) (w0 := w) w.heap.size rfl (.tmp 30) (.tmp 34) 47 24 (.slice none 0 0) 24 rfl Tryz.underlying47 info24 rfl (by decide) (by omega) u5 x5_1 y915 [.slice Ao25 y915.length co25] (fun k_ => (P0_ k_ ∨ w.heap.size ≤ k_)) (fun k_ => ((fun k_ => (P0_ k_ ∨ w.heap.size ≤ k_))) k_ ∧ some k_ ≠ (u5 : Value).ownBlock) rfl rfl ?aP (fun _ hk => hk) ?aF ?aO ?aB ?aS ?aL ?_; (case aP => exact (Kd.FK_slice_mk (Kd.R_reads' (Kd.R_mono (ok' := (fun k_ => ((fun k_ => (P0_ k_ ∨ w.heap.size ≤ k_))) k_ ∧ some k_ ≠ (u5 : Value).ownBlock)) (Kd.R_apart' (HO917.out) (Kd.N_typed HO_5.out) (by decide)) (fun k_ hk => ⟨(.inr (hk.1)), hk.2⟩))).2.1 (Kd.R_F (Kd.R_mono (ok' := (fun k_ => ((fun k_ => (P0_ k_ ∨ w.heap.size ≤ k_))) k_ ∧ some k_ ≠ (u5 : Value).ownBlock)) (Kd.R_apart' (HO917.out) (Kd.N_typed HO_5.out) (by decide)) (fun k_ hk => ⟨(.inr (hk.1)), hk.2⟩))))); (case aB => exact HB.out); (case aF => exact (fun k_ hk => (.inr (Nat.le_trans (below_size HB.out) hk)))); (case aO => exact (by exact Kd.N_mono HO_5.out (fun _ hk => hk.1))); (case aS => exact (below_size HB.out)); (case aL => have := LMc19.out; omega); intro v919 w24 ho hb hg hat; rw [← Ny918.out] at ho; replace HO_0 := A_ (Kd.V_afterv (ok := (fun k_ => (P0_ k_ ∨ w.heap.size ≤ k_) ∧ some k_ ≠ (.slice Ao25 y915.length co25 : Value).ownBlock)) (by exact Kd.V_mono HO_0.out (fun _ hk => ⟨⟨hk.1.1, hk.2⟩, hk.1.2⟩)) hg hat); replace HL898_0 := A_ (Kd.V_afterv (ok := (fun k_ => (P0_ k_ ∨ w.heap.size ≤ k_) ∧ some k_ ≠ (.slice Ao25 y915.length co25 : Value).ownBlock)) (by exact Kd.V_mono HL898_0.out (fun _ hk => ⟨⟨hk.1.1, hk.2⟩, hk.1.2⟩)) hg hat); replace HB := A_ (hb); have HO920 := A_ (ho); clear HO_5 HO917; clear ho hb hg hat; have p921 : 0 ≤ (x7_1 : Int) := od_ (by assumption); have q921 : x7_1 < (l0.length : Int) := od_ (by assumption); obtain ⟨ad921, A921_0, c921_0, e921, hx921_0, hl921_0, hi921_0⟩ := at_L2 (Kd.V_reads' HO_0.out).2.2 x7_1 p921 q921; obtain rfl : ad898 = ad921 := (by injection e921); obtain ⟨ce921, hce921, hMe921, hcc921⟩ := Kd.V_get HO_0.out [] x7_1 p921 (by exact q921); obtain ⟨ua921_0, uc921_0, rfl, ul921_0, ge921_0⟩ := Kd.FK_slice_open hMe921; have hv921_0 := hcc921 0 _ rfl; rw [Nat.add_zero, show ((Kd.slice 3 (Kd.int .i64))).sz = 1 from rfl, Nat.mul_one] at hv921_0; replace hv921_0 := Option.some.inj (hv921_0.symm.trans hx921_0); injection hv921_0 with hva_ hvn_ hvc_; rw [hva_] at ge921_0; rw [hvc_] at ul921_0; have HL921_0 := A_ (show Kd.V (Kd.int .i64) 3 _ w.heap.size _ _ (rd_L2 l0 x7_1) from Kd.V_mk ul921_0 ge921_0); clear hva_ hvn_ hvc_ ge921_0 ul921_0; clear hcc921 hce921; clear hi921_0 hl921_0; replace p921 := eq_true p921; replace q921 := eq_true q921) | ((with_reducible refine gate_builtin (b := .append) (xs := #[.tmp 36, .tmp 41]) rfl ?_); at_builtin; refine Kd.N_append (Kd.slice 3 (Kd.int .i64)) (w0 := w) w.heap.size rfl (.tmp 36) (.tmp 41) 47 24 (.slice none 0 0) 24 rfl Tryz.underlying47 info24 rfl (by decide) (by omega) v919 y918 (rd_L2 l0 x7_1) [.slice A921_0 (rd_L2 l0 x7_1).length c921_0] (fun k_ => (P0_ k_ ∨ w.heap.size ≤ k_)) (fun k_ => ((fun k_ => (P0_ k_ ∨ w.heap.size ≤ k_))) k_ ∧ some k_ ≠ (v919 : Value).ownBlock) rfl rfl ?aP (fun _ hk => hk) ?aF ?aO ?aB ?aS ?aL ?_; (case aP => first | exact (Kd.FK_slice_mk (Kd.V_reads' (Kd.V_mono (ok' := (fun k_ => ((fun k_ => (P0_ k_ ∨ w.heap.size ≤ k_))) k_ ∧ some k_ ≠ (v919 : Value).ownBlock)) (HL921_0.out) (fun k_ hk => ⟨hk.1.1, hk.2⟩))).2.1 (Kd.V_F (Kd.V_mono (ok' := (fun k_ => ((fun k_ => (P0_ k_ ∨ w.heap.size ≤ k_))) k_ ∧ some k_ ≠ (v919 : Value).ownBlock)) (HL921_0.out) (fun k_ hk => ⟨hk.1.1, hk.2⟩)))) | exact (Kd.FK_slice_mk (Kd.V_reads' (Kd.V_mono (ok' := (fun k_ => ((fun k_ => (P0_ k_ ∨ w.heap.size ≤ k_))) k_ ∧ some k_ ≠ (v919 : Value).ownBlock)) (HL921_0.out) (fun k_ hk => ⟨hk.1.1, hk.2⟩))).2.1 (Kd.V_F (Kd.V_mono (ok' := (fun k_ => ((fun k_ => (P0_ k_ ∨ w.heap.size ≤ k_))) k_ ∧ some k_ ≠ (v919 : Value).ownBlock)) (Kd.V_drewN HL921_0.out _) (fun k_ hk => ⟨hk.1.1, hk.2⟩))))); (case aB => exact HB.out); (case aF => exact (fun k_ hk => (.inr (Nat.le_trans (below_size HB.out) hk)))); (case aO => exact HO920.out); (case aS => exact (below_size HB.out)); (case aL => have := LMc20.out; omega); intro v923 w26 ho hb hg hat; rw [← Ny922.out] at ho; replace HO_0 := A_ (Kd.V_afterv (ok := (fun k_ => (P0_ k_ ∨ w.heap.size ≤ k_))) (by exact Kd.V_mono HO_0.out (fun _ hk => ⟨hk.1.1, hk.2⟩)) hg hat); replace HL898_0 := A_ (Kd.V_afterv (ok := (fun k_ => (P0_ k_ ∨ w.heap.size ≤ k_))) (by exact Kd.V_mono HL898_0.out (fun _ hk => ⟨hk.1.1, hk.2⟩)) hg hat); replace HL921_0 := A_ (Kd.V_afterv (ok := (fun k_ => (P0_ k_ ∨ w.heap.size ≤ k_))) (by exact Kd.V_mono HL921_0.out (fun _ hk => ⟨hk.1.1, hk.2⟩)) hg hat); replace HB := A_ (hb); have HO924 := A_ (ho); clear HO920; clear ho hb hg hat))
         go_roundg k1
         case measure => have := HK1.out; omega
         case rel => exact ⟨(y922), (true), (wrap64 (x7_1 + 1)), (by rfl), (by rfl), H', ⟨by have := HK1.out; omega⟩, ⟨HO_0.out⟩, ⟨HO924.out⟩, ⟨HB.out⟩⟩
        rw [if_neg c20] at H
        cases H
       rw [if_neg c19] at H
       cases H
      rw [if_neg c18] at H
      cases H
     rw [if_neg c14] at H; have c14b0 := decide_eq_false c14; clear c14
     by_cases c27 : x5_1.length < 5864062014805
     ·rw [if_pos c27] at H; have LMc27 := A_ c27; clear c27; obtain ⟨y926, hy926⟩ := ex_ ((x5_1 ++ [rd_L2 l0 x7_1]) : List (List Int)); replace H : (spec_l8Put.l0 k1 l0 l1 y926 x6_1 (wrap64 (x7_1 + 1))) = some r := by (rw [hy926]; with_reducible exact H)
      have Ny926 := A_ hy926; clear hy926
      have H' := A_ H
      clear H
      have p898 : 0 ≤ (x7_1 : Int) := od_ (by assumption)
      have q898 : x7_1 < (l0.length : Int) := od_ (by assumption)
      obtain ⟨ad898, A898_0, c898_0, e898, hx898_0, hl898_0, hi898_0⟩ := at_L2 (Kd.V_reads' HO_0.out).2.2 x7_1 p898 q898
      cases e898
      obtain ⟨ce898, hce898, hMe898, hcc898⟩ := Kd.V_get HO_0.out [] x7_1 p898 (by exact q898); obtain ⟨ua898_0, uc898_0, rfl, ul898_0, ge898_0⟩ := Kd.FK_slice_open hMe898; have hv898_0 := hcc898 0 _ rfl; rw [Nat.add_zero, show ((Kd.slice 3 (Kd.int .i64))).sz = 1 from rfl, Nat.mul_one] at hv898_0; replace hv898_0 := Option.some.inj (hv898_0.symm.trans hx898_0)
      injection hv898_0 with hva_ hvn_ hvc_
      rw [hva_] at ge898_0; rw [hvc_] at ul898_0; have HL898_0 := A_ (show Kd.V (Kd.int .i64) 3 _ w.heap.size _ _ (rd_L2 l0 x7_1) from Kd.V_mk ul898_0 ge898_0); clear hva_ hvn_ hvc_ ge898_0 ul898_0 hcc898 hce898; have HR898_0 := A_ hi898_0; have HC898_0 := A_ hl898_0; clear hi898_0 hl898_0; replace p898 := eq_true p898; replace q898 := eq_true q898
      go_wp2_with (first | ((with_reducible refine gc_ 71 rfl ?_); refine cD_ E71 21 rfl rfl rfl (spec_CompareWords.calls k1 _ _ l1 _ _ (rd_L2 l0 x7_1) t899 _ (Kd.C_below HR1.out HB.out) HC1.out (by repeat (first | exact (by repeat (first | (with_reducible exact HR898_0.out) | (with_reducible refine Kd.C_alloc ?_ _) | (with_reducible refine Kd.C_drewN ?_ _) | (with_reducible refine Kd.C_drew ?_) | exact HR898_0.out)) | (with_reducible refine Kd.C_alloc ?_ _) | (with_reducible refine Kd.C_drewN ?_ _) | (with_reducible refine Kd.C_drew ?_))) HC898_0.out A7.out) (by simp only [mA, mB, mC]; rfl) fun nd => ?_; have p925 : 0 ≤ (x7_1 : Int) := od_ (by assumption); have q925 : x7_1 < (l0.length : Int) := od_ (by assumption); obtain ⟨ad925, A925_0, c925_0, e925, hx925_0, hl925_0, hi925_0⟩ := at_L2 (Kd.V_reads' HO_0.out).2.2 x7_1 p925 q925; obtain rfl : ad898 = ad925 := (by injection e925); obtain ⟨ce925, hce925, hMe925, hcc925⟩ := Kd.V_get HO_0.out [] x7_1 p925 (by exact q925); obtain ⟨ua925_0, uc925_0, rfl, ul925_0, ge925_0⟩ := Kd.FK_slice_open hMe925; have hv925_0 := hcc925 0 _ rfl; rw [Nat.add_zero, show ((Kd.slice 3 (Kd.int .i64))).sz = 1 from rfl, Nat.mul_one] at hv925_0; replace hv925_0 := Option.some.inj (hv925_0.symm.trans hx925_0); injection hv925_0 with hva_ hvn_ hvc_; rw [hva_] at ge925_0; rw [hvc_] at ul925_0; have HL925_0 := A_ (show Kd.V (Kd.int .i64) 3 _ w.heap.size _ _ (rd_L2 l0 x7_1) from Kd.V_mk ul925_0 ge925_0); clear hva_ hvn_ hvc_ ge925_0 ul925_0; clear hcc925 hce925; have HR925_0 := A_ hi925_0; have HC925_0 := A_ hl925_0; clear hi925_0 hl925_0; replace p925 := eq_true p925; replace q925 := eq_true q925; have ea_ := Option.some.inj (hx898_0.symm.trans hx925_0); injection ea_ with ea_ en_ ec_; subst ea_; subst ec_; clear en_) | ((with_reducible refine gate_builtin (b := .append) (xs := #[.tmp 36, .tmp 41]) rfl ?_); at_builtin; refine Kd.N_append (Kd.slice 3 (Kd.int .i64)) (w0 := w) w.heap.size rfl (.tmp 36) (.tmp 41) 47 24 (.slice none 0 0) 24 rfl Tryz.underlying47 info24 rfl (by decide) (by omega) u5 x5_1 (rd_L2 l0 x7_1) [.slice A898_0 (rd_L2 l0 x7_1).length c898_0] (fun k_ => (P0_ k_ ∨ w.heap.size ≤ k_)) (fun k_ => ((fun k_ => (P0_ k_ ∨ w.heap.size ≤ k_))) k_ ∧ some k_ ≠ (u5 : Value).ownBlock) rfl rfl ?aP (fun _ hk => hk) ?aF ?aO ?aB ?aS ?aL ?_; (case aP => first | exact (Kd.FK_slice_mk (Kd.V_reads' (Kd.V_mono (ok' := (fun k_ => ((fun k_ => (P0_ k_ ∨ w.heap.size ≤ k_))) k_ ∧ some k_ ≠ (u5 : Value).ownBlock)) (HL925_0.out) (fun k_ hk => ⟨hk.1, hk.2⟩))).2.1 (Kd.V_F (Kd.V_mono (ok' := (fun k_ => ((fun k_ => (P0_ k_ ∨ w.heap.size ≤ k_))) k_ ∧ some k_ ≠ (u5 : Value).ownBlock)) (HL925_0.out) (fun k_ hk => ⟨hk.1, hk.2⟩)))) | exact (Kd.FK_slice_mk (Kd.V_reads' (Kd.V_mono (ok' := (fun k_ => ((fun k_ => (P0_ k_ ∨ w.heap.size ≤ k_))) k_ ∧ some k_ ≠ (u5 : Value).ownBlock)) (HL925_0.out) (fun k_ hk => ⟨hk.1, hk.2⟩))).2.1 (Kd.V_F (Kd.V_mono (ok' := (fun k_ => ((fun k_ => (P0_ k_ ∨ w.heap.size ≤ k_))) k_ ∧ some k_ ≠ (u5 : Value).ownBlock)) (Kd.V_drewN HL925_0.out _) (fun k_ hk => ⟨hk.1, hk.2⟩))))); (case aB => exact (by repeat (first | (with_reducible first | exact HB.out | apply below_alloc | apply pw_below_drewN | apply below_drew1) | exact HB.out))); (case aF => exact (fun k_ hk => (.inr (Nat.le_trans (below_size (by repeat (first | (with_reducible first | exact HB.out | apply below_alloc | apply pw_below_drewN | apply below_drew1) | exact HB.out))) hk)))); (case aO => exact (by (with_reducible repeat (first | apply Kd.N_alloc | apply Kd.N_drewN | apply Kd.N_drew)); exact HO_5.out)); (case aS => exact (below_size (by repeat (first | (with_reducible first | exact HB.out | apply below_alloc | apply pw_below_drewN | apply below_drew1) | exact HB.out)))); (case aL => have := LMc27.out; omega); intro v927 w28 ho hb hg hat; rw [← Ny926.out] at ho; replace HO_0 := A_ (Kd.V_afterv (ok := (fun k_ => (P0_ k_ ∨ w.heap.size ≤ k_))) (by (with_reducible repeat (first | apply Kd.V_alloc | apply Kd.V_drewN | apply Kd.V_drew)); exact HO_0.out) hg hat); replace HL898_0 := A_ (Kd.V_afterv (ok := (fun k_ => (P0_ k_ ∨ w.heap.size ≤ k_))) (by (with_reducible repeat (first | apply Kd.V_alloc | apply Kd.V_drewN | apply Kd.V_drew)); exact HL898_0.out) hg hat); replace HL925_0 := A_ (Kd.V_afterv (ok := (fun k_ => (P0_ k_ ∨ w.heap.size ≤ k_))) (by (with_reducible repeat (first | apply Kd.V_alloc | apply Kd.V_drewN | apply Kd.V_drew)); exact HL925_0.out) hg hat); replace HB := A_ (hb); have HO928 := A_ (ho); clear HO_5; clear ho hb hg hat))
      go_roundg k1
      case measure => have := HK1.out; omega
      case rel => exact ⟨(y926), (x6_1), (wrap64 (x7_1 + 1)), (by rfl), (by rfl), H', ⟨by have := HK1.out; omega⟩, ⟨HO_0.out⟩, ⟨HO928.out⟩, ⟨HB.out⟩⟩
     rw [if_neg c27] at H
     cases H
    rw [if_neg c6] at H
    cases H
   rw [if_neg c5] at H; have c5b0 := decide_eq_false c5; clear c5
   by_cases c29 : x6_1 = true
   ·subst c29; rw [if_pos rfl] at H; obtain rfl := Option.some.inj H
    go_wp2
    go_ret
    exact ⟨_, by rfl, HO_5.out, HB.out⟩
   replace c29 := Bool.eq_false_iff.mpr c29; subst c29; rw [if_neg nf_] at H; obtain ⟨y889, hy889⟩ := ex_ ((([] : List Int)) : List Int); replace H : (if y889.length + l1.length < 17592186044416 then (if x5_1.length < 5864062014805 then (some (x5_1 ++ [(y889 ++ l1)])) else (none)) else (none)) = some r := by (have H2_ := (Option.bind_some _ _).symm.trans H; rw [hy889]; with_reducible exact H2_)
   have Ny889 := A_ hy889; clear hy889
   by_cases c30 : y889.length + l1.length < 17592186044416
   ·rw [if_pos c30] at H; have LMc30 := A_ c30; clear c30; obtain ⟨y892, hy892⟩ := ex_ ((y889 ++ l1) : List Int); replace H : (if x5_1.length < 5864062014805 then (some (x5_1 ++ [y892])) else (none)) = some r := by (rw [hy892]; with_reducible exact H)
    have Ny892 := A_ hy892; clear hy892
    by_cases c31 : x5_1.length < 5864062014805
    ·rw [if_pos c31] at H; have LMc31 := A_ c31; clear c31; obtain ⟨y895, hy895⟩ := ex_ ((x5_1 ++ [y892]) : List (List Int)); replace H : (some y895) = some r := by (rw [hy895]; with_reducible exact H)
     have Ny895 := A_ hy895; clear hy895; obtain rfl := Option.some.inj H
     go_wp2_with (first | ((with_reducible refine gd_ 46 rfl ?_); refine RL_ 46 3 [] [] rfl rfl (by go_simp; done) rfl rfl ?_; rintro v890 w32 ho33 hb - -; (rw [← Ny889.out] at ho33); replace HO_0 := A_ (Kd.V_elder' HO_0.out (Kd.R_base ho33) hb); replace HO_5 := A_ (Kd.N_elder' HO_5.out (Kd.R_base ho33) hb); have HO891 := A_ (Kd.R_lower (Kd.R_newM (M := fun k_ => (w.heap.size ≤ k_)) ho33 (below_size HB.out) (fun k_ h_ => h_)) (below_size HB.out)); replace HB := bs_ HB hb; clear hb ho33) | ((with_reducible refine gate_builtin (b := .append) (xs := #[.tmp 46, .tmp 47]) rfl ?_); at_builtin; refine Kd.R_append_rows (Kd.int .i64) (w0 := w) w.heap.size rfl (.tmp 46) (.tmp 47) 24 3 (.int .i64 0) 8 rfl Tryz.underlying24 info3 rfl (by decide) (by omega) v890 y889 l1 _ _ _ (fun k_ => (w.heap.size ≤ k_)) (fun _ => False) rfl rfl ?aO ?aR (fun _ _ h => h) (fun _ h => h.elim) ?aF ?aB ?aS ?aL ?_; (case aR => exact (Kd.C_below HR1.out HB.out)); (case aB => exact HB.out); (case aF => exact (fun k_ hk => (Nat.le_trans (below_size HB.out) hk))); (case aO => exact (by exact Kd.R_mono HO891.out (fun _ hk => hk.1))); (case aS => exact (below_size HB.out)); (case aL => have := LMc30.out; omega); intro v893 w34 ho hb hg hat; rw [← Ny892.out] at ho; replace HO_0 := A_ (Kd.V_afterv (ok := (fun k_ => (P0_ k_ ∨ w.heap.size ≤ k_) ∧ some k_ ≠ (u5 : Value).ownBlock)) HO_0.out hg hat); replace HO_5 := A_ (Kd.N_afterv (ok := (fun k_ => (P0_ k_ ∨ w.heap.size ≤ k_))) HO_5.out hg hat); replace HB := A_ (hb); have HO894 := A_ (ho); clear HO891; clear ho hb hg hat; obtain ⟨Ao36, co36, eo36⟩ := Kd.R_slice HO894.out; subst eo36) | ((with_reducible refine gate_builtin (b := .append) (xs := #[.tmp 45, .tmp 49]) rfl ?_); at_builtin; refine Kd.N_append (Kd.slice 3 (Kd.int .i64)) (w0 := w) w.heap.size rfl (.tmp 45) (.tmp 49) 47 24 (.slice none 0 0) 24 rfl Tryz.underlying47 info24 rfl (by decide) (by omega) u5 x5_1 y892 [.slice Ao36 y892.length co36] (fun k_ => (P0_ k_ ∨ w.heap.size ≤ k_)) (fun k_ => ((fun k_ => (P0_ k_ ∨ w.heap.size ≤ k_))) k_ ∧ some k_ ≠ (u5 : Value).ownBlock) rfl rfl ?aP (fun _ hk => hk) ?aF ?aO ?aB ?aS ?aL ?_; (case aP => exact (Kd.FK_slice_mk (Kd.R_reads' (Kd.R_mono (ok' := (fun k_ => ((fun k_ => (P0_ k_ ∨ w.heap.size ≤ k_))) k_ ∧ some k_ ≠ (u5 : Value).ownBlock)) (Kd.R_apart' (HO894.out) (Kd.N_typed HO_5.out) (by decide)) (fun k_ hk => ⟨(.inr (hk.1)), hk.2⟩))).2.1 (Kd.R_F (Kd.R_mono (ok' := (fun k_ => ((fun k_ => (P0_ k_ ∨ w.heap.size ≤ k_))) k_ ∧ some k_ ≠ (u5 : Value).ownBlock)) (Kd.R_apart' (HO894.out) (Kd.N_typed HO_5.out) (by decide)) (fun k_ hk => ⟨(.inr (hk.1)), hk.2⟩))))); (case aB => exact HB.out); (case aF => exact (fun k_ hk => (.inr (Nat.le_trans (below_size HB.out) hk)))); (case aO => exact (by exact Kd.N_mono HO_5.out (fun _ hk => hk.1))); (case aS => exact (below_size HB.out)); (case aL => have := LMc31.out; omega); intro v896 w35 ho hb hg hat; rw [← Ny895.out] at ho; replace HO_0 := A_ (Kd.V_afterv (ok := (fun k_ => (P0_ k_ ∨ w.heap.size ≤ k_) ∧ some k_ ≠ (.slice Ao36 y892.length co36 : Value).ownBlock)) (by exact Kd.V_mono HO_0.out (fun _ hk => ⟨⟨hk.1.1, hk.2⟩, hk.1.2⟩)) hg hat); replace HB := A_ (hb); have HO897 := A_ (ho); clear HO_5 HO894; clear ho hb hg hat))
     go_ret
     exact ⟨_, by rfl, HO897.out, HB.out⟩
    rw [if_neg c31] at H
    cases H
   rw [if_neg c30] at H
   cases H

mutual
def spec_FactorsOf.j0 : Nat → List Int → Int → List (List Int) → Bool → Option ((List (List Int)) × Bool)
 | 0, _, _, _, _ => none
 | k + 1, x0, x1, x6, x21 => if x21 = true then (some (x6, false)) else (spec_FactorsOf.l0 k x0 x1 x6 0)
def spec_FactorsOf.l0 : Nat → List Int → Int → List (List Int) → Int → Option ((List (List Int)) × Bool)
 | 0, _, _, _, _ => none
 | k + 1, x0, x1, x6, x7 => if (wrap64 (x7 + x1)) ≤ (x0.length : Int) then (if 0 ≤ x7 then (if x7 ≤ (wrap64 (x7 + x1)) then ((spec_l8Put.f k x6 ((x0.take ((wrap64 (x7 + x1)) : Int).toNat).drop (x7 : Int).toNat)).bind fun t935 => (spec_FactorsOf.l0 k x0 x1 t935 (wrap64 (x7 + 1)))) else (none)) else (none)) else (some (x6, true))
end
def spec_FactorsOf.f (k : Nat) (l0 : List Int) (a1 : Int) : Option ((List (List Int)) × Bool) := (some (([] : List (List Int)) : List (List Int))).bind fun y929 => ((spec_IsWord.f k l0 16).bind fun t932 => (if t932 = true then (if (l0.length : Int) > 128 then (spec_FactorsOf.j0 k l0 a1 y929 true) else ((spec_l1In.f a1 0 40).bind fun t933 => (spec_FactorsOf.j0 k l0 a1 y929 (!t933)))) else (spec_FactorsOf.j0 k l0 a1 y929 true)))
theorem spec_FactorsOf.calls (k : Nat) (A0 : Option Addr) (c0 : Nat) (l0 : List Int) (a1 : Int) (r1 : List (List Int)) (r2 : Bool) (w : World) (hr0 : Kd.C (Kd.int .i64) w A0 l0.length l0) (hc0 : l0.length ≤ c0) (h : spec_FactorsOf.f k l0 a1 = some (r1, r2)) :
  Calls Tryz.prog 52 #[.slice A0 l0.length c0, .int .i64 a1] w fun e w' => ∃ v0_ : Value, e = .returned (.tuple #[v0_, .bool r2]) ∧ Kd.N (Kd.slice 3 (Kd.int .i64)) 24 w' w.heap.size (fun k_ => (w.heap.size ≤ k_)) v0_ r1 ∧ Below w.heap.size w w' := by
 have HR0 := A_ hr0; have HC0 := A_ hc0; clear hr0 hc0; have HB := A_ (Below.refl w.heap.size w); unfold spec_FactorsOf.f at h; have H := h; clear h; obtain ⟨y929, hy929⟩ := ex_ ((([] : List (List Int))) : List (List Int)); replace H : ((spec_IsWord.f k l0 16).bind fun t932 => (if t932 = true then (if (l0.length : Int) > 128 then (spec_FactorsOf.j0 k l0 a1 y929 true) else ((spec_l1In.f a1 0 40).bind fun t933 => (spec_FactorsOf.j0 k l0 a1 y929 (!t933)))) else (spec_FactorsOf.j0 k l0 a1 y929 true))) = some (r1, r2) := by (have H2_ := (Option.bind_some _ _).symm.trans H; rw [hy929]; with_reducible exact H2_)
 have Ny929 := A_ hy929; clear hy929; have HC3 := A_ H; clear H; go_enter Tryz.func52, Tryz.ntmps52
 go_upto_region 2 with (first | ((with_reducible refine gate_dst (N := 8) rfl ?_); (try (refine gate_guard (by rfl) ?_; dsimp only)); refine Kd.N_lit (Kd.slice 3 (Kd.int .i64)) _ 24 ?hg (N' := 8) ?hd (xs := ([] : List (List Int))) (inner := []) (ok := (fun k_ => (w.heap.size ≤ k_))) (okp := (fun k_ => (w.heap.size ≤ k_))) ?hr ?hp (fun _ hk => hk) ((show ∀ k_, w.heap.size ≤ k_ → (fun k_ => (w.heap.size ≤ k_)) k_ from fun k_ hk => (Nat.le_trans (below_size HB.out) hk)) _ (Nat.le_refl _)) (Below.refl _ _) (Nat.le_refl _) (by simp) ?_; (case hd | hg => rfl); (case hr => go_simp; done); (case hp => exact (Reps.none _ _)); rintro v930 w4 ho5 hb - -; (rw [← Ny929.out] at ho5); have HO931 := A_ (Kd.N_lower ho5 (below_size HB.out)); replace HB := bs_ HB hb; clear hb ho5))
 (try simp only [Act.put, mD, mE, mF])
 go_cut [21] (fun v21 wc => ∃ (kq : Nat) (x21_2 : Bool), v21 = .bool x21_2 ∧ Aside0 (spec_FactorsOf.j0 kq l0 a1 y929 x21_2 = some (r1, r2)) ∧ Aside0 (kq ≤ k) ∧ Aside0 (Kd.N (Kd.slice 3 (Kd.int .i64)) 24 wc w.heap.size (fun k_ => (w.heap.size ≤ k_)) v930 y929) ∧ Aside0 (Below w.heap.size w wc))
 case first =>
  have H := HC3.out; clear HC3; replace H := bA_ H; obtain ⟨t932, A6, H⟩ := H
  by_cases c7 : t932 = true
  ·subst c7; rw [if_pos rfl] at H
   by_cases c8 : (l0.length : Int) > 128
   ·rw [if_pos c8] at H
    have c8b0 : decide (128 < (l0.length : Int)) = true := decide_eq_true c8
    clear c8
    (skip)
    have H' := A_ H
    clear H
    go_wp2_with (first | ((with_reducible refine gc_ 31 rfl ?_); refine cD_ E31 10 rfl rfl rfl (spec_IsWord.calls k _ _ l0 16 true _ (Kd.C_below HR0.out HB.out) HC0.out A6.out) (by simp only [mA, mB, mC]; rfl) fun nd => ?_))
    go_meet
    case rel => exact ⟨_, (true), (by rfl), H', ⟨by omega⟩, ⟨by (with_reducible repeat (first | apply Kd.N_alloc | apply Kd.N_drewN | apply Kd.N_drew)); exact HO931.out⟩, ⟨by repeat (first | (with_reducible first | exact HB.out | apply below_alloc | apply pw_below_drewN | apply below_drew1) | exact HB.out)⟩⟩
   rw [if_neg c8] at H
   have c8b0 : decide (128 < (l0.length : Int)) = false := decide_eq_false c8
   clear c8
   (skip)
   replace H := bA_ H; obtain ⟨t933, A9, H⟩ := H
   have H' := A_ H
   clear H
   go_wp2_with (first | ((with_reducible refine gc_ 31 rfl ?_); refine cD_ E31 10 rfl rfl rfl (spec_IsWord.calls k _ _ l0 16 true _ (Kd.C_below HR0.out HB.out) HC0.out A6.out) (by simp only [mA, mB, mC]; rfl) fun nd => ?_) | (go_at_call 36; (with_reducible refine (spec_l1In.calls a1 0 40 t933 _ A9.out).mono ?_); rintro e w' ⟨rfl, ⟨nd, rfl⟩⟩))
   go_meet
   case rel => exact ⟨_, (!t933), (by rfl), H', ⟨by omega⟩, ⟨by (with_reducible repeat (first | apply Kd.N_alloc | apply Kd.N_drewN | apply Kd.N_drew)); exact HO931.out⟩, ⟨by repeat (first | (with_reducible first | exact HB.out | apply below_alloc | apply pw_below_drewN | apply below_drew1) | exact HB.out)⟩⟩
  replace c7 := Bool.eq_false_iff.mpr c7; subst c7; rw [if_neg nf_] at H
  have H' := A_ H
  clear H
  go_wp2_with (first | ((with_reducible refine gc_ 31 rfl ?_); refine cD_ E31 10 rfl rfl rfl (spec_IsWord.calls k _ _ l0 16 false _ (Kd.C_below HR0.out HB.out) HC0.out A6.out) (by simp only [mA, mB, mC]; rfl) fun nd => ?_))
  go_meet
  case rel => exact ⟨_, (true), (by rfl), H', ⟨by omega⟩, ⟨by (with_reducible repeat (first | apply Kd.N_alloc | apply Kd.N_drewN | apply Kd.N_drew)); exact HO931.out⟩, ⟨by repeat (first | (with_reducible first | exact HB.out | apply below_alloc | apply pw_below_drewN | apply below_drew1) | exact HB.out)⟩⟩
 case rest =>
  clear HC3; obtain ⟨kq, x21_2, rfl, HA, HJ2, HO_6, HB⟩ := hcut
  cases kq with
  | zero => exact absurd HA.out (by simp [spec_FactorsOf.j0])
  | succ kj2 =>
   have H := HA.out; clear HA; simp only [spec_FactorsOf.j0] at H
   by_cases c10 : x21_2 = true
   ·subst c10; rw [if_pos rfl] at H; simp only [Option.some.injEq, Prod.mk.injEq] at H; obtain ⟨rfl, rfl⟩ := H
    go_wp2
    go_ret2
    exact ⟨_, by rfl, HO_6.out, HB.out⟩
   replace c10 := Bool.eq_false_iff.mpr c10; subst c10; rw [if_neg nf_] at H
   have H' := A_ H
   clear H
   go_wp2
   go_loopg [6, 7] kj2 (fun kq v6 v7 w' => ∃ (x6_2 : List (List Int)) (x7_2 : Int), v7 = .int .i64 x7_2 ∧ Aside0 (spec_FactorsOf.l0 kq l0 a1 x6_2 x7_2 = some (r1, r2)) ∧ Aside0 (kq ≤ kj2) ∧ Aside0 (Kd.N (Kd.slice 3 (Kd.int .i64)) 24 w' w.heap.size (fun k_ => (w.heap.size ≤ k_)) v6 x6_2) ∧ Aside0 (Below w.heap.size w w'))
   case atStart => exact ⟨(y929), (0), (by rfl), H', ⟨Nat.le_refl _⟩, ⟨HO_6.out⟩, ⟨HB.out⟩⟩
   case round =>
    clear H'; obtain ⟨x6_2, x7_2, rfl, HA, HK2, HO_6, HB⟩ := hrel
    cases gk with
    | zero => exact absurd HA.out (by simp [spec_FactorsOf.l0])
    | succ k2 =>
     have H := HA.out; clear HA; simp only [spec_FactorsOf.l0] at H
     by_cases c11 : (wrap64 (x7_2 + a1)) ≤ (l0.length : Int)
     ·rw [if_pos c11] at H; have c11b0 := decide_eq_true c11; clear c11
      by_cases c12 : 0 ≤ x7_2
      ·rw [if_pos c12] at H; have c12b0 := eq_true c12; have c12b1 := decide_eq_true c12; clear c12
       by_cases c13 : x7_2 ≤ (wrap64 (x7_2 + a1))
       ·rw [if_pos c13] at H; have c14b0 := eq_true (od_ (by assumption) : (wrap64 (x7_2 + a1)) ≤ (l0.length : Int)); replace H := bA_ H; obtain ⟨t935, A15, H⟩ := H
        have H' := A_ H
        clear H; obtain ⟨i016, hi016, _, hsz16, _⟩ := info_parts info3; obtain ⟨A16, hcut16, hA16, hC16⟩ := print_mid_of (P := Tryz.prog) (Value.int .i64) 0 24 3 .i64 .i64 Tryz.underlying24 hi016 hsz16 A0 c0 l0 x7_2 (wrap64 (x7_2 + a1)) (od_ (by assumption)) (by first | omega | exact od_ (by first | (with_reducible assumption) | assumption)) (od_ (by assumption)) HC0.out; have HR934 := A_ (Kd.C_of_reads (h1 := fun _ => rfl) (hA16 _ (Kd.reads_of_C HR0.out))); have HC934 := A_ hC16; clear hA16 hC16 hi016 hsz16; obtain ⟨Ao17, co17, eo17⟩ := Kd.N_slice HO_6.out; subst eo17
        go_wp2_with (first | ((with_reducible refine gc_ 62 rfl ?_); refine cL_ E62 38 rfl rfl rfl (spec_l8Put.calls k2 (fun k_ => (w.heap.size ≤ k_)) _ _ x6_2 _ _ ((l0.take ((wrap64 (x7_2 + a1)) : Int).toNat).drop (x7_2 : Int).toNat) t935 _ (Kd.N_V (HO_6.out)) (Kd.C_below HR934.out HB.out) HC934.out A15.out) (by (try simp only [mA, mB, mC]); first | done | (rw [show ((l0.take ((wrap64 (x7_2 + a1)) : Int).toNat).drop (x7_2 : Int).toNat).length = ((wrap64 (x7_2 + a1)).toNat - x7_2.toNat) from (by rw [List.length_drop, List.length_take]; have h_ : ((wrap64 (x7_2 + a1)) : Int) ≤ (l0.length : Int) := od_ (by assumption); omega)] <;> rfl) | rfl | (simp only [List.length_drop, List.length_take]; rfl)) ?_; rintro e w18 ⟨v936, rfl, ho0, hb⟩; refine ⟨_, rfl, ?_⟩; replace HO_6 := A_ (Kd.N_elder' HO_6.out (Kd.N_base ho0) hb); have HO937 := A_ (Kd.N_lower (Kd.N_mono (ok' := fun k_ => (w.heap.size ≤ k_)) ho0 (fun k_ hk_ => Or.elim hk_ (fun hs_ => hs_) (fun hn_ => (Nat.le_trans (below_size HB.out) hn_)))) (below_size HB.out)); replace HB := bs_ HB hb; clear hb; (try clear ho0)))
        go_roundg k2
        case measure => have := HJ2.out; have := HK2.out; omega
        case rel => exact ⟨(t935), (wrap64 (x7_2 + 1)), (by rfl), H', ⟨by have := HJ2.out; have := HK2.out; omega⟩, ⟨HO937.out⟩, ⟨HB.out⟩⟩
       rw [if_neg c13] at H
       cases H
      rw [if_neg c12] at H
      cases H
     rw [if_neg c11] at H; have c11b0 := decide_eq_false c11; clear c11; simp only [Option.some.injEq, Prod.mk.injEq] at H; obtain ⟨rfl, rfl⟩ := H
     go_wp2
     go_ret2
     exact ⟨_, by rfl, HO_6.out, HB.out⟩
def spec_CountFactors.f (k : Nat) (l0 : List Int) (a1 : Int) : Option (Int) := (spec_FactorsOf.f k l0 a1).bind fun bt938 => (if bt938.2 = true then (some (bt938.1.length : Int)) else (some (-1)))
theorem spec_CountFactors.calls (k : Nat) (A0 : Option Addr) (c0 : Nat) (l0 : List Int) (a1 : Int) (r : Int) (w : World) (hr0 : Kd.C (Kd.int .i64) w A0 l0.length l0) (hc0 : l0.length ≤ c0) (h : spec_CountFactors.f k l0 a1 = some r) :
  Calls Tryz.prog 41 #[.slice A0 l0.length c0, .int .i64 a1] w fun e w' => e = .returned (.int .i64 r) ∧ Below w.heap.size w w' := by
 have HR0 := A_ hr0; have HC0 := A_ hc0; clear hr0 hc0; have HB := A_ (Below.refl w.heap.size w); unfold spec_CountFactors.f at h; have H := h; clear h; replace H := bA_ H; obtain ⟨⟨t938, t941⟩, A3, H⟩ := H; dsimp only at H
 by_cases c4 : t941 = true
 ·subst c4; rw [if_pos rfl] at H; obtain rfl := Option.some.inj H; go_enter Tryz.func41, Tryz.ntmps41
  go_wp2_with (first | ((with_reducible refine gc_ 52 rfl ?_); refine cL_ E52 10 rfl rfl rfl (spec_FactorsOf.calls k _ _ l0 a1 t938 true _ (by repeat (first | exact HR0.out | (with_reducible refine Kd.C_alloc ?_ _) | (with_reducible refine Kd.C_drewN ?_ _) | (with_reducible refine Kd.C_drew ?_))) HC0.out A3.out) (by simp only [mA, mB, mC]; rfl) ?_; rintro e w5 ⟨v939, rfl, ho0, hb⟩; refine ⟨_, rfl, ?_⟩; have HO940 := A_ (Kd.N_lower (Kd.N_mono (ok' := fun k_ => True) ho0 (fun k_ hk_ => trivial)) (below_size HB.out)); replace HB := bs_ HB hb; clear hb ho0; obtain ⟨Ao6, co6, eo6⟩ := Kd.N_slice HO940.out; subst eo6))
  go_ret
  exact ⟨by rfl, HB.out⟩
 replace c4 := Bool.eq_false_iff.mpr c4; subst c4; rw [if_neg nf_] at H; obtain rfl := Option.some.inj H; go_enter Tryz.func41, Tryz.ntmps41
 go_wp2_with (first | ((with_reducible refine gc_ 52 rfl ?_); refine cL_ E52 10 rfl rfl rfl (spec_FactorsOf.calls k _ _ l0 a1 t938 false _ (by repeat (first | exact HR0.out | (with_reducible refine Kd.C_alloc ?_ _) | (with_reducible refine Kd.C_drewN ?_ _) | (with_reducible refine Kd.C_drew ?_))) HC0.out A3.out) (by simp only [mA, mB, mC]; rfl) ?_; rintro e w7 ⟨v939, rfl, ho0, hb⟩; refine ⟨_, rfl, ?_⟩; replace HB := bs_ HB hb; clear hb; (try clear ho0)))
 go_ret
 exact ⟨by rfl, HB.out⟩

mutual
def spec_IsSturmianPrefix.j0 : Nat → List Int → Int → Bool → Option (Bool)
 | 0, _, _, _ => none
 | k + 1, x0, x1, x18 => if x18 = true then (some false) else (spec_IsSturmianPrefix.l0 k x0 x1 0)
def spec_IsSturmianPrefix.l0 : Nat → List Int → Int → Int → Option (Bool)
 | 0, _, _, _ => none
 | k + 1, x0, x1, x5 => if x5 ≤ x1 then ((spec_CountFactors.f k x0 x5).bind fun t944 => (if t944 = (wrap64 (x5 + 1)) then (spec_IsSturmianPrefix.l0 k x0 x1 (wrap64 (x5 + 1))) else (some false))) else (some true)
end
def spec_IsSturmianPrefix.f (k : Nat) (l0 : List Int) (a1 : Int) : Option (Bool) := (spec_IsWord.f k l0 2).bind fun t942 => (if t942 = true then ((spec_l1In.f a1 0 20).bind fun t943 => (if t943 = true then (spec_IsSturmianPrefix.j0 k l0 a1 (decide ((l0.length : Int) > 128))) else (spec_IsSturmianPrefix.j0 k l0 a1 true))) else (spec_IsSturmianPrefix.j0 k l0 a1 true))
theorem spec_IsSturmianPrefix.calls (k : Nat) (A0 : Option Addr) (c0 : Nat) (l0 : List Int) (a1 : Int) (r : Bool) (w : World) (hr0 : Kd.C (Kd.int .i64) w A0 l0.length l0) (hc0 : l0.length ≤ c0) (h : spec_IsSturmianPrefix.f k l0 a1 = some r) :
  Calls Tryz.prog 23 #[.slice A0 l0.length c0, .int .i64 a1] w fun e w' => e = .returned (.bool r) ∧ Below w.heap.size w w' := by
 have HR0 := A_ hr0; have HC0 := A_ hc0; clear hr0 hc0; have HB := A_ (Below.refl w.heap.size w); unfold spec_IsSturmianPrefix.f at h; have H := h; clear h; have HC3 := A_ H; clear H; go_enter Tryz.func23, Tryz.ntmps23
 go_upto_region 1 with (fail)
 go_cut [18] (fun v18 wc => ∃ (kq : Nat) (x18_2 : Bool), v18 = .bool x18_2 ∧ Aside0 (spec_IsSturmianPrefix.j0 kq l0 a1 x18_2 = some r) ∧ Aside0 (kq ≤ k) ∧ Aside0 (Below w.heap.size w wc))
 case first =>
  have H := HC3.out; clear HC3; replace H := bA_ H; obtain ⟨t942, A4, H⟩ := H
  by_cases c5 : t942 = true
  ·subst c5; rw [if_pos rfl] at H; replace H := bA_ H; obtain ⟨t943, A6, H⟩ := H
   by_cases c7 : t943 = true
   ·subst c7; rw [if_pos rfl] at H
    have H' := A_ H
    clear H
    go_wp2_with (first | ((with_reducible refine gc_ 31 rfl ?_); refine cD_ E31 7 rfl rfl rfl (spec_IsWord.calls k _ _ l0 2 true _ (Kd.C_below HR0.out HB.out) HC0.out A4.out) (by simp only [mA, mB, mC]; rfl) fun nd => ?_) | (go_at_call 36; (with_reducible refine (spec_l1In.calls a1 0 20 true _ A6.out).mono ?_); rintro e w' ⟨rfl, ⟨nd, rfl⟩⟩))
    go_meet
    case rel => exact ⟨_, (decide ((l0.length : Int) > 128)), (by rfl), H', ⟨by omega⟩, ⟨by repeat (first | (with_reducible first | exact HB.out | apply below_alloc | apply pw_below_drewN | apply below_drew1) | exact HB.out)⟩⟩
   replace c7 := Bool.eq_false_iff.mpr c7; subst c7; rw [if_neg nf_] at H
   have H' := A_ H
   clear H
   go_wp2_with (first | ((with_reducible refine gc_ 31 rfl ?_); refine cD_ E31 7 rfl rfl rfl (spec_IsWord.calls k _ _ l0 2 true _ (Kd.C_below HR0.out HB.out) HC0.out A4.out) (by simp only [mA, mB, mC]; rfl) fun nd => ?_) | (go_at_call 36; (with_reducible refine (spec_l1In.calls a1 0 20 false _ A6.out).mono ?_); rintro e w' ⟨rfl, ⟨nd, rfl⟩⟩))
   go_meet
   case rel => exact ⟨_, (true), (by rfl), H', ⟨by omega⟩, ⟨by repeat (first | (with_reducible first | exact HB.out | apply below_alloc | apply pw_below_drewN | apply below_drew1) | exact HB.out)⟩⟩
  replace c5 := Bool.eq_false_iff.mpr c5; subst c5; rw [if_neg nf_] at H
  have H' := A_ H
  clear H
  go_wp2_with (first | ((with_reducible refine gc_ 31 rfl ?_); refine cD_ E31 7 rfl rfl rfl (spec_IsWord.calls k _ _ l0 2 false _ (Kd.C_below HR0.out HB.out) HC0.out A4.out) (by simp only [mA, mB, mC]; rfl) fun nd => ?_))
  go_meet
  case rel => exact ⟨_, (true), (by rfl), H', ⟨by omega⟩, ⟨by repeat (first | (with_reducible first | exact HB.out | apply below_alloc | apply pw_below_drewN | apply below_drew1) | exact HB.out)⟩⟩
 case rest =>
  clear HC3; obtain ⟨kq, x18_2, rfl, HA, HJ2, HB⟩ := hcut
  cases kq with
  | zero => exact absurd HA.out (by simp [spec_IsSturmianPrefix.j0])
  | succ kj2 =>
   have H := HA.out; clear HA; simp only [spec_IsSturmianPrefix.j0] at H
   by_cases c8 : x18_2 = true
   ·subst c8; rw [if_pos rfl] at H; obtain rfl := Option.some.inj H
    go_wp2
    go_ret
    exact ⟨by rfl, HB.out⟩
   replace c8 := Bool.eq_false_iff.mpr c8; subst c8; rw [if_neg nf_] at H
   have H' := A_ H
   clear H
   go_wp2
   go_loopg [5] kj2 (fun kq v5 w' => ∃ (x5_2 : Int), v5 = .int .i64 x5_2 ∧ Aside0 (spec_IsSturmianPrefix.l0 kq l0 a1 x5_2 = some r) ∧ Aside0 (kq ≤ kj2) ∧ Aside0 (Below w.heap.size w w'))
   case atStart => exact ⟨(0), (by rfl), H', ⟨Nat.le_refl _⟩, ⟨HB.out⟩⟩
   case round =>
    clear H'; obtain ⟨x5_2, rfl, HA, HK2, HB⟩ := hrel
    cases gk with
    | zero => exact absurd HA.out (by simp [spec_IsSturmianPrefix.l0])
    | succ k2 =>
     have H := HA.out; clear HA; simp only [spec_IsSturmianPrefix.l0] at H
     by_cases c9 : x5_2 ≤ a1
     ·rw [if_pos c9] at H; have c9b0 := decide_eq_true c9; clear c9; replace H := bA_ H; obtain ⟨t944, A10, H⟩ := H
      by_cases c11 : t944 = (wrap64 (x5_2 + 1))
      ·rw [if_pos c11] at H
       have c11b1 : (t944 != (wrap64 (x5_2 + 1))) = false := bne_eq_false_iff_eq.mpr c11
       clear c11
       have H' := A_ H
       clear H
       go_wp2_with (first | ((with_reducible refine gc_ 41 rfl ?_); refine cL_ E41 26 rfl rfl rfl (spec_CountFactors.calls k2 _ _ l0 x5_2 t944 _ (Kd.C_below HR0.out HB.out) HC0.out A10.out) (by simp only [mA, mB, mC]; rfl) ?_; rintro e w12 ⟨rfl, hb⟩; refine ⟨_, rfl, ?_⟩; replace HB := bs_ HB hb; clear hb; (try clear hi)))
       go_roundg k2
       case measure => have := HJ2.out; have := HK2.out; omega
       case rel => exact ⟨(wrap64 (x5_2 + 1)), (by rfl), H', ⟨by have := HJ2.out; have := HK2.out; omega⟩, ⟨HB.out⟩⟩
      rw [if_neg c11] at H
      have c11b1 : (t944 != (wrap64 (x5_2 + 1))) = true := bne_iff_ne.mpr c11
      obtain rfl := Option.some.inj H
      go_wp2_with (first | ((with_reducible refine gc_ 41 rfl ?_); refine cL_ E41 26 rfl rfl rfl (spec_CountFactors.calls k2 _ _ l0 x5_2 t944 _ (Kd.C_below HR0.out HB.out) HC0.out A10.out) (by simp only [mA, mB, mC]; rfl) ?_; rintro e w13 ⟨rfl, hb⟩; refine ⟨_, rfl, ?_⟩; replace HB := bs_ HB hb; clear hb; (try clear hi)))
      go_ret
      exact ⟨by rfl, HB.out⟩
     rw [if_neg c9] at H; have c9b0 := decide_eq_false c9; clear c9; obtain rfl := Option.some.inj H
     go_wp2
     go_ret
     exact ⟨by rfl, HB.out⟩

def spec_ReverseDigits.l0 : Nat → List Int → List Int → Int → Option (List Int)
 | 0, _, _, _ => none
 | k + 1, x0, x3, x4 => if x4 ≥ 0 then (if 0 ≤ x4 then (if x4 < (x0.length : Int) then (if x3.length < 17592186044416 then (spec_ReverseDigits.l0 k x0 (x3 ++ [rd x0 x4]) (wrap64 (x4 - 1))) else (none)) else (none)) else (none)) else (some x3)
def spec_ReverseDigits.f (k : Nat) (l0 : List Int) : Option (List Int) := spec_ReverseDigits.l0 k l0 (([] : List Int)) (wrap64 ((l0.length : Int) - 1))
theorem spec_ReverseDigits.calls (k : Nat) (A0 : Option Addr) (c0 : Nat) (l0 : List Int) (r : List Int) (w : World) (hr0 : Kd.C (Kd.int .i64) w A0 l0.length l0) (hc0 : l0.length ≤ c0) (h : spec_ReverseDigits.f k l0 = some r) :
  Calls Tryz.prog 70 #[.slice A0 l0.length c0] w fun e w' => ∃ v0_ : Value, e = .returned (v0_) ∧ Kd.R (Kd.int .i64) 3 w' w.heap.size (fun _ => True) v0_ r ∧ Below w.heap.size w w' := by
 have HR0 := A_ hr0; clear hr0 hc0; have HB := A_ (Below.refl w.heap.size w); unfold spec_ReverseDigits.f at h; have H := h; clear h; obtain ⟨y945, hy945⟩ := ex_ ((([] : List Int)) : List Int); replace H : (spec_ReverseDigits.l0 k l0 y945 (wrap64 ((l0.length : Int) - 1))) = some r := by (rw [hy945]; with_reducible exact H)
 have Ny945 := A_ hy945; clear hy945
 have H' := A_ H
 clear H; go_enter Tryz.func70, Tryz.ntmps70
 go_wp2_with (first | ((with_reducible refine gd_ 5 rfl ?_); refine RL_ 5 3 [] [] rfl rfl (by go_simp; done) rfl rfl ?_; rintro v946 w2 ho3 hb - -; (rw [← Ny945.out] at ho3); have HO947 := A_ (Kd.R_lower ho3 (below_size HB.out)); replace HB := bs_ HB hb; clear hb ho3))
 go_loopg [3, 4] k (fun kq v3 v4 w' => ∃ (x3_1 : List Int) (x4_1 : Int), v4 = .int .i64 x4_1 ∧ Aside0 (spec_ReverseDigits.l0 kq l0 x3_1 x4_1 = some r) ∧ Aside0 (kq ≤ k) ∧ Aside0 (Kd.R (Kd.int .i64) 3 w' w.heap.size (fun _ => True) v3 x3_1) ∧ Aside0 (Below w.heap.size w w'))
 case atStart => exact ⟨(y945), (wrap64 ((l0.length : Int) - 1)), (by rfl), H', ⟨Nat.le_refl _⟩, ⟨HO947.out⟩, ⟨HB.out⟩⟩
 case round =>
  clear H'; obtain ⟨x3_1, x4_1, rfl, HA, HK1, HO_3, HB⟩ := hrel
  cases gk with
  | zero => exact absurd HA.out (by simp [spec_ReverseDigits.l0])
  | succ k1 =>
   have H := HA.out; clear HA; simp only [spec_ReverseDigits.l0] at H
   by_cases c4 : x4_1 ≥ 0
   ·rw [if_pos c4] at H
    have c4b0 : decide (0 ≤ x4_1) = true := decide_eq_true c4
    clear c4
    by_cases c5 : 0 ≤ x4_1
    ·rw [if_pos c5] at H; have c5b0 := decide_eq_true c5; clear c5
     by_cases c6 : x4_1 < (l0.length : Int)
     ·rw [if_pos c6] at H; have c6b0 := decide_eq_true c6; clear c6
      by_cases c7 : x3_1.length < 17592186044416
      ·rw [if_pos c7] at H; have LMc7 := A_ c7; clear c7; obtain ⟨y949, hy949⟩ := ex_ ((x3_1 ++ [rd l0 x4_1]) : List Int); replace H : (spec_ReverseDigits.l0 k1 l0 y949 (wrap64 (x4_1 - 1))) = some r := by (rw [hy949]; with_reducible exact H)
       have Ny949 := A_ hy949; clear hy949
       have H' := A_ H
       clear H
       have p948 : 0 ≤ (x4_1 : Int) := od_ (by assumption)
       have q948 : x4_1 < (l0.length : Int) := od_ (by assumption)
       obtain ⟨ad948, e948, hx948_0⟩ := Kd.at_int HR0.out x4_1 p948 q948
       cases e948
       replace hx948_0 := (HB.out.cell (World.block_lt_of_cell? w _ hx948_0)).trans hx948_0; replace p948 := eq_true p948; replace q948 := eq_true q948
       go_wp2_with (first | ((with_reducible refine gate_builtin (b := .append) (xs := #[.tmp 13, .tmp 18]) rfl ?_); at_builtin; refine Kd.R_append (Kd.int .i64) (w0 := w) w.heap.size rfl (.tmp 13) (.tmp 18) 24 3 (.int .i64 0) 8 rfl Tryz.underlying24 info3 rfl (by decide) (by omega) u3 x3_1 (rd l0 x4_1) [.int .i64 (rd l0 x4_1)] (fun _ => True) (fun _ => False) rfl rfl ?aP (fun _ hk => hk.elim) ?aF ?aO ?aB ?aS ?aL ?_; (case aP => exact rfl); (case aB => exact HB.out); (case aF => exact (fun _ _ => trivial)); (case aO => exact HO_3.out); (case aS => exact (below_size HB.out)); (case aL => have := LMc7.out; omega); intro v950 w8 ho hb hg hat; rw [← Ny949.out] at ho; replace HB := A_ (hb); have HO951 := A_ (ho); clear HO_3; clear ho hb hg hat))
       go_roundg k1
       case measure => have := HK1.out; omega
       case rel => exact ⟨(y949), (wrap64 (x4_1 - 1)), (by rfl), H', ⟨by have := HK1.out; omega⟩, ⟨HO951.out⟩, ⟨HB.out⟩⟩
      rw [if_neg c7] at H
      cases H
     rw [if_neg c6] at H
     cases H
    rw [if_neg c5] at H
    cases H
   rw [if_neg c4] at H
   have c4b0 : decide (0 ≤ x4_1) = false := decide_eq_false c4
   clear c4; obtain rfl := Option.some.inj H
   go_wp2
   go_ret
   exact ⟨_, by rfl, HO_3.out, HB.out⟩

def spec_IsPalindrome.f (k : Nat) (l0 : List Int) : Option (Bool) := (spec_ReverseDigits.f k l0).bind fun t952 => ((spec_l3Same.f k l0 t952).bind fun t955 => (some t955))
theorem spec_IsPalindrome.calls (k : Nat) (A0 : Option Addr) (c0 : Nat) (l0 : List Int) (r : Bool) (w : World) (hr0 : Kd.C (Kd.int .i64) w A0 l0.length l0) (hc0 : l0.length ≤ c0) (h : spec_IsPalindrome.f k l0 = some r) :
  Calls Tryz.prog 61 #[.slice A0 l0.length c0] w fun e w' => e = .returned (.bool r) ∧ Below w.heap.size w w' := by
 have HR0 := A_ hr0; have HC0 := A_ hc0; clear hr0 hc0; have HB := A_ (Below.refl w.heap.size w); unfold spec_IsPalindrome.f at h; have H := h; clear h; replace H := bA_ H; obtain ⟨t952, A2, H⟩ := H; replace H := bA_ H; obtain ⟨t955, A3, H⟩ := H; obtain rfl := Option.some.inj H; go_enter Tryz.func61, Tryz.ntmps61
 go_wp2_with (first | ((with_reducible refine gc_ 70 rfl ?_); refine cL_ E70 5 rfl rfl rfl (spec_ReverseDigits.calls k _ _ l0 t952 _ (by repeat (first | exact HR0.out | (with_reducible refine Kd.C_alloc ?_ _) | (with_reducible refine Kd.C_drewN ?_ _) | (with_reducible refine Kd.C_drew ?_))) HC0.out A2.out) (by simp only [mA, mB, mC]; rfl) ?_; rintro e w4 ⟨v953, rfl, ho0, hb⟩; refine ⟨_, rfl, ?_⟩; have HO954 := A_ (Kd.R_lower ho0 (below_size HB.out)); replace HB := bs_ HB hb; clear hb ho0; obtain ⟨Ao5, co5, eo5⟩ := Kd.R_slice HO954.out; subst eo5) | ((with_reducible refine gc_ 46 rfl ?_); refine cD_ E46 6 rfl rfl rfl (spec_l3Same.calls k _ _ l0 _ _ t952 t955 _ (Kd.C_below HR0.out HB.out) HC0.out ((Kd.R_reads' HO954.out).2.2) ((Kd.R_reads' HO954.out).2.1) A3.out) (by simp only [mA, mB, mC]; rfl) fun nd => ?_))
 go_ret
 exact ⟨by rfl, by repeat (first | (with_reducible first | exact HB.out | apply below_alloc | apply pw_below_drewN | apply below_drew1) | exact HB.out)⟩

mutual
def spec_PalindromesOf.j0 : Nat → List Int → List (List Int) → Bool → Option ((List (List Int)))
 | 0, _, _, _ => none
 | k + 1, x0, x3, x15 => if x15 = true then (some x3) else (spec_PalindromesOf.l0 k x0 x3 1)
def spec_PalindromesOf.l0 : Nat → List Int → List (List Int) → Int → Option ((List (List Int)))
 | 0, _, _, _ => none
 | k + 1, x0, x3, x4 => if x4 ≤ (x0.length : Int) then (spec_PalindromesOf.l1 k x0 x3 x4 (([] : List (List Int))) 0) else (some x3)
def spec_PalindromesOf.l1 : Nat → List Int → List (List Int) → Int → List (List Int) → Int → Option ((List (List Int)))
 | 0, _, _, _, _, _ => none
 | k + 1, x0, x3, x4, x5, x6 => if (wrap64 (x6 + x4)) ≤ (x0.length : Int) then (if 0 ≤ x6 then (if x6 ≤ (wrap64 (x6 + x4)) then ((spec_IsPalindrome.f k ((x0.take ((wrap64 (x6 + x4)) : Int).toNat).drop (x6 : Int).toNat)).bind fun t967 => (if t967 = true then ((spec_l8Put.f k x5 ((x0.take ((wrap64 (x6 + x4)) : Int).toNat).drop (x6 : Int).toNat)).bind fun t969 => (spec_PalindromesOf.l1 k x0 x3 x4 t969 (wrap64 (x6 + 1)))) else (spec_PalindromesOf.l1 k x0 x3 x4 x5 (wrap64 (x6 + 1))))) else (none)) else (none)) else (if x3.length + x5.length < 5864062014805 then (spec_PalindromesOf.l0 k x0 (x3 ++ x5) (wrap64 (x4 + 1))) else (none))
end
def spec_PalindromesOf.f (k : Nat) (l0 : List Int) : Option ((List (List Int))) := (some (([] : List (List Int)) : List (List Int))).bind fun y956 => ((spec_IsWord.f k l0 16).bind fun t959 => (if t959 = true then (spec_PalindromesOf.j0 k l0 y956 (decide ((l0.length : Int) > 64))) else (spec_PalindromesOf.j0 k l0 y956 true)))
theorem spec_PalindromesOf.calls (k : Nat) (A0 : Option Addr) (c0 : Nat) (l0 : List Int) (r : List (List Int)) (w : World) (hr0 : Kd.C (Kd.int .i64) w A0 l0.length l0) (hc0 : l0.length ≤ c0) (h : spec_PalindromesOf.f k l0 = some r) :
  Calls Tryz.prog 43 #[.slice A0 l0.length c0] w fun e w' => ∃ v0_ : Value, e = .returned (v0_) ∧ Kd.N (Kd.slice 3 (Kd.int .i64)) 24 w' w.heap.size (fun k_ => (w.heap.size ≤ k_)) v0_ r ∧ Below w.heap.size w w' := by
 have HR0 := A_ hr0; have HC0 := A_ hc0; clear hr0 hc0; have HB := A_ (Below.refl w.heap.size w); unfold spec_PalindromesOf.f at h; have H := h; clear h; obtain ⟨y956, hy956⟩ := ex_ ((([] : List (List Int))) : List (List Int)); replace H : ((spec_IsWord.f k l0 16).bind fun t959 => (if t959 = true then (spec_PalindromesOf.j0 k l0 y956 (decide ((l0.length : Int) > 64))) else (spec_PalindromesOf.j0 k l0 y956 true))) = some r := by (have H2_ := (Option.bind_some _ _).symm.trans H; rw [hy956]; with_reducible exact H2_)
 have Ny956 := A_ hy956; clear hy956; have HC2 := A_ H; clear H; go_enter Tryz.func43, Tryz.ntmps43
 go_upto_region 2 with (first | ((with_reducible refine gate_dst (N := 7) rfl ?_); (try (refine gate_guard (by rfl) ?_; dsimp only)); refine Kd.N_lit (Kd.slice 3 (Kd.int .i64)) _ 24 ?hg (N' := 7) ?hd (xs := ([] : List (List Int))) (inner := []) (ok := (fun k_ => (w.heap.size ≤ k_))) (okp := (fun k_ => (w.heap.size ≤ k_))) ?hr ?hp (fun _ hk => hk) ((show ∀ k_, w.heap.size ≤ k_ → (fun k_ => (w.heap.size ≤ k_)) k_ from fun k_ hk => (Nat.le_trans (below_size HB.out) hk)) _ (Nat.le_refl _)) (Below.refl _ _) (Nat.le_refl _) (by simp) ?_; (case hd | hg => rfl); (case hr => go_simp; done); (case hp => exact (Reps.none _ _)); rintro v957 w3 ho4 hb - -; (rw [← Ny956.out] at ho4); have HO958 := A_ (Kd.N_lower ho4 (below_size HB.out)); replace HB := bs_ HB hb; clear hb ho4))
 (try simp only [Act.put, mD, mE, mF])
 go_cut [15] (fun v15 wc => ∃ (kq : Nat) (x15_1 : Bool), v15 = .bool x15_1 ∧ Aside0 (spec_PalindromesOf.j0 kq l0 y956 x15_1 = some r) ∧ Aside0 (kq ≤ k) ∧ Aside0 (Kd.N (Kd.slice 3 (Kd.int .i64)) 24 wc w.heap.size (fun k_ => (w.heap.size ≤ k_)) v957 y956) ∧ Aside0 (Below w.heap.size w wc))
 case first =>
  have H := HC2.out; clear HC2; replace H := bA_ H; obtain ⟨t959, A5, H⟩ := H
  by_cases c6 : t959 = true
  ·subst c6; rw [if_pos rfl] at H
   have H' := A_ H
   clear H
   go_wp2_with (first | ((with_reducible refine gc_ 31 rfl ?_); refine cD_ E31 9 rfl rfl rfl (spec_IsWord.calls k _ _ l0 16 true _ (Kd.C_below HR0.out HB.out) HC0.out A5.out) (by simp only [mA, mB, mC]; rfl) fun nd => ?_))
   go_meet
   case rel => exact ⟨_, (decide ((l0.length : Int) > 64)), (by rfl), H', ⟨by omega⟩, ⟨by (with_reducible repeat (first | apply Kd.N_alloc | apply Kd.N_drewN | apply Kd.N_drew)); exact HO958.out⟩, ⟨by repeat (first | (with_reducible first | exact HB.out | apply below_alloc | apply pw_below_drewN | apply below_drew1) | exact HB.out)⟩⟩
  replace c6 := Bool.eq_false_iff.mpr c6; subst c6; rw [if_neg nf_] at H
  have H' := A_ H
  clear H
  go_wp2_with (first | ((with_reducible refine gc_ 31 rfl ?_); refine cD_ E31 9 rfl rfl rfl (spec_IsWord.calls k _ _ l0 16 false _ (Kd.C_below HR0.out HB.out) HC0.out A5.out) (by simp only [mA, mB, mC]; rfl) fun nd => ?_))
  go_meet
  case rel => exact ⟨_, (true), (by rfl), H', ⟨by omega⟩, ⟨by (with_reducible repeat (first | apply Kd.N_alloc | apply Kd.N_drewN | apply Kd.N_drew)); exact HO958.out⟩, ⟨by repeat (first | (with_reducible first | exact HB.out | apply below_alloc | apply pw_below_drewN | apply below_drew1) | exact HB.out)⟩⟩
 case rest =>
  clear HC2; obtain ⟨kq, x15_1, rfl, HA, HJ1, HO_3, HB⟩ := hcut
  cases kq with
  | zero => exact absurd HA.out (by simp [spec_PalindromesOf.j0])
  | succ kj1 =>
   have H := HA.out; clear HA; simp only [spec_PalindromesOf.j0] at H
   by_cases c7 : x15_1 = true
   ·subst c7; rw [if_pos rfl] at H; obtain rfl := Option.some.inj H
    go_wp2
    go_ret
    exact ⟨_, by rfl, HO_3.out, HB.out⟩
   replace c7 := Bool.eq_false_iff.mpr c7; subst c7; rw [if_neg nf_] at H
   have H' := A_ H
   clear H
   go_wp2
   go_loopg [3, 4] kj1 (fun kq v3 v4 w' => ∃ (x3_2 : List (List Int)) (x4_2 : Int), v4 = .int .i64 x4_2 ∧ Aside0 (spec_PalindromesOf.l0 kq l0 x3_2 x4_2 = some r) ∧ Aside0 (kq ≤ kj1) ∧ Aside0 (Kd.N (Kd.slice 3 (Kd.int .i64)) 24 w' w.heap.size (fun k_ => (w.heap.size ≤ k_)) v3 x3_2) ∧ Aside0 (Below w.heap.size w w'))
   case atStart => exact ⟨(y956), (1), (by rfl), H', ⟨Nat.le_refl _⟩, ⟨HO_3.out⟩, ⟨HB.out⟩⟩
   case round =>
    clear H'; obtain ⟨x3_2, x4_2, rfl, HA, HK2, HO_3, HB⟩ := hrel
    cases gk with
    | zero => exact absurd HA.out (by simp [spec_PalindromesOf.l0])
    | succ k2 =>
     have H := HA.out; clear HA; simp only [spec_PalindromesOf.l0] at H
     by_cases c8 : x4_2 ≤ (l0.length : Int)
     ·rw [if_pos c8] at H; have c8b0 := decide_eq_true c8; clear c8; obtain ⟨y960, hy960⟩ := ex_ ((([] : List (List Int))) : List (List Int)); replace H : (spec_PalindromesOf.l1 k2 l0 x3_2 x4_2 y960 0) = some r := by (rw [hy960]; with_reducible exact H)
      have Ny960 := A_ hy960; clear hy960
      have H' := A_ H
      clear H
      go_wp2_with (first | ((with_reducible refine gate_dst (N := 23) rfl ?_); (try (refine gate_guard (by rfl) ?_; dsimp only)); refine Kd.N_lit (Kd.slice 3 (Kd.int .i64)) _ 24 ?hg (N' := 23) ?hd (xs := ([] : List (List Int))) (inner := []) (ok := (fun k_ => (w.heap.size ≤ k_) ∧ some k_ ≠ (u3 : Value).ownBlock)) (okp := (fun k_ => (w.heap.size ≤ k_) ∧ some k_ ≠ (u3 : Value).ownBlock)) ?hr ?hp (fun _ hk => hk) ((show ∀ k_, wr.heap.size ≤ k_ → (fun k_ => (w.heap.size ≤ k_) ∧ some k_ ≠ (u3 : Value).ownBlock) k_ from fun k_ hk => ⟨(Nat.le_trans (below_size HB.out) hk), Kd.fresh' (Kd.N_lt HO_3.out) k_ hk⟩) _ (Nat.le_refl _)) (Below.refl _ _) (Nat.le_refl _) (by simp) ?_; (case hd | hg => rfl); (case hr => go_simp; done); (case hp => exact (Reps.none _ _)); rintro v961 w9 ho10 hb - -; (rw [← Ny960.out] at ho10); replace HO_3 := A_ (Kd.N_elder' HO_3.out (Kd.N_base ho10) hb); have HO962 := A_ (Kd.N_lower ho10 (below_size HB.out)); replace HB := bs_ HB hb; clear hb ho10))
      go_loopg [5, 6] k2 (fun kq v5 v6 w' => ∃ (x5_3 : List (List Int)) (x6_3 : Int), v6 = .int .i64 x6_3 ∧ Aside0 (spec_PalindromesOf.l1 kq l0 x3_2 x4_2 x5_3 x6_3 = some r) ∧ Aside0 (kq ≤ k2) ∧ Aside0 (Kd.N (Kd.slice 3 (Kd.int .i64)) 24 w' w.heap.size (fun k_ => (w.heap.size ≤ k_) ∧ some k_ ≠ (v5 : Value).ownBlock) u3 x3_2) ∧ Aside0 (Kd.N (Kd.slice 3 (Kd.int .i64)) 24 w' w.heap.size (fun k_ => (w.heap.size ≤ k_) ∧ some k_ ≠ (u3 : Value).ownBlock) v5 x5_3) ∧ Aside0 (Below w.heap.size w w'))
      case atStart => exact ⟨(y960), (0), (by rfl), H', ⟨Nat.le_refl _⟩, ⟨HO_3.out⟩, ⟨HO962.out⟩, ⟨HB.out⟩⟩
      case round =>
       clear H'
       try skip
       obtain ⟨x5_3, x6_3, rfl, HA, HK3, HO_3, HO_5, HB⟩ := hrel
       cases gk with
       | zero => exact absurd HA.out (by simp [spec_PalindromesOf.l1])
       | succ k3 =>
        have H := HA.out; clear HA; simp only [spec_PalindromesOf.l1] at H
        by_cases c11 : (wrap64 (x6_3 + x4_2)) ≤ (l0.length : Int)
        ·rw [if_pos c11] at H; have c11b0 := decide_eq_true c11; clear c11
         by_cases c12 : 0 ≤ x6_3
         ·rw [if_pos c12] at H; have c12b0 := eq_true c12; have c12b1 := decide_eq_true c12; clear c12
          by_cases c13 : x6_3 ≤ (wrap64 (x6_3 + x4_2))
          ·rw [if_pos c13] at H; have c13b1 := decide_eq_true c13; have c14b0 := eq_true (od_ (by assumption) : (wrap64 (x6_3 + x4_2)) ≤ (l0.length : Int)); replace H := bA_ H; obtain ⟨t967, A15, H⟩ := H
           by_cases c16 : t967 = true
           ·subst c16; rw [if_pos rfl] at H; replace H := bA_ H; obtain ⟨t969, A20, H⟩ := H
            have H' := A_ H
            clear H; obtain ⟨i021, hi021, _, hsz21, _⟩ := info_parts info3; obtain ⟨A21, hcut21, hA21, hC21⟩ := print_mid_of (P := Tryz.prog) (Value.int .i64) 0 24 3 .i64 .i64 Tryz.underlying24 hi021 hsz21 A0 c0 l0 x6_3 (wrap64 (x6_3 + x4_2)) (od_ (by assumption)) (by first | omega | exact od_ (by first | (with_reducible assumption) | assumption)) (od_ (by assumption)) HC0.out; have HR966 := A_ (Kd.C_of_reads (h1 := fun _ => rfl) (hA21 _ (Kd.reads_of_C HR0.out))); have HC966 := A_ hC21; clear hA21 hC21 hi021 hsz21
            go_wp2_with (first | ((with_reducible refine gc_ 61 rfl ?_); refine cL_ E61 38 rfl rfl rfl (spec_IsPalindrome.calls k3 _ _ ((l0.take ((wrap64 (x6_3 + x4_2)) : Int).toNat).drop (x6_3 : Int).toNat) true _ (Kd.C_below HR966.out HB.out) HC966.out A15.out) (by (try simp only [mA, mB, mC]); first | done | (rw [show ((l0.take ((wrap64 (x6_3 + x4_2)) : Int).toNat).drop (x6_3 : Int).toNat).length = ((wrap64 (x6_3 + x4_2)).toNat - x6_3.toNat) from (by rw [List.length_drop, List.length_take]; have h_ : ((wrap64 (x6_3 + x4_2)) : Int) ≤ (l0.length : Int) := od_ (by assumption); omega)] <;> rfl) | rfl | (simp only [List.length_drop, List.length_take]; rfl)) ?_; rintro e w22 ⟨rfl, hb⟩; refine ⟨_, rfl, ?_⟩; replace HO_3 := A_ (Kd.N_below HO_3.out hb); replace HO_5 := A_ (Kd.N_below HO_5.out hb); replace HB := bs_ HB hb; clear hb; obtain ⟨i023, hi023, _, hsz23, _⟩ := info_parts info3; clear hcut21; obtain ⟨A23, hcut23, hA23, hC23⟩ := print_mid_of (P := Tryz.prog) (Value.int .i64) 0 24 3 .i64 .i64 Tryz.underlying24 hi023 hsz23 A0 c0 l0 x6_3 (wrap64 (x6_3 + x4_2)) (od_ (by assumption)) (by first | omega | exact od_ (by first | (with_reducible assumption) | assumption)) (od_ (by assumption)) HC0.out; have HR968 := A_ (Kd.C_of_reads (h1 := fun _ => rfl) (hA23 _ (Kd.reads_of_C HR0.out))); have HC968 := A_ hC23; clear hA23 hC23 hi023 hsz23; obtain ⟨Ao24, co24, eo24⟩ := Kd.N_slice HO_5.out; subst eo24) | ((with_reducible refine gc_ 62 rfl ?_); refine cL_ E62 46 rfl rfl rfl (spec_l8Put.calls k3 (fun k_ => ((w.heap.size ≤ k_) ∧ some k_ ≠ (u3 : Value).ownBlock)) _ _ x5_3 _ _ ((l0.take ((wrap64 (x6_3 + x4_2)) : Int).toNat).drop (x6_3 : Int).toNat) t969 _ (Kd.N_V (HO_5.out)) (Kd.C_below HR968.out HB.out) HC968.out A20.out) (by (try simp only [mA, mB, mC]); first | done | (rw [show ((l0.take ((wrap64 (x6_3 + x4_2)) : Int).toNat).drop (x6_3 : Int).toNat).length = ((wrap64 (x6_3 + x4_2)).toNat - x6_3.toNat) from (by rw [List.length_drop, List.length_take]; have h_ : ((wrap64 (x6_3 + x4_2)) : Int) ≤ (l0.length : Int) := od_ (by assumption); omega)] <;> rfl) | rfl | (simp only [List.length_drop, List.length_take]; rfl)) ?_; rintro e w25 ⟨v970, rfl, ho0, hb⟩; refine ⟨_, rfl, ?_⟩; replace HO_5 := A_ (Kd.N_elder' HO_5.out (Kd.N_base ho0) hb); have HO971 := A_ (Kd.N_lower (Kd.N_mono (ok' := fun k_ => (w.heap.size ≤ k_) ∧ some k_ ≠ (u3 : Value).ownBlock) ho0 (fun k_ hk_ => ⟨Or.elim hk_ (fun hs_ => hs_.1) (fun hn_ => (Nat.le_trans (below_size HB.out) hn_)), Or.elim hk_ (fun hs_ => hs_.2) (fun hn_ => (Kd.fresh' (Kd.N_lt HO_3.out) k_ hn_))⟩)) (below_size HB.out)); replace HO_3 := A_ (Kd.N_elder' HO_3.out (Kd.N_base ho0) hb); replace HB := bs_ HB hb; clear hb; (try clear ho0)))
            go_roundg k3
            case measure => have := HJ1.out; have := HK2.out; have := HK3.out; omega
            case rel => exact ⟨(t969), (wrap64 (x6_3 + 1)), (by rfl), H', ⟨by have := HJ1.out; have := HK2.out; have := HK3.out; omega⟩, ⟨by exact Kd.N_mono HO_3.out (fun _ hk => ⟨hk.1.1, hk.2⟩)⟩, ⟨HO971.out⟩, ⟨HB.out⟩⟩
           replace c16 := Bool.eq_false_iff.mpr c16; subst c16; rw [if_neg nf_] at H
           have H' := A_ H
           clear H; obtain ⟨i026, hi026, _, hsz26, _⟩ := info_parts info3; obtain ⟨A26, hcut26, hA26, hC26⟩ := print_mid_of (P := Tryz.prog) (Value.int .i64) 0 24 3 .i64 .i64 Tryz.underlying24 hi026 hsz26 A0 c0 l0 x6_3 (wrap64 (x6_3 + x4_2)) (od_ (by assumption)) (by first | omega | exact od_ (by first | (with_reducible assumption) | assumption)) (od_ (by assumption)) HC0.out; have HR966 := A_ (Kd.C_of_reads (h1 := fun _ => rfl) (hA26 _ (Kd.reads_of_C HR0.out))); have HC966 := A_ hC26; clear hA26 hC26 hi026 hsz26
           go_wp2_with (first | ((with_reducible refine gc_ 61 rfl ?_); refine cL_ E61 38 rfl rfl rfl (spec_IsPalindrome.calls k3 _ _ ((l0.take ((wrap64 (x6_3 + x4_2)) : Int).toNat).drop (x6_3 : Int).toNat) false _ (Kd.C_below HR966.out HB.out) HC966.out A15.out) (by (try simp only [mA, mB, mC]); first | done | (rw [show ((l0.take ((wrap64 (x6_3 + x4_2)) : Int).toNat).drop (x6_3 : Int).toNat).length = ((wrap64 (x6_3 + x4_2)).toNat - x6_3.toNat) from (by rw [List.length_drop, List.length_take]; have h_ : ((wrap64 (x6_3 + x4_2)) : Int) ≤ (l0.length : Int) := od_ (by assumption); omega)] <;> rfl) | rfl | (simp only [List.length_drop, List.length_take]; rfl)) ?_; rintro e w27 ⟨rfl, hb⟩; refine ⟨_, rfl, ?_⟩; replace HO_3 := A_ (Kd.N_below HO_3.out hb); replace HO_5 := A_ (Kd.N_below HO_5.out hb); replace HB := bs_ HB hb; clear hb; (try clear hi)))
           go_roundg k3
           case measure => have := HJ1.out; have := HK2.out; have := HK3.out; omega
           case rel => exact ⟨(x5_3), (wrap64 (x6_3 + 1)), (by rfl), H', ⟨by have := HJ1.out; have := HK2.out; have := HK3.out; omega⟩, ⟨HO_3.out⟩, ⟨HO_5.out⟩, ⟨HB.out⟩⟩
          rw [if_neg c13] at H
          cases H
         rw [if_neg c12] at H
         cases H
        rw [if_neg c11] at H; have c11b0 := decide_eq_false c11; clear c11
        by_cases c28 : x3_2.length + x5_3.length < 5864062014805
        ·rw [if_pos c28] at H; have LMc28 := A_ c28; clear c28; obtain ⟨y963, hy963⟩ := ex_ ((x3_2 ++ x5_3) : List (List Int)); replace H : (spec_PalindromesOf.l0 k3 l0 y963 (wrap64 (x4_2 + 1))) = some r := by (rw [hy963]; with_reducible exact H)
         have Ny963 := A_ hy963; clear hy963
         have H' := A_ H
         clear H; obtain ⟨Ao30, co30, eo30⟩ := Kd.N_slice HO_5.out; subst eo30
         go_wp2_with (first | ((with_reducible refine gate_builtin (b := .append) (xs := #[.tmp 47, .tmp 48]) rfl ?_); (try (refine gate_guard (by rfl) ?_; dsimp only)); at_builtin; refine Kd.N_append_rows (Kd.slice 3 (Kd.int .i64)) (w0 := w) w.heap.size rfl (.tmp 47) (.tmp 48) 47 24 (.slice none 0 0) 24 rfl Tryz.underlying47 info24 rfl (by decide) (by omega) u3 x3_2 x5_3 _ _ _ (fun k_ => (w.heap.size ≤ k_)) (fun k_ => ((fun k_ => (w.heap.size ≤ k_))) k_ ∧ some k_ ≠ (u3 : Value).ownBlock) rfl rfl ?aO ?aR (fun _ hk => hk) ?aF ?aB ?aS ?aL ?_; (case aR => exact (by exact Kd.N_F (Kd.N_mono (ok' := (fun k_ => ((fun k_ => (w.heap.size ≤ k_))) k_ ∧ some k_ ≠ (u3 : Value).ownBlock)) (HO_5.out) (fun k_ hk => ⟨hk.1, hk.2⟩)))); (case aB => exact HB.out); (case aF => exact (fun k_ hk => (Nat.le_trans (below_size HB.out) hk))); (case aO => exact (by exact Kd.N_mono HO_3.out (fun _ hk => hk.1))); (case aS => exact (below_size HB.out)); (case aL => have := LMc28.out; omega); intro v964 w29 ho hb hg hat; rw [← Ny963.out] at ho; replace HO_5 := A_ (Kd.N_afterv (ok := (fun k_ => (w.heap.size ≤ k_))) HO_5.out hg hat); replace HB := A_ (hb); have HO965 := A_ (ho); clear HO_3; clear ho hb hg hat))
         go_roundg k3
         case measure => have := HJ1.out; have := HK2.out; have := HK3.out; omega
         case rel => exact ⟨(y963), (wrap64 (x4_2 + 1)), (by rfl), H', ⟨by have := HJ1.out; have := HK2.out; have := HK3.out; omega⟩, ⟨HO965.out⟩, ⟨HB.out⟩⟩
        rw [if_neg c28] at H
        cases H
     rw [if_neg c8] at H; have c8b0 := decide_eq_false c8; clear c8; obtain rfl := Option.some.inj H
     go_wp2
     go_ret
     exact ⟨_, by rfl, HO_3.out, HB.out⟩

def spec_RichnessOf.f (k : Nat) (l0 : List Int) : Option (Int) := (spec_PalindromesOf.f k l0).bind fun t972 => (some (t972.length : Int))
theorem spec_RichnessOf.calls (k : Nat) (A0 : Option Addr) (c0 : Nat) (l0 : List Int) (r : Int) (w : World) (hr0 : Kd.C (Kd.int .i64) w A0 l0.length l0) (hc0 : l0.length ≤ c0) (h : spec_RichnessOf.f k l0 = some r) :
  Calls Tryz.prog 25 #[.slice A0 l0.length c0] w fun e w' => e = .returned (.int .i64 r) ∧ Below w.heap.size w w' := by
 have HR0 := A_ hr0; have HC0 := A_ hc0; clear hr0 hc0; have HB := A_ (Below.refl w.heap.size w); unfold spec_RichnessOf.f at h; have H := h; clear h; replace H := bA_ H; obtain ⟨t972, A2, H⟩ := H; obtain rfl := Option.some.inj H; go_enter Tryz.func25, Tryz.ntmps25
 go_wp2_with (first | ((with_reducible refine gc_ 43 rfl ?_); refine cL_ E43 4 rfl rfl rfl (spec_PalindromesOf.calls k _ _ l0 t972 _ (by repeat (first | exact HR0.out | (with_reducible refine Kd.C_alloc ?_ _) | (with_reducible refine Kd.C_drewN ?_ _) | (with_reducible refine Kd.C_drew ?_))) HC0.out A2.out) (by simp only [mA, mB, mC]; rfl) ?_; rintro e w3 ⟨v973, rfl, ho0, hb⟩; refine ⟨_, rfl, ?_⟩; have HO974 := A_ (Kd.N_lower (Kd.N_mono (ok' := fun k_ => True) ho0 (fun k_ hk_ => trivial)) (below_size HB.out)); replace HB := bs_ HB hb; clear hb ho0; obtain ⟨Ao4, co4, eo4⟩ := Kd.N_slice HO974.out; subst eo4))
 go_ret
 exact ⟨by rfl, HB.out⟩

def spec_IsRich.f (k : Nat) (l0 : List Int) : Option (Bool) := (spec_IsWord.f k l0 16).bind fun t975 => (if t975 = true then (if (l0.length : Int) ≤ 64 then ((spec_RichnessOf.f k l0).bind fun t976 => (some (t976 == (l0.length : Int)))) else (some false)) else (some false))
theorem spec_IsRich.calls (k : Nat) (A0 : Option Addr) (c0 : Nat) (l0 : List Int) (r : Bool) (w : World) (hr0 : Kd.C (Kd.int .i64) w A0 l0.length l0) (hc0 : l0.length ≤ c0) (h : spec_IsRich.f k l0 = some r) :
  Calls Tryz.prog 26 #[.slice A0 l0.length c0] w fun e w' => e = .returned (.bool r) ∧ Below w.heap.size w w' := by
 have HR0 := A_ hr0; have HC0 := A_ hc0; clear hr0 hc0; have HB := A_ (Below.refl w.heap.size w); unfold spec_IsRich.f at h; have H := h; clear h; replace H := bA_ H; obtain ⟨t975, A2, H⟩ := H
 by_cases c3 : t975 = true
 ·subst c3; rw [if_pos rfl] at H
  by_cases c4 : (l0.length : Int) ≤ 64
  ·rw [if_pos c4] at H; have c4b0 := decide_eq_true c4
   clear c4; replace H := bA_ H; obtain ⟨t976, A5, H⟩ := H; obtain rfl := Option.some.inj H; go_enter Tryz.func26, Tryz.ntmps26
   go_wp2_with (first | ((with_reducible refine gc_ 31 rfl ?_); refine cD_ E31 4 rfl rfl rfl (spec_IsWord.calls k _ _ l0 16 true _ (by repeat (first | exact HR0.out | (with_reducible refine Kd.C_alloc ?_ _) | (with_reducible refine Kd.C_drewN ?_ _) | (with_reducible refine Kd.C_drew ?_))) HC0.out A2.out) (by simp only [mA, mB, mC]; rfl) fun nd => ?_) | (go_at_call 25; (with_reducible refine (spec_RichnessOf.calls k _ _ l0 t976 _ ?side1 ?side2 A5.out).mono ?_); (case side1 => repeat (first | exact HR0.out | (with_reducible refine Kd.C_alloc ?_ _) | (with_reducible refine Kd.C_drewN ?_ _) | (with_reducible refine Kd.C_drew ?_))); (case side2 => exact HC0.out); rintro e w6 ⟨rfl, hb⟩; replace HB := A_ (below_step (by repeat (first | (with_reducible first | exact HB.out | apply below_alloc | apply pw_below_drewN | apply below_drew1) | exact HB.out)) hb); clear hb; (try clear hi)))
   go_ret
   exact ⟨by rfl, HB.out⟩
  rw [if_neg c4] at H; have c4b0 := decide_eq_false c4
  clear c4; obtain rfl := Option.some.inj H; go_enter Tryz.func26, Tryz.ntmps26
  go_wp2_with (first | ((with_reducible refine gc_ 31 rfl ?_); refine cD_ E31 4 rfl rfl rfl (spec_IsWord.calls k _ _ l0 16 true _ (by repeat (first | exact HR0.out | (with_reducible refine Kd.C_alloc ?_ _) | (with_reducible refine Kd.C_drewN ?_ _) | (with_reducible refine Kd.C_drew ?_))) HC0.out A2.out) (by simp only [mA, mB, mC]; rfl) fun nd => ?_))
  go_ret
  exact ⟨by rfl, by repeat (first | (with_reducible first | exact HB.out | apply below_alloc | apply pw_below_drewN | apply below_drew1) | exact HB.out)⟩
 replace c3 := Bool.eq_false_iff.mpr c3; subst c3; rw [if_neg nf_] at H; obtain rfl := Option.some.inj H; go_enter Tryz.func26, Tryz.ntmps26
 go_wp2_with (first | ((with_reducible refine gc_ 31 rfl ?_); refine cD_ E31 4 rfl rfl rfl (spec_IsWord.calls k _ _ l0 16 false _ (by repeat (first | exact HR0.out | (with_reducible refine Kd.C_alloc ?_ _) | (with_reducible refine Kd.C_drewN ?_ _) | (with_reducible refine Kd.C_drew ?_))) HC0.out A2.out) (by simp only [mA, mB, mC]; rfl) fun nd => ?_))
 go_ret
 exact ⟨by rfl, by repeat (first | (with_reducible first | exact HB.out | apply below_alloc | apply pw_below_drewN | apply below_drew1) | exact HB.out)⟩
end Go.Proofs.YtmjlmjhccpedmaaGreat.PFnBalance

