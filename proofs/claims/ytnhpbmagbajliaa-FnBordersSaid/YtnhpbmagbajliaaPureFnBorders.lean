/- For every code the law of borders holds: borders and periods, the theorem of Fine and Wilf, roots and primitive words, palindromes and richness are what the law says. No conditions beyond the given statement. -/
import Derived.Test.YtnhpbmagbajliaaPFnBordersx19
import Derived.Test.YtnhpbmagbajliaaWSized
import Derived.Test.YtnhpbmagbajliaaWSized
import Derived.Test.YtnhpbmagbajliaaWSized
set_option linter.unusedVariables false
set_option linter.unusedSimpArgs false
namespace Go.Proofs.Ytnhpbmagbajliaa.Pure
open Go.RowKit Go.Proofs.Ytnhpbmagbajliaa.PFnBorders Go.Proofs.YtnhpbmagbajliaaW.PrintWords Go.Proofs.YtnhpbmagbajliaaW.PrintLast
theorem ev_succ {α : Type} {g : Nat → Option α} {r : α} (h : Ev (fun k => g (k + 1)) r) : Ev g r := Ev.step (fun _ => rfl) h
theorem ev_some {α : Type} {r r' : α} (h : r = r') : Ev (fun _ => some r) r' := by subst h; exact Ev.now r
theorem ev_pos {α : Type} {c : Prop} [Decidable c] {g f : Nat → Option α} {r : α} (hc : c) (h : Ev g r) : Ev (fun k => if c then g k else f k) r := by
 simp only [if_pos hc]; exact h
theorem ev_neg {α : Type} {c : Prop} [Decidable c] {g f : Nat → Option α} {r : α} (hc : ¬ c) (h : Ev f r) : Ev (fun k => if c then g k else f k) r := by
 simp only [if_neg hc]; exact h
theorem ev_ite {α : Type} {c : Prop} [Decidable c] {g f : Nat → Option α} {r : α} (h : c → Ev g r) (h' : ¬ c → Ev f r) : Ev (fun k => if c then g k else f k) r := by
 by_cases hc : c
 ·exact ev_pos hc (h hc)
 ·exact ev_neg hc (h' hc)
theorem ev_bind {α β : Type} {g : Nat → Option α} {f : Nat → α → Option β} {a : α} {r : β} (h : Ev g a) (k : Ev (fun n => f n a) r) : Ev (fun n => (g n).bind (f n)) r := Ev.bind h k
theorem ev_bind0 {α β : Type} {o : Option α} {f : Nat → α → Option β} {a : α} {r : β} (h : o = some a) (k : Ev (fun n => f n a) r) : Ev (fun n => o.bind (f n)) r := by
 subst h; exact k
theorem ev_eq {α : Type} {g : Nat → Option α} {r r' : α} (h : Ev g r) (e : r = r') : Ev g r' := e ▸ h
theorem wr {n : Int} (h0 : -9223372036854775808 ≤ n) (h1 : n ≤ 9223372036854775807) : wrap64 n = n := by unfold wrap64; omega
theorem wr1 {i : Int} (h0 : 0 ≤ i) (h1 : i ≤ 4611686018427387904) : wrap64 (i + 1) = i + 1 := wr (by omega) (by omega)
theorem wr_nat {n : Nat} (h : n ≤ 4611686018427387904) : wrap64 (n : Int) = n := wr (by omega) (by omega)
theorem rd_nat (l : List Int) (i : Nat) : rd l (i : Int) = l.getD i 0 := by simp [rd]
theorem rd_get {l : List Int} {i : Nat} (h : i < l.length) : rd l (i : Int) = l[i] := by
 simp [rd, List.getD_eq_getElem?_getD, List.getElem?_eq_getElem h]
theorem drop_rd {l : List Int} {i : Nat} (h : i < l.length) : l.drop i = rd l (i : Int) :: l.drop (i + 1) := by
 rw [rd_get h]; exact List.drop_eq_getElem_cons h
theorem rd_mem {l : List Int} {i : Nat} (h : i < l.length) : rd l (i : Int) ∈ l := by rw [rd_get h]; exact List.getElem_mem h
theorem big_eq (l : List Int) : laws_big.f l = some (decide ((l.length : Int) > 1048576)) := by simp only [laws_big.f]
theorem laws_sameInts_l0 (a b : List Int) (hl : a.length = b.length) (hn : a.length ≤ 4611686018427387904) (d : Nat) : ∀ (i : Nat), i + d = a.length → Ev (fun k => laws_sameInts.l0 k a b (i : Int)) (decide (a.drop i = b.drop i)) := by
 induction d with
 | zero =>
  intro i hi
  refine ev_succ ?_
  simp only [laws_sameInts.l0]
  refine ev_neg (by omega) (ev_some ?_)
  rw [List.drop_of_length_le (by omega), List.drop_of_length_le (by omega)]; rfl
 | succ d ih =>
  intro i hi
  refine ev_succ ?_
  simp only [laws_sameInts.l0, wr1 (show (0 : Int) ≤ (i : Int) by omega) (by omega)]
  rw [drop_rd (by omega : i < a.length), drop_rd (by omega : i < b.length)]
  refine ev_pos (by omega) (ev_pos (by omega) (ev_pos (by omega) (ev_ite (fun h => ev_eq (ih (i + 1) (by omega)) ?_) (fun h => ev_some ?_))))
  ·rw [h]; simp
  ·simp [h]
theorem laws_sameInts_ev (a b : List Int) (hn : a.length ≤ 4611686018427387904) : Ev (fun k => laws_sameInts.f k a b) (decide (a = b)) := by
 simp only [laws_sameInts.f]
 refine ev_ite (fun h => ev_eq (laws_sameInts_l0 a b (by omega) hn a.length 0 (by omega)) (by simp)) (fun h => ev_some ?_)
 symm
 simp only [decide_eq_false_iff_not]
 rintro rfl
 exact h rfl
theorem sameInts_refl (a : List Int) (hn : a.length ≤ 4611686018427387904) : Ev (fun k => laws_sameInts.f k a a) true := ev_eq (laws_sameInts_ev a a hn) (by simp)
def Tot {α : Type} (g : Nat → Option α) (P : α → Prop) : Prop := ∃ r, Ev g r ∧ P r
theorem tot_of {α : Type} {g : Nat → Option α} {P : α → Prop} {r : α} (h : Ev g r) (hp : P r) : Tot g P := ⟨r, h, hp⟩
theorem tot_some {α : Type} {r : α} {P : α → Prop} (h : P r) : Tot (fun _ => some r) P := ⟨r, Ev.now r, h⟩
theorem tot_bind {α β : Type} {g : Nat → Option α} {f : Nat → α → Option β} {P : α → Prop} {Q : β → Prop} (h : Tot g P) (k : ∀ a, P a → Tot (fun n => f n a) Q) : Tot (fun n => (g n).bind (f n)) Q := by
 obtain ⟨a, ha, hp⟩ := h
 obtain ⟨r, hr, hq⟩ := k a hp
 exact ⟨r, Ev.bind ha hr, hq⟩
theorem tot_bind0 {α β : Type} {o : Option α} {f : Nat → α → Option β} {P : α → Prop} {Q : β → Prop} (h : ∃ a, o = some a ∧ P a) (k : ∀ a, P a → Tot (fun n => f n a) Q) : Tot (fun n => o.bind (f n)) Q := by
 obtain ⟨a, ha, hp⟩ := h
 subst ha
 exact k a hp
theorem tot_pos {α : Type} {c : Prop} [Decidable c] {g f : Nat → Option α} {P : α → Prop} (hc : c) (h : Tot g P) : Tot (fun k => if c then g k else f k) P := by
 simp only [if_pos hc]; exact h
theorem tot_neg {α : Type} {c : Prop} [Decidable c] {g f : Nat → Option α} {P : α → Prop} (hc : ¬ c) (h : Tot f P) : Tot (fun k => if c then g k else f k) P := by
 simp only [if_neg hc]; exact h
theorem tot_ite {α : Type} {c : Prop} [Decidable c] {g f : Nat → Option α} {P : α → Prop} (h : c → Tot g P) (h' : ¬ c → Tot f P) : Tot (fun k => if c then g k else f k) P := by
 by_cases hc : c
 ·exact tot_pos hc (h hc)
 ·exact tot_neg hc (h' hc)
theorem tot_succ {α : Type} {g : Nat → Option α} {P : α → Prop} (h : Tot (fun k => g (k + 1)) P) : Tot g P := by
 obtain ⟨r, hr, hp⟩ := h
 exact ⟨r, ev_succ hr, hp⟩
theorem tot_mono {α : Type} {g : Nat → Option α} {P Q : α → Prop} (h : Tot g P) (k : ∀ a, P a → Q a) : Tot g Q := by
 obtain ⟨r, hr, hp⟩ := h
 exact ⟨r, hr, k r hp⟩
theorem bits_and_le (x : Int) (m : Nat) (hm : m < 4611686018427387904) : 0 ≤ Go.bits .and .i64 x (m : Int) ∧ Go.bits .and .i64 x (m : Int) ≤ m := by
 have h : ∀ n : Nat, n ≤ m → IntKind.i64.wrap (n : Int) = n := by
  intro n hn
  simp only [IntKind.wrap, IntKind.bits, IntKind.signed, Bool.true_and, decide_eq_true_eq]
  split
  ·rename_i h
   have e : (2 : Int) ^ (64 - 1) = 9223372036854775808 := by decide
   have h2 : (n : Int) % 2 ^ 64 ≥ 2 ^ (64 - 1) := of_decide_eq_true h
   rw [e] at h2
   omega
  ·omega
 simp only [Go.bits]
 have hb : (BitVec.ofInt IntKind.i64.bits (m : Int)).toNat = m := by
  simp only [BitVec.ofInt_natCast, BitVec.toNat_ofNat, IntKind.bits]
  exact Nat.mod_eq_of_lt (by omega)
 have hle : ((BitVec.ofInt IntKind.i64.bits x) &&& (BitVec.ofInt IntKind.i64.bits (m : Int))).toNat ≤ m := by
  rw [BitVec.toNat_and, hb]; exact Nat.and_le_right
 rw [h _ hle]
 omega
def curOk (b : List Int) (i : Int) : Prop := 0 ≤ i ∧ b.length ≤ 1048576
theorem l1Byte_tot (b : List Int) (i h : Int) (hc : curOk b i) : ∃ r, spec_l1Byte.f b i h = some r ∧ 0 ≤ r.1 ∧ r.1 ≤ 255 ∧ curOk b r.2.1 := by
 obtain ⟨h0, hb⟩ := hc
 unfold spec_l1Byte.f
 by_cases hi : i < (b.length : Int)
 ·rw [if_pos hi, if_pos h0]
  have := bits_and_le ((wrap64 ((Go.bits .and .i64 (Go.bits .xor .i64 ((wrap64 ((wrap64 (h * 6364136223846793005)) + 1442695040888963407)) / 8589934592) ((wrap64 ((wrap64 (h * 6364136223846793005)) + 1442695040888963407)) / 35184372088832)) 255) + (wrap64 (rd b i))))) 255 (by omega)
  refine ⟨_, rfl, this.1, this.2, ?_, hb⟩
  simp only
  rw [wr1 h0 (by omega)]; omega
 ·rw [if_neg hi]
  have := bits_and_le (Go.bits .xor .i64 ((wrap64 ((wrap64 (h * 6364136223846793005)) + 1442695040888963407)) / 8589934592) ((wrap64 ((wrap64 (h * 6364136223846793005)) + 1442695040888963407)) / 35184372088832)) 255 (by omega)
  exact ⟨_, rfl, this.1, this.2, h0, hb⟩
theorem l1Below_tot (b : List Int) (i h n : Int) (hc : curOk b i) (h1 : 1 ≤ n) (h2 : n ≤ 256) : ∃ r, spec_l1Below.f b i h n = some r ∧ (0 ≤ r.1 ∧ r.1 < n) ∧ curOk b r.2.1 := by
 unfold spec_l1Below.f
 rw [if_neg (by omega), if_pos h2]
 obtain ⟨⟨x, i', h'⟩, e, hx0, hx1, hc'⟩ := l1Byte_tot b i h hc
 rw [e]
 simp only [Option.bind_some] at *
 rw [if_neg (by omega)]
 refine ⟨_, rfl, ?_, hc'⟩
 simp only
 rw [Int.tmod_eq_emod_of_nonneg hx0]
 exact ⟨Int.emod_nonneg _ (by omega), Int.emod_lt_of_pos _ (by omega)⟩
theorem l1PickInt_tot (b : List Int) (i h : Int) (l : List Int) (hc : curOk b i) (h1 : 1 ≤ l.length) (h2 : l.length ≤ 256) : ∃ r, spec_l1PickInt.f b i h l = some r ∧ r.1 ∈ l ∧ curOk b r.2.1 := by
 unfold spec_l1PickInt.f
 obtain ⟨⟨x, i', h'⟩, e, ⟨hx0, hx1⟩, hc'⟩ := l1Below_tot b i h (l.length : Int) hc (by omega) (by omega)
 rw [e]
 simp only [Option.bind_some] at *
 rw [if_pos hx0, if_pos hx1]
 refine ⟨_, rfl, ?_, hc'⟩
 simp only
 obtain ⟨n, rfl⟩ := Int.eq_ofNat_of_zero_le hx0
 exact rd_mem (by omega)
theorem l1New_l0 (l : List Int) (hn : l.length ≤ 1048576) (d : Nat) : ∀ (i : Nat) (h : Int), i + d = l.length → Tot (fun k => spec_l1New.l0 k l h (i : Int)) (fun r => r.1 = l ∧ r.2.1 = 0) := by
 induction d with
 | zero =>
  intro i h hi
  refine tot_succ ?_
  simp only [spec_l1New.l0]
  exact tot_neg (by omega) (tot_some ⟨rfl, rfl⟩)
 | succ d ih =>
  intro i h hi
  refine tot_succ ?_
  simp only [spec_l1New.l0, wr1 (show (0 : Int) ≤ (i : Int) by omega) (by omega)]
  exact tot_pos (by omega) (tot_ite (fun _ => tot_pos (by omega) (ih (i + 1) _ (by omega))) (fun _ => tot_some ⟨rfl, rfl⟩))
theorem l1New_tot (l : List Int) (hn : l.length ≤ 1048576) : Tot (fun k => spec_l1New.f k l) (fun r => r.1 = l ∧ r.2.1 = 0) := by
 simp only [spec_l1New.f]
 exact l1New_l0 l hn l.length 0 _ (by omega)
theorem l1In_eq (a b c : Int) : spec_l1In.f a b c = some (decide (b ≤ a ∧ a ≤ c)) := by
 unfold spec_l1In.f
 by_cases h : a ≥ b
 ·rw [if_pos h]; simp [show b ≤ a from h]
 ·rw [if_neg h]; simp [show ¬ b ≤ a from h]
theorem l1Once_tot (b : List Int) (i h n : Int) (hc : curOk b i) (h1 : 1 ≤ n) (h2 : n ≤ 256) : ∃ a, spec_l1Once.f b i h n = some a ∧ curOk b a.2.1 := by
 unfold spec_l1Once.f
 obtain ⟨r, e, _, hc⟩ := l1Below_tot b i h n hc h1 h2
 rw [e]
 exact ⟨_, rfl, hc⟩
theorem curAt0 {b : List Int} (h : b.length ≤ 1048576) : curOk b 0 := ⟨by omega, h⟩
theorem rdLL_at {l : List (List Int)} {i : Nat} (h : i < l.length) : rd_L2 l (i : Int) = l[i] := by
 simp [rd_L2, List.getD_eq_getElem?_getD, List.getElem?_eq_getElem h]
theorem rdLL_mem {l : List (List Int)} {i : Nat} (h : i < l.length) : rd_L2 l (i : Int) ∈ l := by rw [rdLL_at h]; exact List.getElem_mem h
def fit1 (l : List Int) : Prop := l.length ≤ 1048576
def fit2 (l : List (List Int)) : Prop := l.length ≤ 1048576 ∧ ∀ r ∈ l, fit1 r
theorem all_rd_true {p : Int → Bool} {l : List Int} (h : l.all p = true) {i : Nat} (hi : i < l.length) : p (rd l (i : Int)) = true := List.all_eq_true.1 h _ (rd_mem hi)
def inR (m x : Int) : Bool := decide (0 ≤ x ∧ x < m)
def seqRow (b m : Int) (r : List Int) : Bool := decide ((r.length : Int) = b) && r.all (inR m)
def outOk (x : Int) : Bool := decide (0 ≤ x ∧ x ≤ 3)
def isSeq (b : Int) (next : List (List Int)) (out : List Int) : Bool :=
 decide (2 ≤ b ∧ b ≤ 4) && decide (1 ≤ next.length ∧ next.length ≤ 16) && decide (out.length = next.length) && next.all (seqRow b next.length) && out.all outOk
theorem spec_seq_l2 (b : Int) (next : List (List Int)) (out : List Int) (h2 : fit1 out) (hr : next.all (seqRow b next.length) = true) (d : Nat) : ∀ i : Nat, i + d = out.length → (out.take i).all outOk = true →
  Ev (fun k => spec_IsSequence.l2 k (i : Int) b next out) (isSeq b next out) := by
 unfold fit1 at h2
 induction d with
 | zero =>
  intro i hi ht
  refine ev_succ ?_
  simp only [spec_IsSequence.l2, l1In_eq, Option.bind_some]
  rw [List.take_of_length_le (by omega)] at ht
  refine ev_neg (by omega) ?_
  unfold isSeq
  rw [hr, ht]
  by_cases hb : 2 ≤ b ∧ b ≤ 4
  ·rw [decide_eq_true hb]
   refine ev_pos (by simp) ?_
   by_cases hm : 1 ≤ next.length ∧ next.length ≤ 16
   ·rw [decide_eq_true hm]
    refine ev_pos (by simp; omega) (ev_some ?_)
    simp only [Bool.true_and, Bool.and_true]
    rw [Bool.eq_iff_iff]; simp; omega
   ·rw [decide_eq_false hm]
    exact ev_neg (by simp; omega) (ev_some (by simp))
  ·rw [decide_eq_false hb]
   exact ev_neg (by simp) (ev_some (by simp))
 | succ d ih =>
  intro i hi ht
  refine ev_succ ?_
  simp only [spec_IsSequence.l2, l1In_eq, Option.bind_some, wr1 (show (0 : Int) ≤ (i : Int) by omega) (by omega)]
  refine ev_pos (by omega) (ev_pos (by omega) (ev_ite (fun h => ih (i + 1) (by omega) ?_) (fun h => ev_some ?_)))
  ·rw [List.take_succ_eq_append_getElem (by omega), ← rd_get (by omega), List.all_append, ht]; simpa [outOk] using h
  ·symm
   unfold isSeq
   have : out.all outOk = false := by
    rw [Bool.eq_false_iff]
    intro hall
    exact h (by simpa [outOk] using all_rd_true hall (show i < out.length by omega))
   rw [this]; simp
theorem spec_seq_l1 (b : Int) (next : List (List Int)) (out : List Int) (hf : fit2 next) (a : Nat) (ha : a < next.length) (r : List Int) (hr : r = rd_L2 next (a : Int)) (R : Bool)
  (H : r.all (inR next.length) = true → Ev (fun k => spec_IsSequence.l0 k ((a + 1 : Nat) : Int) b next out) R) (H2 : r.all (inR next.length) = false → R = false) (d : Nat) : ∀ j : Nat, j + d = r.length → (r.take j).all (inR next.length) = true →
  Ev (fun k => spec_IsSequence.l1 k (a : Int) (j : Int) b next out) R := by
 have h1 := hf.1
 have h2 := hf.2 _ (rdLL_mem ha)
 rw [← hr] at h2
 unfold fit1 at h2
 induction d with
 | zero =>
  intro j hj ht
  refine ev_succ ?_
  simp only [spec_IsSequence.l1]
  rw [← hr, wr1 (show (0 : Int) ≤ (a : Int) by omega) (by omega)]
  rw [List.take_of_length_le (by omega)] at ht
  exact ev_pos (by omega) (ev_pos (by omega) (ev_neg (by omega) (H ht)))
 | succ d ih =>
  intro j hj ht
  refine ev_succ ?_
  simp only [spec_IsSequence.l1, wr1 (show (0 : Int) ≤ (j : Int) by omega) (by omega)]
  rw [← hr]
  have nope : ¬ (0 ≤ rd r (j : Int) ∧ rd r (j : Int) < (next.length : Int)) → R = false := by
   intro h
   refine H2 ?_
   rw [Bool.eq_false_iff]
   intro hall
   have := all_rd_true hall (show j < r.length by omega)
   simp only [inR, decide_eq_true_eq] at this
   exact h this
  refine ev_pos (by omega) (ev_pos (by omega) (ev_pos (by omega) (ev_pos (by omega) (ev_ite (fun h => ev_some (nope (by omega)).symm) (fun h => ev_ite (fun h' => ev_some (nope (by omega)).symm) (fun h' => ih (j + 1) (by omega) ?_))))))
  rw [List.take_succ_eq_append_getElem (by omega), ← rd_get (by omega), List.all_append, ht]
  simp only [List.all_cons, List.all_nil, inR, decide_eq_true (show 0 ≤ rd r (j : Int) ∧ rd r (j : Int) < (next.length : Int) by omega), Bool.and_self]
theorem spec_seq_l0 (b : Int) (next : List (List Int)) (out : List Int) (hf : fit2 next) (h2 : fit1 out) (d : Nat) : ∀ a : Nat, a + d = next.length → (next.take a).all (seqRow b next.length) = true →
  Ev (fun k => spec_IsSequence.l0 k (a : Int) b next out) (isSeq b next out) := by
 have h1 := hf.1
 induction d with
 | zero =>
  intro a hi ht
  refine ev_succ ?_
  simp only [spec_IsSequence.l0]
  rw [List.take_of_length_le (by omega)] at ht
  exact ev_neg (by omega) (spec_seq_l2 b next out h2 ht out.length 0 (by omega) (by simp))
 | succ d ih =>
  intro a hi ht
  refine ev_succ ?_
  simp only [spec_IsSequence.l0]
  have nope : seqRow b next.length (rd_L2 next (a : Int)) = false → isSeq b next out = false := by
   intro h
   have : next.all (seqRow b next.length) = false := by
    rw [Bool.eq_false_iff]
    intro hall
    rw [List.all_eq_true.1 hall _ (rdLL_mem (show a < next.length by omega))] at h
    cases h
   unfold isSeq
   rw [this]; simp
  refine ev_pos (by omega) (ev_pos (by omega) (ev_ite (fun h => ?_) (fun h => ev_some (nope ?_).symm)))
  ·refine spec_seq_l1 b next out hf a (by omega) _ rfl _ (fun hall => ih (a + 1) (by omega) ?_) (fun hall => nope ?_) (rd_L2 next (a : Int)).length 0 (by omega) (by simp)
   ·rw [List.take_succ_eq_append_getElem (by omega), ← rdLL_at (by omega), List.all_append, ht]
    simp only [List.all_cons, List.all_nil, seqRow, hall, decide_eq_true h, Bool.and_self]
   ·simp only [seqRow, hall, Bool.and_false]
  ·simp only [seqRow, decide_eq_false h, Bool.false_and]
theorem spec_IsSequence_ev (b : Int) (next : List (List Int)) (out : List Int) (h1 : fit2 next) (h2 : fit1 out) : Ev (fun k => spec_IsSequence.f k b next out) (isSeq b next out) := by
 simp only [spec_IsSequence.f]
 exact spec_seq_l0 b next out h1 h2 next.length 0 (by omega) (by simp)
theorem tmod_nat (a b : Nat) : Int.tmod (a : Int) (b : Int) = ((a % b : Nat) : Int) := by
 rw [Int.tmod_eq_emod_of_nonneg (by omega)]; exact (Int.natCast_emod a b).symm
theorem tdiv_nat (a b : Nat) : Int.tdiv (a : Int) (b : Int) = ((a / b : Nat) : Int) := by
 rw [Int.tdiv_eq_ediv_of_nonneg (by omega)]; exact (Int.natCast_ediv a b).symm
theorem gcd_step (a b : Nat) (h : b ≠ 0) : Nat.gcd a b = Nat.gcd b (a % b) := by
 rw [Nat.gcd_comm a b, Nat.gcd_rec b a, Nat.gcd_comm]
theorem slices_Reverse_l0 (l : List Int) (hn : l.length ≤ 4611686018427387904) (d : Nat) : ∀ (i : Nat) (x : List Int), l.length ≤ 2 * i + 2 * d → 2 * i ≤ l.length + 1 → x.length = l.length →
  (∀ t, t < l.length → x[t]? = if t < i ∨ l.length ≤ t + i then l[l.length - 1 - t]? else l[t]?) →
  Ev (fun k => slices_Reverse_int_int.l0 k x (i : Int) ((l.length : Int) - 1 - i)) l.reverse := by
 induction d with
 | zero =>
  intro i x hd hi hx hh
  refine ev_succ ?_
  simp only [slices_Reverse_int_int.l0]
  refine ev_neg (by omega) (ev_some ?_)
  apply List.ext_getElem?
  intro t
  by_cases ht : t < l.length
  ·rw [List.getElem?_reverse ht, hh t ht]
   split
   ·rfl
   ·omega
  ·rw [List.getElem?_eq_none (by omega), List.getElem?_eq_none (by simp; omega)]
 | succ d ih =>
  intro i x hd hi hx hh
  by_cases hlt : 2 * i < l.length - 1
  ·refine ev_succ ?_
   simp only [slices_Reverse_int_int.l0]
   refine ev_pos (by omega) (ev_pos (by omega) (ev_pos (by omega) (ev_pos (by omega) (ev_pos (by omega) ?_))))
   obtain ⟨j, hj⟩ : ∃ j : Nat, (l.length : Int) - 1 - i = (j : Int) := ⟨l.length - 1 - i, by omega⟩
   rw [hj, wr1 (by omega) (by omega), wr (n := (j : Int) - 1) (by omega) (by omega), Int.toNat_natCast, Int.toNat_natCast]
   rw [show (j : Int) - 1 = (l.length : Int) - 1 - ((i + 1 : Nat) : Int) by omega]
   refine ih (i + 1) _ (by omega) (by omega) (by simp [hx]) ?_
   intro t ht
   have hij : i < j := by omega
   have hjl : j < l.length := by omega
   have hxi := hh i (by omega)
   have hxj := hh j (by omega)
   rw [if_neg (by omega)] at hxi hxj
   have hri : rd x (i : Int) = l[i] := by rw [rd_nat, List.getD_eq_getElem?_getD, hxi, List.getElem?_eq_getElem (by omega)]; rfl
   have hrj : rd x (j : Int) = l[j] := by rw [rd_nat, List.getD_eq_getElem?_getD, hxj, List.getElem?_eq_getElem (by omega)]; rfl
   rw [hri, hrj, List.getElem?_set, List.length_set, List.getElem?_set]
   by_cases e1 : j = t
   ·subst e1
    rw [if_pos rfl, if_pos (by omega), if_pos (by omega), show l.length - 1 - j = i by omega, List.getElem?_eq_getElem]
   ·rw [if_neg e1]
    by_cases e2 : i = t
    ·subst e2
     rw [if_pos rfl, if_pos (by omega), if_pos (by omega), List.getElem?_eq_getElem (show l.length - 1 - i < l.length by omega)]
     congr 2; omega
    ·rw [if_neg e2, hh t ht]
     by_cases e3 : t < i ∨ l.length ≤ t + i
     ·rw [if_pos e3, if_pos (by omega)]
     ·rw [if_neg e3, if_neg (by omega)]
  ·refine ev_succ ?_
   simp only [slices_Reverse_int_int.l0]
   refine ev_neg (by omega) (ev_some ?_)
   apply List.ext_getElem?
   intro t
   by_cases ht : t < l.length
   ·rw [List.getElem?_reverse ht, hh t ht]
    split
    ·rfl
    ·congr 1; omega
   ·rw [List.getElem?_eq_none (by omega), List.getElem?_eq_none (by simp; omega)]
theorem slices_Reverse_ev (l : List Int) (hn : l.length ≤ 4611686018427387904) : Ev (fun k => slices_Reverse_int_int.f k l) l.reverse := by
 simp only [slices_Reverse_int_int.f]
 rw [wr (n := (l.length : Int) - 1) (by omega) (by omega)]
 have := slices_Reverse_l0 l hn l.length 0 l (by omega) (by omega) rfl (by intro t ht; rw [if_neg (by omega)])
 simpa using this
def digsF : Nat → Nat → Nat → List Int
 | 0, _, _ => []
 | f + 1, n, b => if n = 0 then [] else digsF f (n / b) b ++ [((n % b : Nat) : Int)]
theorem digsF_more (f : Nat) : ∀ (g n b : Nat), 2 ≤ b → n ≤ f → f ≤ g → digsF f n b = digsF g n b := by
 induction f with
 | zero =>
  intro g n b hb hn hg
  obtain rfl : n = 0 := by omega
  cases g with
  | zero => rfl
  | succ g => simp [digsF]
 | succ f ih =>
  intro g n b hb hn hg
  obtain ⟨g, rfl⟩ : ∃ g', g = g' + 1 := ⟨g - 1, by omega⟩
  simp only [digsF]
  by_cases h0 : n = 0
  ·rw [if_pos h0, if_pos h0]
  ·rw [if_neg h0, if_neg h0]
   have : n / b < n := Nat.div_lt_self (by omega) (by omega)
   rw [ih g (n / b) b hb (by omega) (by omega)]
def digs (n b : Nat) : List Int := digsF n n b
theorem digs_pos (n b : Nat) (hb : 2 ≤ b) (h : n ≠ 0) : digs n b = digs (n / b) b ++ [((n % b : Nat) : Int)] := by
 unfold digs
 obtain ⟨m, rfl⟩ : ∃ m, n = m + 1 := ⟨n - 1, by omega⟩
 conv => lhs; unfold digsF
 rw [if_neg h]
 have : (m + 1) / b < m + 1 := Nat.div_lt_self (by omega) (by omega)
 rw [digsF_more ((m + 1) / b) m ((m + 1) / b) b hb (Nat.le_refl _) (by omega)]
theorem digs_zero (b : Nat) : digs 0 b = [] := rfl
theorem digs_mem (b : Nat) (hb : 2 ≤ b) (f : Nat) : ∀ n, n ≤ f → ∀ x ∈ digs n b, 0 ≤ x ∧ x < (b : Int) := by
 induction f with
 | zero =>
  intro n hn x hx; obtain rfl : n = 0 := by omega
  cases hx
 | succ f ih =>
  intro n hn x hx
  by_cases h0 : n = 0
  ·subst h0; cases hx
  ·rw [digs_pos n b hb h0] at hx
   have : n / b < n := Nat.div_lt_self (by omega) (by omega)
   rcases List.mem_append.1 hx with hx | hx
   ·exact ih (n / b) (by omega) x hx
   ·simp only [List.mem_cons, List.not_mem_nil, or_false] at hx
    have := Nat.mod_lt n (show b > 0 by omega)
    omega
theorem digs_len (b : Nat) (hb : 2 ≤ b) (e : Nat) : ∀ n, n < b ^ e → (digs n b).length ≤ e := by
 induction e with
 | zero => intro n hn; simp at hn; subst hn; simp [digs_zero]
 | succ e ih =>
  intro n hn
  by_cases h0 : n = 0
  ·subst h0; simp [digs_zero]
  ·rw [digs_pos n b hb h0]
   have : n / b < b ^ e := by
    rw [Nat.div_lt_iff_lt_mul (by omega)]
    rw [Nat.pow_succ] at hn; exact hn
   have := ih _ this
   simp; omega
def walkS (next : List (List Int)) (s : Int) : List Int → Int
 | [] => s
 | d :: l => walkS next (rd (rd_L2 next s) d) l
theorem isSeq_facts {b : Int} {next : List (List Int)} {out : List Int} (h : isSeq b next out = true) : (2 ≤ b ∧ b ≤ 4) ∧ (1 ≤ next.length ∧ next.length ≤ 16) ∧ out.length = next.length ∧
  (∀ r ∈ next, (r.length : Int) = b ∧ ∀ x ∈ r, 0 ≤ x ∧ x < (next.length : Int)) ∧ ∀ x ∈ out, 0 ≤ x ∧ x ≤ 3 := by
 unfold isSeq at h
 simp only [Bool.and_eq_true, decide_eq_true_eq, List.all_eq_true] at h
 obtain ⟨⟨⟨⟨h1, h2⟩, h3⟩, h4⟩, h5⟩ := h
 refine ⟨h1, h2, h3, fun r hr => ?_, fun x hx => by simpa [outOk] using h5 x hx⟩
 have := h4 r hr
 simp only [seqRow, Bool.and_eq_true, decide_eq_true_eq, List.all_eq_true] at this
 exact ⟨this.1, fun x hx => by simpa [inR] using this.2 x hx⟩
theorem walk_step {b : Int} {next : List (List Int)} {out : List Int} (h : isSeq b next out = true) {s d : Int} (hs : 0 ≤ s ∧ s < (next.length : Int)) (hd : 0 ≤ d ∧ d < b) :
  d < ((rd_L2 next s).length : Int) ∧ 0 ≤ rd (rd_L2 next s) d ∧ rd (rd_L2 next s) d < (next.length : Int) := by
 obtain ⟨_, _, _, h4, _⟩ := isSeq_facts h
 obtain ⟨i, rfl⟩ := Int.eq_ofNat_of_zero_le hs.1
 obtain ⟨j, rfl⟩ := Int.eq_ofNat_of_zero_le hd.1
 have hr := h4 _ (rdLL_mem (show i < next.length by omega))
 exact ⟨by omega, hr.2 _ (rd_mem (by omega))⟩
theorem walkS_in {b : Int} {next : List (List Int)} {out : List Int} (h : isSeq b next out = true) : ∀ (l : List Int) (s : Int), 0 ≤ s ∧ s < (next.length : Int) → (∀ x ∈ l, 0 ≤ x ∧ x < b) → 0 ≤ walkS next s l ∧ walkS next s l < (next.length : Int) := by
 intro l
 induction l with
 | nil => intro s hs _; exact hs
 | cons d l ih =>
  intro s hs hl
  exact ih _ (walk_step h hs (hl d (by simp))).2 (fun x hx => hl x (by simp [hx]))
def termN (b : Nat) (next : List (List Int)) (out : List Int) (n : Nat) : Int := rd out (walkS next 0 (digs n b))
theorem pow_bd {b e : Nat} (hb : b ≤ 4) (he : e ≤ 16) : b ^ e ≤ 4294967296 := by
 refine Nat.le_trans (Nat.pow_le_pow_left hb e) (Nat.le_trans (Nat.pow_le_pow_right (by omega) he) ?_)
 decide
theorem spec_PowerOf_l0 (b e : Nat) (hb : b ≤ 4) (he : e ≤ 16) (d : Nat) : ∀ i : Nat, i + d = e → Ev (fun k => spec_PowerOf.l0 k (b : Int) (e : Int) ((b ^ i : Nat) : Int) (i : Int)) ((b ^ e : Nat) : Int) := by
 induction d with
 | zero =>
  intro i hi
  refine ev_succ ?_
  simp only [spec_PowerOf.l0]
  exact ev_neg (by omega) (ev_some (by rw [show i = e by omega]))
 | succ d ih =>
  intro i hi
  have := ih (i + 1) (by omega)
  have h1 := pow_bd hb (show i + 1 ≤ 16 by omega)
  refine ev_succ ?_
  simp only [spec_PowerOf.l0]
  rw [← Int.natCast_mul, ← Nat.pow_succ, wr_nat (show b ^ (i + 1) ≤ 4611686018427387904 by omega), wr1 (by omega) (by omega)]
  exact ev_pos (by omega) this
theorem spec_PowerOf16_ev (b : Nat) (hb1 : 2 ≤ b) (hb : b ≤ 4) : Ev (fun k => spec_PowerOf.f k (b : Int) 16) ((b ^ 16 : Nat) : Int) := by
 simp only [spec_PowerOf.f, l1In_eq, Option.bind_some]
 refine ev_pos (by simp; omega) (ev_succ ?_)
 simp only [spec_PowerOf.j0]
 refine ev_neg (by decide) ?_
 exact spec_PowerOf_l0 b 16 hb (Nat.le_refl _) 16 0 (by omega)
theorem spec_DigitsOf_l0 (b : Nat) (hb : 2 ≤ b) (hb2 : b ≤ 4) (f : Nat) : ∀ (n : Nat) (acc : List Int), n ≤ f → n ≤ 4294967296 → acc.length + f ≤ 8589934592 →
  Ev (fun k => spec_DigitsOf.l0 k (n : Int) (b : Int) acc) (digs n b ++ acc) := by
 induction f with
 | zero =>
  intro n acc hn hn2 ha
  obtain rfl : n = 0 := by omega
  refine ev_succ ?_
  simp only [spec_DigitsOf.l0]
  exact ev_neg (by omega) (ev_some (by simp [digs_zero]))
 | succ f ih =>
  intro n acc hn hn2 ha
  refine ev_succ ?_
  simp only [spec_DigitsOf.l0, tdiv_nat, tmod_nat, Option.bind_some]
  by_cases h0 : n = 0
  ·subst h0
   exact ev_neg (by omega) (ev_some (by simp [digs_zero]))
  ·have hlt : n / b < n := Nat.div_lt_self (by omega) (by omega)
   rw [wr_nat (show n / b ≤ 4611686018427387904 by omega)]
   refine ev_pos (by omega) (ev_neg (by omega) (ev_pos (by simp only [List.length_cons, List.length_nil]; omega) (ev_eq (ih (n / b) _ (by omega) (by omega) (by simp; omega)) ?_)))
   rw [digs_pos n b hb h0]; simp
theorem spec_DigitsOf_ev (n b : Nat) (hb : 2 ≤ b) (hb2 : b ≤ 4) (hn : n < b ^ 16) : Ev (fun k => spec_DigitsOf.f k (n : Int) (b : Int)) (digs n b) := by
 have hp := pow_bd hb2 (show 16 ≤ 16 by omega)
 simp only [spec_DigitsOf.f, l1In_eq, Option.bind_some]
 refine ev_neg (by omega) (ev_pos (by simp; omega) (ev_bind (spec_PowerOf16_ev b hb hb2) ?_))
 rw [decide_eq_false (by omega)]
 refine ev_succ ?_
 simp only [spec_DigitsOf.j0]
 exact ev_neg (by simp) (ev_eq (spec_DigitsOf_l0 b hb hb2 n n [] (Nat.le_refl _) (by omega) (by simp; omega)) (by simp))
theorem spec_AreDigits_l0 (l : List Int) (b : Int) (hb : 2 ≤ b ∧ b ≤ 4) (hl : ∀ x ∈ l, 0 ≤ x ∧ x < b) (hn : l.length ≤ 16) (d : Nat) : ∀ (i : Nat), i + d = l.length → Ev (fun k => spec_AreDigits.l0 k l b (i : Int)) true := by
 induction d with
 | zero =>
  intro i hi
  refine ev_succ ?_
  simp only [spec_AreDigits.l0, l1In_eq, Option.bind_some]
  exact ev_neg (by omega) (ev_pos (by simpa using hb) (ev_some (by simp; omega)))
 | succ d ih =>
  intro i hi
  have hd := hl _ (rd_mem (show i < l.length by omega))
  refine ev_succ ?_
  simp only [spec_AreDigits.l0, wr1 (show (0 : Int) ≤ (i : Int) by omega) (by omega)]
  exact ev_pos (by omega) (ev_pos (by omega) (ev_neg (by omega) (ev_neg (by omega) (ih (i + 1) (by omega)))))
theorem spec_after_l0 {b : Int} {next : List (List Int)} {out : List Int} (h : isSeq b next out = true) (l : List Int) (hn : l.length ≤ 1048576) (hl : ∀ x ∈ l, 0 ≤ x ∧ x < b) (d : Nat) : ∀ (i : Nat) (s : Int), i + d = l.length → 0 ≤ s ∧ s < (next.length : Int) →
  Ev (fun k => spec_StateAfter.l0 k l s (i : Int) b next out) (walkS next s (l.drop i)) := by
 induction d with
 | zero =>
  intro i s hi hs
  refine ev_succ ?_
  simp only [spec_StateAfter.l0]
  refine ev_neg (by omega) (ev_some ?_)
  rw [List.drop_of_length_le (by omega)]; rfl
 | succ d ih =>
  intro i s hi hs
  have hd := hl _ (rd_mem (show i < l.length by omega))
  have hw := walk_step h hs hd
  refine ev_succ ?_
  simp only [spec_StateAfter.l0, wr1 (show (0 : Int) ≤ (i : Int) by omega) (by omega)]
  rw [drop_rd (show i < l.length by omega)]
  exact ev_pos (by omega) (ev_pos hs.1 (ev_pos hs.2 (ev_pos (by omega) (ev_pos hd.1 (ev_pos hw.1 (ih (i + 1) _ (by omega) hw.2))))))
theorem spec_StateAfter_ev {b : Int} {next : List (List Int)} {out : List Int} (h : isSeq b next out = true) (h1 : fit2 next) (h2 : fit1 out) (l : List Int) (hn : l.length ≤ 16) (hl : ∀ x ∈ l, 0 ≤ x ∧ x < b) :
  Ev (fun k => spec_StateAfter.f k b next out l) (walkS next 0 l) := by
 simp only [spec_StateAfter.f, spec_AreDigits.f]
 have hb := (isSeq_facts h).1
 have hm := (isSeq_facts h).2.1
 refine ev_bind (spec_IsSequence_ev b next out h1 h2) (ev_pos h (ev_bind (spec_AreDigits_l0 l b hb hl hn l.length 0 (by omega)) (ev_succ ?_)))
 simp only [spec_StateAfter.j0]
 exact ev_neg (by simp) (spec_after_l0 h l (by omega) hl l.length 0 0 (by omega) ⟨by omega, by omega⟩)
theorem spec_TermAt_ev {b : Nat} {next : List (List Int)} {out : List Int} (h : isSeq (b : Int) next out = true) (h1 : fit2 next) (h2 : fit1 out) (n : Nat) (hn : n < b ^ 16) : Ev (fun k => spec_TermAt.f k (b : Int) next out (n : Int)) (termN b next out n) := by
 obtain ⟨g1, g2, g3, g4, g5⟩ := isSeq_facts h
 have hm := digs_mem b (by omega) n n (Nat.le_refl _)
 have hl := digs_len b (by omega) 16 n hn
 simp only [spec_TermAt.f]
 refine ev_neg (by omega) (ev_bind (spec_IsSequence_ev _ next out h1 h2) (ev_pos h (ev_bind (spec_PowerOf16_ev b (by omega) (by omega)) ?_)))
 rw [decide_eq_false (by omega)]
 refine ev_succ ?_
 simp only [spec_TermAt.j0]
 refine ev_neg (by simp) (ev_bind (spec_DigitsOf_ev n b (by omega) (by omega) hn) (ev_bind (spec_StateAfter_ev h h1 h2 _ hl hm) ?_))
 have hw := walkS_in h (digs n b) 0 ⟨by omega, by omega⟩ hm
 exact ev_pos hw.1 (ev_pos (by omega) (ev_some rfl))
def areL (m : Int) (l : List Int) : Bool := l.all fun x => decide (0 ≤ x ∧ x < m)
theorem impl_areLetters_l0 (l : List Int) (m : Int) (hn : l.length ≤ 4611686018427387904) (d : Nat) : ∀ (i : Nat), i + d = l.length →
  Ev (fun k => impl_areLetters.l0 k m l (l.length : Int) (i : Int)) (areL m (l.drop i)) := by
 induction d with
 | zero =>
  intro i hi
  refine ev_succ ?_
  simp only [impl_areLetters.l0]
  refine ev_neg (by omega) (ev_some ?_)
  rw [List.drop_of_length_le (by omega)]; rfl
 | succ d ih =>
  intro i hi
  refine ev_succ ?_
  simp only [impl_areLetters.l0, wr1 (show (0 : Int) ≤ (i : Int) by omega) (by omega)]
  refine ev_pos (by omega) (ev_pos (by omega) (ev_pos (by omega) ?_))
  rw [drop_rd (by omega : i < l.length)]
  refine ev_ite (fun h => ev_some ?_) (fun h => ev_ite (fun h' => ev_some ?_) (fun h' => ev_eq (ih (i + 1) (by omega)) ?_))
  ·simp only [areL, List.all_cons, decide_eq_false (show ¬ (0 ≤ rd l (i : Int) ∧ rd l (i : Int) < m) by omega), Bool.false_and]
  ·simp only [areL, List.all_cons, decide_eq_false (show ¬ (0 ≤ rd l (i : Int) ∧ rd l (i : Int) < m) by omega), Bool.false_and]
  ·simp only [areL, List.all_cons, decide_eq_true (show (0 ≤ rd l (i : Int) ∧ rd l (i : Int) < m) by omega), Bool.true_and]
theorem impl_areLetters_ev (l : List Int) (m : Int) (hn : l.length ≤ 4611686018427387904) : Ev (fun k => impl_areLetters.f k l m) (areL m l) := by
 simp only [impl_areLetters.f]
 exact impl_areLetters_l0 l m hn l.length 0 (by omega)
theorem spec_IsWord_l0 (l : List Int) (m : Int) (hn : l.length ≤ 4611686018427387904) (d : Nat) : ∀ (i : Nat), i + d = l.length →
  Ev (fun k => spec_IsWord.l0 k l m (i : Int)) (areL m (l.drop i) && decide (1 ≤ m ∧ m ≤ 16) && decide ((l.length : Int) ≤ 400)) := by
 induction d with
 | zero =>
  intro i hi
  refine ev_succ ?_
  simp only [spec_IsWord.l0, l1In_eq, Option.bind_some]
  refine ev_neg (by omega) ?_
  rw [List.drop_of_length_le (by omega)]
  refine ev_ite (fun h => ev_some ?_) (fun h => ev_some ?_)
  ·rw [h]; rfl
  ·rw [Bool.not_eq_true] at h; rw [h]; rfl
 | succ d ih =>
  intro i hi
  refine ev_succ ?_
  simp only [spec_IsWord.l0, wr1 (show (0 : Int) ≤ (i : Int) by omega) (by omega)]
  refine ev_pos (by omega) (ev_pos (by omega) ?_)
  rw [drop_rd (by omega : i < l.length)]
  refine ev_ite (fun h => ev_some ?_) (fun h => ev_ite (fun h' => ev_some ?_) (fun h' => ev_eq (ih (i + 1) (by omega)) ?_))
  ·simp only [areL, List.all_cons, decide_eq_false (show ¬ (0 ≤ rd l (i : Int) ∧ rd l (i : Int) < m) by omega), Bool.false_and]
  ·simp only [areL, List.all_cons, decide_eq_false (show ¬ (0 ≤ rd l (i : Int) ∧ rd l (i : Int) < m) by omega), Bool.false_and]
  ·simp only [areL, List.all_cons, decide_eq_true (show (0 ≤ rd l (i : Int) ∧ rd l (i : Int) < m) by omega), Bool.true_and]
theorem spec_IsWord_ev (l : List Int) (m : Int) (hn : l.length ≤ 4611686018427387904) : Ev (fun k => spec_IsWord.f k l m) (areL m l && decide (1 ≤ m ∧ m ≤ 16) && decide ((l.length : Int) ≤ 400)) := by
 simp only [spec_IsWord.f]
 exact spec_IsWord_l0 l m hn l.length 0 (by omega)
def lettersW (m : Int) (n : Nat) (y : List Int) : Prop := y.length ≤ n ∧ ∀ x ∈ y, 0 ≤ x ∧ x < m
theorem l7Word8_l0 (m : Int) (hm : 1 ≤ m ∧ m ≤ 256) (b : List Int) (d : Nat) : ∀ (acc : List Int) (n : Nat) (i h : Int), n = d → curOk b i → acc.length + n ≤ 11 → (∀ x ∈ acc, 0 ≤ x ∧ x < m) →
  Tot (fun k => spec_l7Word.l0 k m acc (n : Int) b i h) (fun r => lettersW m 11 r.1 ∧ curOk b r.2.1) := by
 induction d with
 | zero =>
  intro acc n i h hn hc hl ha
  subst hn
  refine tot_succ ?_
  simp only [spec_l7Word.l0]
  exact tot_neg (by omega) (tot_some ⟨⟨by simp only; omega, ha⟩, hc⟩)
 | succ d ih =>
  intro acc n i h hn hc hl ha
  subst hn
  have hs : wrap64 (((d + 1 : Nat) : Int) - 1) = (d : Int) := by rw [wr (by omega) (by omega)]; omega
  refine tot_succ ?_
  simp only [spec_l7Word.l0, hs]
  refine tot_pos (by omega) ?_
  refine tot_bind0 (l1Below_tot b i h m hc hm.1 hm.2) (fun r hr => ?_)
  refine tot_pos (by omega) (ih _ d _ _ rfl hr.2 (by simp; omega) (fun x hx => ?_))
  rcases List.mem_append.1 hx with hx | hx
  ·exact ha x hx
  ·have : x = r.1 := by simpa using hx
   omega
theorem l7Word8_tot (m : Int) (hm : 1 ≤ m ∧ m ≤ 256) (b : List Int) (i h : Int) (hc : curOk b i) : Tot (fun k => spec_l7Word.f k b i h m) (fun r => lettersW m 11 r.1 ∧ curOk b r.2.1) := by
 simp only [spec_l7Word.f]
 refine tot_bind0 (l1Below_tot b i h 12 hc (by omega) (by omega)) (fun r hr => ?_)
 obtain ⟨n, hn⟩ := Int.eq_ofNat_of_zero_le hr.1.1
 rw [hn]
 exact l7Word8_l0 m hm b n [] n _ _ rfl hr.2 (by simp; omega) (by simp)
def seqSmall (next : List (List Int)) (out : List Int) : Prop := fit2 next ∧ fit1 out
theorem l3r_l1 (b : List Int) (bs m : Nat) (hb : bs ≤ 4) (hm : 1 ≤ m ∧ m ≤ 16) (st : Nat) (rows : List (List Int)) (out : List Int) (hr : rows.length ≤ 16) (ho : out.length ≤ 16) (base : Int) {Q : Int × List (List Int) × List Int × Int × Int → Prop}
  (H : ∀ (row : List Int) (x : Int) (i h : Int), row.length = bs → curOk b i → Tot (fun k => spec_l3Random.l0 k (bs : Int) (m : Int) ((st : Nat) : Int) b i h base (rows ++ [row]) (out ++ [x])) Q) (stp : Int) (hst : wrap64 (stp + 1) = (st : Int)) (d : Nat) :
  ∀ (row : List Int) (j : Nat) (i h : Int), j + d = bs → row.length = j → curOk b i → Tot (fun k => spec_l3Random.l1 k (bs : Int) (m : Int) stp row (j : Int) b i h base rows out) Q := by
 induction d with
 | zero =>
  intro row j i h hj hl hc
  refine tot_succ ?_
  simp only [spec_l3Random.l1]
  refine tot_neg (by omega) (tot_pos (by omega) ?_)
  refine tot_bind0 (l1Below_tot b i h 2 hc (by omega) (by omega)) (fun r1 hr1 => ?_)
  rw [wr (by omega) (by omega)]
  refine tot_bind0 (l1Below_tot b _ _ _ hr1.2 (by omega) (by omega)) (fun r2 hr2 => ?_)
  rw [hst]
  exact tot_pos (by omega) (H row _ _ _ (by omega) hr2.2)
 | succ d ih =>
  intro row j i h hj hl hc
  refine tot_succ ?_
  simp only [spec_l3Random.l1, wr1 (show (0 : Int) ≤ (j : Int) by omega) (by omega)]
  refine tot_pos (by omega) (tot_bind0 (l1Below_tot b i h m hc (by omega) (by omega)) (fun r hr => ?_))
  exact tot_pos (by omega) (ih _ (j + 1) _ _ (by omega) (by simp; omega) hr.2)
theorem l3r_l0 (b : List Int) (bs m : Nat) (hb : 1 ≤ bs ∧ bs ≤ 4) (hm : 1 ≤ m ∧ m ≤ 16) (base : Int) (d : Nat) :
  ∀ (rows : List (List Int)) (out : List Int) (st : Nat) (i h : Int), st + d = m → rows.length = st → out.length = st → (∀ r ∈ rows, r.length = bs) → curOk b i →
  Tot (fun k => spec_l3Random.l0 k (bs : Int) (m : Int) (st : Int) b i h base rows out) (fun r => r.1 = base ∧ seqSmall r.2.1 r.2.2.1 ∧ curOk b r.2.2.2.1) := by
 induction d with
 | zero =>
  intro rows out st i h hs hr ho hl hc
  refine tot_succ ?_
  simp only [spec_l3Random.l0]
  refine tot_neg (by omega) (tot_bind0 (l1Once_tot b i h 2 hc (by omega) (by omega)) (fun r1 hr1 => ?_))
  have hsm : seqSmall rows out := ⟨⟨by omega, fun r h => by unfold fit1; rw [hl r h]; omega⟩, by unfold fit1; omega⟩
  refine tot_ite (fun _ => ?_) (fun _ => tot_some ⟨rfl, hsm, hr1⟩)
  have h0 : rows.getD 0 [] ∈ rows := by
   rw [List.getD_eq_getElem?_getD, List.getElem?_eq_getElem (show 0 < rows.length by omega)]
   exact List.getElem_mem _
  refine tot_pos (by omega) (tot_pos (by rw [hl _ h0]; omega) (tot_some ⟨rfl, ⟨⟨by simp only [List.length_set]; omega, fun r h => ?_⟩, hsm.2⟩, hr1⟩))
  rcases List.mem_or_eq_of_mem_set h with h | h
  ·exact hsm.1.2 r h
  ·subst h; unfold fit1; rw [List.length_set, hl _ h0]; omega
 | succ d ih =>
  intro rows out st i h hs hr ho hl hc
  refine tot_succ ?_
  simp only [spec_l3Random.l0]
  refine tot_pos (by omega) ?_
  have hw := wr1 (show (0 : Int) ≤ (st : Int) by omega) (by omega)
  refine l3r_l1 b bs m hb.2 hm (st + 1) rows out (by omega) (by omega) base (fun row x i h hrow hc => ?_) (st : Int) (by rw [hw]; omega) bs [] 0 i h (by omega) rfl hc
  refine ih _ _ (st + 1) i h (by omega) (by simp; omega) (by simp; omega) (fun r hr => ?_) hc
  rcases List.mem_append.1 hr with hr | hr
  ·exact hl r hr
  ·have : r = row := by simpa using hr
   rw [this]; exact hrow
theorem l3Random_tot (b : List Int) (i h : Int) (bs m : Nat) (hb : 1 ≤ bs ∧ bs ≤ 4) (hm : 1 ≤ m ∧ m ≤ 16) (hc : curOk b i) : Tot (fun k => spec_l3Random.f k b i h (bs : Int) (m : Int)) (fun r => r.1 = (bs : Int) ∧ seqSmall r.2.1 r.2.2.1 ∧ curOk b r.2.2.2.1) := by
 simp only [spec_l3Random.f]
 exact l3r_l0 b bs m hb hm _ m [] [] 0 i h (by omega) rfl rfl (by simp) hc
theorem l1Pick_tot (b : List Int) (i h : Int) (l : List ByteArray) (hc : curOk b i) (h1 : 1 ≤ l.length) (h2 : l.length ≤ 256) : ∃ r, spec_l1Pick.f b i h l = some r ∧ curOk b r.2.1 := by
 unfold spec_l1Pick.f
 obtain ⟨⟨x, i', h'⟩, e, ⟨hx0, hx1⟩, hc'⟩ := l1Below_tot b i h (l.length : Int) hc (by omega) (by omega)
 rw [e]
 simp only [Option.bind_some] at *
 rw [if_pos hx0, if_pos hx1]
 exact ⟨_, rfl, hc'⟩
theorem named_tot (s : ByteArray) : ∃ r, spec_NamedSequence.f s = some r ∧ seqSmall r.2.1 r.2.2.1 := by
 have key : ∀ (a : Int) (n : List (List Int)) (o : List Int) (t : Bool), (n.length ≤ 4 ∧ (∀ r ∈ n, r.length ≤ 4) ∧ o.length ≤ 4) → ∃ r, (some (a, n, o, t) : Option (Int × List (List Int) × List Int × Bool)) = some r ∧ seqSmall r.2.1 r.2.2.1 :=
  fun a n o t h => ⟨_, rfl, ⟨⟨by have := h.1; simp only; omega, fun r hr => by have := h.2.1 r hr; unfold fit1; omega⟩, by have := h.2.2; unfold fit1; simp only; omega⟩⟩
 unfold spec_NamedSequence.f
 repeat' split
 all_goals exact key _ _ _ _ (by decide)
theorem l3Draw_tot (b : List Int) (i h : Int) (hc : curOk b i) : Tot (fun k => spec_l3Draw.f k b i h) (fun r => seqSmall r.2.1 r.2.2.1 ∧ curOk b r.2.2.2.1) := by
 simp only [spec_l3Draw.f]
 refine tot_bind0 (l1Once_tot b i h 3 hc (by omega) (by omega)) (fun r1 hr1 => tot_ite (fun _ => ?_) (fun _ => ?_))
 ·refine tot_bind0 (l1Pick_tot b _ _ _ hr1 (by decide) (by decide)) (fun r2 hr2 => ?_)
  exact tot_bind0 (named_tot r2.1) (fun r3 hr3 => tot_some ⟨hr3, hr2⟩)
 ·refine tot_bind0 (l1Below_tot b _ _ 2 hr1 (by omega) (by omega)) (fun r2 hr2 => tot_bind0 (l1Below_tot b _ _ 5 hr2.2 (by omega) (by omega)) (fun r3 hr3 => ?_))
  obtain ⟨x, hx⟩ := Int.eq_ofNat_of_zero_le hr2.1.1
  obtain ⟨y, hy⟩ := Int.eq_ofNat_of_zero_le hr3.1.1
  rw [wr (by omega) (by omega), wr (by omega) (by omega), show 2 + r2.1 = ((2 + x : Nat) : Int) by omega, show 1 + r3.1 = ((1 + y : Nat) : Int) by omega]
  exact tot_bind (l3Random_tot b _ _ _ _ (by omega) (by omega) hr3.2) (fun r4 hr4 => tot_some hr4.2)
theorem termN_out {b : Nat} {next : List (List Int)} {out : List Int} (h : isSeq (b : Int) next out = true) (n : Nat) : 0 ≤ termN b next out n ∧ termN b next out n ≤ 3 := by
 obtain ⟨g1, g2, g3, g4, g5⟩ := isSeq_facts h
 have hw := walkS_in h (digs n b) 0 ⟨by omega, by omega⟩ (digs_mem b (by omega) n n (Nat.le_refl _))
 obtain ⟨j, hj⟩ := Int.eq_ofNat_of_zero_le hw.1
 unfold termN
 rw [hj]
 exact g5 _ (rd_mem (by omega))
theorem prefixOf_l0 (b : Int) (next : List (List Int)) (out : List Int) (hs : seqSmall next out) (n : Nat) (hn : n ≤ 256) (d : Nat) : ∀ (i : Nat) (acc : List Int), i + d = n → acc.length = i → (∀ x ∈ acc, 0 ≤ x ∧ x ≤ 3) →
  Tot (fun k => spec_PrefixOf.l0 k (n : Int) acc (i : Int) b next out) (fun r => r.length ≤ n ∧ ∀ x ∈ r, 0 ≤ x ∧ x ≤ 3) := by
 induction d with
 | zero =>
  intro i acc hi ha hx
  refine tot_succ ?_
  simp only [spec_PrefixOf.l0]
  exact tot_neg (by omega) (tot_some ⟨by omega, hx⟩)
 | succ d ih =>
  intro i acc hi ha hx
  refine tot_succ ?_
  simp only [spec_PrefixOf.l0, wr1 (show (0 : Int) ≤ (i : Int) by omega) (by omega)]
  refine tot_pos (by omega) (tot_pos (by omega) (tot_bind (tot_of (spec_IsSequence_ev b next out hs.1 hs.2) rfl) (fun t ht => tot_ite (fun h => ?_) (fun _ => tot_some ⟨by omega, hx⟩))))
  rw [← ht] at h
  have hb := (isSeq_facts h).1
  obtain ⟨c, rfl⟩ := Int.eq_ofNat_of_zero_le (show 0 ≤ b by omega)
  have hpow : i < c ^ 16 := Nat.lt_of_lt_of_le (show i < 2 ^ 16 by omega) (Nat.pow_le_pow_left (by omega) 16)
  refine tot_bind (tot_of (spec_TermAt_ev h hs.1 hs.2 i hpow) rfl) (fun v hv => tot_pos (by omega) (ih (i + 1) _ (by omega) (by simp; omega) (fun x hxx => ?_)))
  rcases List.mem_append.1 hxx with hxx | hxx
  ·exact hx x hxx
  ·have : x = v := by simpa using hxx
   rw [this, ← hv]; exact termN_out h i
theorem prefixOf_tot (b : Int) (next : List (List Int)) (out : List Int) (hs : seqSmall next out) (n : Nat) (hn : n ≤ 256) : Tot (fun k => spec_PrefixOf.f k b next out (n : Int)) (fun r => r.length ≤ n ∧ ∀ x ∈ r, 0 ≤ x ∧ x ≤ 3) := by
 simp only [spec_PrefixOf.f]
 exact prefixOf_l0 b next out hs n hn n 0 [] (by omega) rfl (by simp)
def mor (m : List (List Int)) : Prop := (1 ≤ m.length ∧ m.length ≤ 16) ∧ ∀ r ∈ m, r.length ≤ 8 ∧ ∀ x ∈ r, 0 ≤ x ∧ x < (m.length : Int)
def morFit (m : List (List Int)) : Prop := m.length ≤ 3 ∧ ∀ r ∈ m, r.length ≤ 4
theorem areL_mem {m : Int} {l : List Int} (h : areL m l = true) : ∀ x ∈ l, 0 ≤ x ∧ x < m := by
 unfold areL at h
 simp only [List.all_eq_true] at h
 intro x hx
 have := h x hx
 simp at this
 omega
theorem isMor_l0 (m : List (List Int)) (hf : morFit m) (d : Nat) : ∀ i : Nat, i + d = m.length → (∀ r ∈ m.take i, r.length ≤ 8 ∧ ∀ x ∈ r, 0 ≤ x ∧ x < (m.length : Int)) → Tot (fun k => spec_IsMorphism.l0 k (i : Int) m) (fun b => b = true → mor m) := by
 have hm := hf.1
 induction d with
 | zero =>
  intro i hi ht
  refine tot_succ ?_
  simp only [spec_IsMorphism.l0, l1In_eq, Option.bind_some]
  refine tot_neg (by omega) (tot_some (fun h => ⟨?_, ?_⟩))
  ·have := of_decide_eq_true h; omega
  ·rwa [List.take_of_length_le (by omega)] at ht
 | succ d ih =>
  intro i hi ht
  have hr := hf.2 _ (rdLL_mem (show i < m.length by omega))
  refine tot_succ ?_
  simp only [spec_IsMorphism.l0, wr1 (show (0 : Int) ≤ (i : Int) by omega) (by omega)]
  refine tot_pos (by omega) (tot_pos (by omega) (tot_bind (tot_of (spec_IsWord_ev (rd_L2 m (i : Int)) (m.length : Int) (by omega)) rfl) (fun t ht2 => ?_)))
  refine tot_ite (fun h => tot_ite (fun h8 => tot_some (fun e => by cases e)) (fun h8 => ih (i + 1) (by omega) (fun r hrm => ?_))) (fun _ => tot_some (fun e => by cases e))
  rw [List.take_succ_eq_append_getElem (by omega)] at hrm
  rcases List.mem_append.1 hrm with hrm | hrm
  ·exact ht r hrm
  ·have e : r = rd_L2 m (i : Int) := by rw [rdLL_at (by omega)]; simpa using hrm
   rw [← ht2] at h
   simp only [Bool.and_eq_true] at h
   subst e
   exact ⟨by omega, areL_mem h.1.1⟩
theorem isMor_tot (m : List (List Int)) (hf : morFit m) : Tot (fun k => spec_IsMorphism.f k m) (fun b => b = true → mor m) := by
 simp only [spec_IsMorphism.f]
 exact isMor_l0 m hf m.length 0 (by omega) (by simp)
def alive (m : List (List Int)) : Nat → Int → Bool
 | 0, _ => true
 | t + 1, x => (rd_L2 m x).any (alive m t)
theorem alive_down (m : List (List Int)) (t : Nat) : ∀ x, alive m (t + 1) x = true → alive m t x = true := by
 induction t with
 | zero => intro x _; rfl
 | succ t ih =>
  intro x h
  unfold alive at h ⊢
  rw [List.any_eq_true] at h ⊢
  obtain ⟨y, hy, ha⟩ := h
  exact ⟨y, hy, ih y ha⟩
def letters (m : List (List Int)) : List Int := (List.range m.length).map Int.ofNat
theorem mem_letters {m : List (List Int)} {x : Int} (h : 0 ≤ x ∧ x < (m.length : Int)) : x ∈ letters m := by
 unfold letters
 rw [List.mem_map]
 exact ⟨x.toNat, by rw [List.mem_range]; omega, by show ((x.toNat : Nat) : Int) = x; omega⟩
def still (m : List (List Int)) (t : Nat) : Prop := ∀ x ∈ letters m, alive m t x = true → alive m (t + 1) x = true
theorem filter_len_lt {l : List Int} {p q : Int → Bool} (h : ∀ x ∈ l, q x = true → p x = true) : (l.filter q).length ≤ (l.filter p).length ∧ ((l.filter q).length = (l.filter p).length → ∀ x ∈ l, p x = true → q x = true) := by
 induction l with
 | nil => exact ⟨Nat.le_refl _, fun _ x hx => by cases hx⟩
 | cons a l ih =>
  obtain ⟨h1, h2⟩ := ih (fun x hx => h x (List.mem_cons_of_mem _ hx))
  have ha := h a (List.mem_cons_self ..)
  by_cases hq : q a = true
  ·have hp := ha hq
   rw [List.filter_cons_of_pos hq, List.filter_cons_of_pos hp]
   refine ⟨by simp only [List.length_cons]; omega, fun e x hx => ?_⟩
   simp only [List.length_cons] at e
   rcases List.mem_cons.1 hx with rfl | hx
   ·intro _; exact hq
   ·exact h2 (by omega) x hx
  ·by_cases hp : p a = true
   ·rw [List.filter_cons_of_neg hq, List.filter_cons_of_pos hp]
    exact ⟨by simp only [List.length_cons]; omega, fun e => by simp only [List.length_cons] at e; omega⟩
   ·rw [List.filter_cons_of_neg hq, List.filter_cons_of_neg hp]
    refine ⟨h1, fun e x hx => ?_⟩
    rcases List.mem_cons.1 hx with rfl | hx
    ·intro h'; exact absurd h' hp
    ·exact h2 e x hx
theorem still_next {m : List (List Int)} (hm : mor m) {t : Nat} (h : still m t) : still m (t + 1) := by
 intro x hx ha
 unfold alive at ha ⊢
 rw [List.any_eq_true] at ha ⊢
 obtain ⟨y, hy, hya⟩ := ha
 refine ⟨y, hy, h y ?_ hya⟩
 unfold letters at hx
 rw [List.mem_map] at hx
 obtain ⟨i, hi, rfl⟩ := hx
 rw [List.mem_range] at hi
 exact mem_letters ((hm.2 _ (rdLL_mem hi)).2 y hy)
theorem still_or {m : List (List Int)} (hm : mor m) (t : Nat) : still m t ∨ ((letters m).filter (alive m t)).length + t ≤ m.length := by
 induction t with
 | zero =>
  refine .inr ?_
  have := List.length_filter_le (alive m 0) (letters m)
  have e : (letters m).length = m.length := by simp [letters]
  omega
 | succ t ih =>
  rcases ih with h | h
  ·exact .inl (still_next hm h)
  ·obtain ⟨h1, h2⟩ := filter_len_lt (l := letters m) (p := alive m t) (q := alive m (t + 1)) (fun x _ => alive_down m t x)
   by_cases e : ((letters m).filter (alive m (t + 1))).length = ((letters m).filter (alive m t)).length
   ·exact .inl (still_next hm (h2 e))
   ·exact .inr (by omega)
theorem still_at {m : List (List Int)} (hm : mor m) : still m m.length := by
 rcases still_or hm m.length with h | h
 ·exact h
 ·intro x hx ha
  have : x ∈ (letters m).filter (alive m m.length) := List.mem_filter.2 ⟨hx, ha⟩
  have := List.length_pos_of_mem this
  omega
theorem alive_next {m : List (List Int)} (hm : mor m) {x : Int} (hx : 0 ≤ x ∧ x < (m.length : Int)) (h : alive m m.length x = true) : ∃ y ∈ rd_L2 m x, alive m m.length y = true := by
 have h2 := still_at hm x (mem_letters hx) h
 unfold alive at h2
 rw [List.any_eq_true] at h2
 exact h2
theorem l4Has_l0 (l : List Int) (x : Int) (hn : l.length ≤ 1048576) (d : Nat) : ∀ i : Nat, i + d = l.length → Tot (fun k => spec_l4Has.l0 k l x (i : Int)) (fun _ => True) := by
 induction d with
 | zero =>
  intro i hi
  refine tot_succ ?_
  simp only [spec_l4Has.l0]
  exact tot_neg (by omega) (tot_some trivial)
 | succ d ih =>
  intro i hi
  refine tot_succ ?_
  simp only [spec_l4Has.l0, wr1 (show (0 : Int) ≤ (i : Int) by omega) (by omega)]
  exact tot_pos (by omega) (tot_pos (by omega) (tot_ite (fun _ => tot_some trivial) (fun _ => ih (i + 1) (by omega))))
theorem grow_l2 (m : List (List Int)) (hm : mor m) (rest : List Int) (hrest : ∀ x ∈ rest, 0 ≤ x ∧ x < (m.length : Int)) (n : Int) (i : Nat) (hi : i < rest.length) (hrl : rest.length ≤ 100000) {Q : Bool → Prop}
  (H : ∀ next : List Int, next.length ≤ 8 * (i + 1) → (∀ y ∈ next, ∃ x ∈ rest, y ∈ rd_L2 m x) → Tot (fun k => spec_IsGrowing.l1 k rest n next ((i + 1 : Nat) : Int) m) Q) (d : Nat) :
  ∀ (j : Nat) (next : List Int), j + d = (rd_L2 m (rd rest (i : Int))).length → next.length ≤ 8 * i + j → (∀ y ∈ next, ∃ x ∈ rest, y ∈ rd_L2 m x) → Tot (fun k => spec_IsGrowing.l2 k rest n next (i : Int) (j : Int) m) Q := by
 have hx := hrest _ (rd_mem hi)
 obtain ⟨a, ha⟩ := Int.eq_ofNat_of_zero_le hx.1
 have hrow := hm.2 _ (rdLL_mem (l := m) (i := a) (by omega))
 rw [← ha] at hrow
 induction d with
 | zero =>
  intro j next hj hl hn
  refine tot_succ ?_
  simp only [spec_IsGrowing.l2, wr1 (show (0 : Int) ≤ (i : Int) by omega) (by omega)]
  exact tot_pos (by omega) (tot_pos (by omega) (tot_pos hx.1 (tot_pos hx.2 (tot_neg (by omega) (H next (by omega) hn)))))
 | succ d ih =>
  intro j next hj hl hn
  refine tot_succ ?_
  simp only [spec_IsGrowing.l2, spec_l4Has.f, wr1 (show (0 : Int) ≤ (j : Int) by omega) (by omega)]
  refine tot_pos (by omega) (tot_pos (by omega) (tot_pos hx.1 (tot_pos hx.2 (tot_pos (by omega) (tot_pos (by omega) (tot_bind (l4Has_l0 next _ (by omega) next.length 0 (by omega)) (fun t _ => ?_)))))))
  refine tot_ite (fun _ => ih (j + 1) next (by omega) (by omega) hn) (fun _ => tot_pos (by omega) (ih (j + 1) _ (by omega) (by simp; omega) (fun y hy => ?_)))
  rcases List.mem_append.1 hy with hy | hy
  ·exact hn y hy
  ·have e : y = rd (rd_L2 m (rd rest (i : Int))) (j : Int) := by simpa using hy
   exact ⟨_, rd_mem hi, by rw [e]; exact rd_mem (by omega)⟩
theorem grow_l1 (m : List (List Int)) (hm : mor m) (rest : List Int) (hrest : ∀ x ∈ rest, 0 ≤ x ∧ x < (m.length : Int)) (n : Int) (hrl : rest.length ≤ 100000) {Q : Bool → Prop}
  (H : ∀ next : List Int, next.length ≤ 8 * rest.length → (∀ y ∈ next, ∃ x ∈ rest, y ∈ rd_L2 m x) → Tot (fun k => spec_IsGrowing.l0 k next (wrap64 (n + 1)) m) Q) (d : Nat) :
  ∀ (i : Nat) (next : List Int), i + d = rest.length → next.length ≤ 8 * i → (∀ y ∈ next, ∃ x ∈ rest, y ∈ rd_L2 m x) → Tot (fun k => spec_IsGrowing.l1 k rest n next (i : Int) m) Q := by
 induction d with
 | zero =>
  intro i next hi hl hn
  refine tot_succ ?_
  simp only [spec_IsGrowing.l1]
  exact tot_neg (by omega) (H next (by omega) hn)
 | succ d ih =>
  intro i next hi hl hn
  refine tot_succ ?_
  simp only [spec_IsGrowing.l1]
  exact tot_pos (by omega) (grow_l2 m hm rest hrest n i (by omega) hrl (fun nx hl2 hn2 => ih (i + 1) nx (by omega) (by omega) hn2) (rd_L2 m (rd rest (i : Int))).length 0 next (by omega) (by omega) hn)
theorem grow_l0 (m : List (List Int)) (hm : mor m) (h3 : m.length ≤ 3) (d : Nat) : ∀ (n : Nat) (rest : List Int), n + d = m.length + 1 → rest.length ≤ 8 ^ (n + 1) → (∀ x ∈ rest, 0 ≤ x ∧ x < (m.length : Int)) →
  Tot (fun k => spec_IsGrowing.l0 k rest (n : Int) m) (fun g => g = true → ∃ x ∈ rest, alive m d x = true) := by
 induction d with
 | zero =>
  intro n rest hn hl hr
  refine tot_succ ?_
  simp only [spec_IsGrowing.l0]
  refine tot_neg (by omega) (tot_some (fun h => ?_))
  have h := of_decide_eq_true h
  exact ⟨rd rest ((0 : Nat) : Int), rd_mem (by omega), rfl⟩
 | succ d ih =>
  intro n rest hn hl hr
  have h8 : 8 ^ (n + 1) ≤ 32768 := Nat.pow_le_pow_right (by omega) (show n + 1 ≤ 5 by omega)
  refine tot_succ ?_
  simp only [spec_IsGrowing.l0]
  refine tot_pos (by omega) (grow_l1 m hm rest hr (n : Int) (by omega) (fun next hl2 hn2 => ?_) rest.length 0 [] (by omega) (by simp) (by simp))
  rw [wr1 (by omega) (by omega)]
  refine tot_mono (ih (n + 1) next (by omega) (by rw [Nat.pow_succ]; omega) (fun y hy => ?_)) (fun g hg e => ?_)
  ·obtain ⟨x, hx, hy⟩ := hn2 y hy
   obtain ⟨a, ha⟩ := Int.eq_ofNat_of_zero_le (hr x hx).1
   rw [ha] at hy
   have := hr x hx
   exact (hm.2 _ (rdLL_mem (l := m) (i := a) (by omega))).2 y hy
  ·obtain ⟨y, hy, ha⟩ := hg e
   obtain ⟨x, hx, hxy⟩ := hn2 y hy
   exact ⟨x, hx, by unfold alive; rw [List.any_eq_true]; exact ⟨y, hxy, ha⟩⟩
def grows (m : List (List Int)) : Prop := mor m ∧ 2 ≤ (rd_L2 m 0).length ∧ rd (rd_L2 m 0) 0 = 0 ∧ ∃ x ∈ (rd_L2 m 0).drop 1, alive m m.length x = true
theorem grow_tot (m : List (List Int)) (hf : morFit m) : Tot (fun k => spec_IsGrowing.f k m 0) (fun g => g = true → grows m) := by
 have no : Tot (fun k => spec_IsGrowing.j0 k 0 true m) (fun g => g = true → grows m) := by
  refine tot_succ ?_
  simp only [spec_IsGrowing.j0]
  exact tot_pos trivial (tot_some (fun e => by cases e))
 have h3 := hf.1
 simp only [spec_IsGrowing.f]
 refine tot_bind (isMor_tot m hf) (fun t ht => tot_ite (fun h => ?_) (fun _ => no))
 have hm := ht h
 have h1 := hm.1
 refine tot_neg (by omega) (tot_neg (by omega) (tot_pos (by omega) (tot_pos (by omega) (tot_ite (fun _ => no) (fun h2 => tot_pos (by omega) ?_)))))
 have hr0 : rd_L2 m 0 = rd_L2 m ((0 : Nat) : Int) := rfl
 have hrow := hm.2 _ (rdLL_mem (l := m) (i := 0) (by omega))
 by_cases hz : rd (rd_L2 m 0) 0 = 0
 ·rw [hz]
  refine tot_succ ?_
  simp only [spec_IsGrowing.j0]
  refine tot_neg (by simp) (tot_pos (by omega) (tot_pos (by omega) (tot_pos (by omega) ?_)))
  refine tot_mono (grow_l0 m hm h3 (m.length + 1) 0 _ (by omega) (by rw [List.length_drop, hr0]; omega) (fun x hx => hrow.2 x (List.mem_of_mem_drop hx))) (fun g hg e => ⟨hm, by omega, hz, ?_⟩)
  obtain ⟨x, hx, ha⟩ := hg e
  exact ⟨x, hx, alive_down m m.length x ha⟩
 ·have : (rd (rd_L2 m 0) 0 != 0) = true := by simpa using hz
  rw [this]; exact no
theorem fixed8_l0 (m : List (List Int)) (hm : mor m) (n : Nat) (hn : n ≤ 256) (d : Nat) : ∀ (i : Nat) (w : List Int), i + d = 256 → (∀ x ∈ w, 0 ≤ x ∧ x < (m.length : Int)) → w.length ≤ 1048576 + 8 * i →
  (∃ j, i ≤ j ∧ j < w.length ∧ alive m m.length (rd w (j : Int)) = true) → Tot (fun k => spec_FixedPrefix.l0 k (n : Int) w (i : Int) m) (fun r => r.1.length ≤ n ∧ ∀ x ∈ r.1, 0 ≤ x ∧ x < (m.length : Int)) := by
 have fin : ∀ w : List Int, (∀ x ∈ w, 0 ≤ x ∧ x < (m.length : Int)) → (n : Int) ≤ (w.length : Int) → Tot (fun _ => if (0 : Int) ≤ (n : Int) then (if (n : Int) ≤ (w.length : Int) then (some (w.take (n : Int).toNat, true)) else none) else none) (fun r => r.1.length ≤ n ∧ ∀ x ∈ r.1, 0 ≤ x ∧ x < (m.length : Int)) := by
  intro w hw hl
  refine tot_pos (by omega) (tot_pos hl (tot_some ⟨?_, fun x hx => hw x (List.mem_of_mem_take hx)⟩))
  simp only [List.length_take]; omega
 induction d with
 | zero =>
  intro i w hi hw hl hj
  refine tot_succ ?_
  simp only [spec_FixedPrefix.l0]
  refine tot_neg (by omega) (tot_ite (fun _ => tot_some ⟨by simp, by simp⟩) (fun h => fin w hw (by omega)))
 | succ d ih =>
  intro i w hi hw hl hj
  obtain ⟨j, hj1, hj2, hj3⟩ := hj
  have hx := hw _ (rd_mem (show i < w.length by omega))
  obtain ⟨a, ha⟩ := Int.eq_ofNat_of_zero_le hx.1
  have hrow := hm.2 _ (rdLL_mem (l := m) (i := a) (by omega))
  rw [← ha] at hrow
  refine tot_succ ?_
  simp only [spec_FixedPrefix.l0, wr1 (show (0 : Int) ≤ (i : Int) by omega) (by omega)]
  refine tot_ite (fun h1 => tot_ite (fun h2 => ?_) (fun h2 => fin w hw (by omega))) (fun h1 => tot_ite (fun _ => tot_some ⟨by simp, by simp⟩) (fun h => fin w hw (by omega)))
  refine tot_pos (by omega) (tot_pos (by omega) (tot_pos hx.1 (tot_pos hx.2 (tot_pos (by omega) (ih (i + 1) _ (by omega) (fun x hxm => ?_) (by simp only [List.length_append]; omega) ?_)))))
  ·rcases List.mem_append.1 hxm with hxm | hxm
   ·exact hw x hxm
   ·exact hrow.2 x hxm
  ·by_cases e : j = i
   ·subst e
    obtain ⟨y, hy, hya⟩ := alive_next hm hx hj3
    obtain ⟨q, hq, rfl⟩ := List.getElem_of_mem hy
    refine ⟨w.length + q, by omega, by rw [List.length_append]; omega, ?_⟩
    rw [rd_get (by rw [List.length_append]; omega), List.getElem_append_right (by omega)]
    simpa using hya
   ·refine ⟨j, by omega, by rw [List.length_append]; omega, ?_⟩
    rw [rd_get (by rw [List.length_append]; omega), List.getElem_append_left hj2, ← rd_get hj2]
    exact hj3
theorem fixedPrefix_tot (m : List (List Int)) (hf : morFit m) (n : Nat) (hn : n ≤ 256) : Tot (fun k => spec_FixedPrefix.f k m 0 (n : Int)) (fun r => r.1.length ≤ n ∧ ∀ x ∈ r.1, 0 ≤ x ∧ x < 3) := by
 have no : Tot (fun k => spec_FixedPrefix.j0 k 0 (n : Int) true m) (fun r => r.1.length ≤ n ∧ ∀ x ∈ r.1, 0 ≤ x ∧ x < 3) := by
  refine tot_succ ?_
  simp only [spec_FixedPrefix.j0]
  exact tot_pos trivial (tot_some ⟨by simp, by simp⟩)
 simp only [spec_FixedPrefix.f, l1In_eq, Option.bind_some]
 refine tot_bind (grow_tot m hf) (fun g hg => tot_ite (fun h => ?_) (fun _ => no))
 obtain ⟨hm, h2, h0, x, hx, ha⟩ := hg h
 have h1 := hm.1
 have h3 := hf.1
 rw [decide_eq_true (show (0 : Int) ≤ (n : Int) ∧ (n : Int) ≤ 256 by omega)]
 refine tot_succ ?_
 simp only [spec_FixedPrefix.j0, Option.bind_some, List.nil_append, List.length_nil]
 have hrow := hm.2 _ (rdLL_mem (l := m) (i := 0) (by omega))
 have hr0 : rd_L2 m ((0 : Nat) : Int) = rd_L2 m 0 := rfl
 rw [hr0] at hrow
 refine tot_neg (by simp) (tot_pos (by omega) (tot_pos (by omega) (tot_pos (by omega) ?_)))
 refine tot_mono (fixed8_l0 m hm n hn 255 1 _ (by omega) hrow.2 (by omega) ?_) (fun r hr => ⟨hr.1, fun x hx => by have := hr.2 x hx; omega⟩)
 obtain ⟨q, hq, rfl⟩ := List.getElem_of_mem hx
 rw [List.length_drop] at hq
 refine ⟨q + 1, by omega, by omega, ?_⟩
 rw [rd_get (by omega)]
 simpa using ha
theorem l7m_l1 (b : List Int) (n : Nat) (hn : 1 ≤ n ∧ n ≤ 3) (rows : List (List Int)) (st : Nat) (hr : rows.length ≤ 3) (stp : Int) (hst : wrap64 (stp + 1) = (st : Int)) {Q : List (List Int) × Int × Int → Prop}
  (H : ∀ (row : List Int) (i h : Int), row.length ≤ 3 → curOk b i → Tot (fun k => spec_l7Morphism.l0 k (n : Int) (st : Int) b i h (rows ++ [row])) Q) (d : Nat) :
  ∀ (row : List Int) (q : Nat) (i h : Int), q = d → row.length + q ≤ 3 → curOk b i → Tot (fun k => spec_l7Morphism.l1 k (n : Int) stp row (q : Int) b i h rows) Q := by
 induction d with
 | zero =>
  intro row q i h hq hl hc
  subst hq
  refine tot_succ ?_
  simp only [spec_l7Morphism.l1, hst]
  exact tot_neg (by omega) (tot_pos (by omega) (H row i h (by omega) hc))
 | succ d ih =>
  intro row q i h hq hl hc
  subst hq
  have hs : wrap64 (((d + 1 : Nat) : Int) - 1) = (d : Int) := by rw [wr (by omega) (by omega)]; omega
  refine tot_succ ?_
  simp only [spec_l7Morphism.l1, hs]
  refine tot_pos (by omega) (tot_bind0 (l1Below_tot b i h n hc (by omega) (by omega)) (fun r hr2 => ?_))
  exact tot_pos (by omega) (ih _ d _ _ rfl (by simp; omega) hr2.2)
theorem l7m_l0 (b : List Int) (n : Nat) (hn : 1 ≤ n ∧ n ≤ 3) (d : Nat) : ∀ (st : Nat) (rows : List (List Int)) (i h : Int), st + d = n → rows.length = st → (∀ r ∈ rows, r.length ≤ 3) → curOk b i →
  Tot (fun k => spec_l7Morphism.l0 k (n : Int) (st : Int) b i h rows) (fun r => morFit r.1 ∧ curOk b r.2.1) := by
 induction d with
 | zero =>
  intro st rows i h hs hl hr hc
  have hfit : morFit rows := ⟨by omega, fun r h => by have := hr r h; omega⟩
  refine tot_succ ?_
  simp only [spec_l7Morphism.l0]
  refine tot_neg (by omega) (tot_bind0 (l1Once_tot b i h 12 hc (by omega) (by omega)) (fun r1 hr1 => tot_ite (fun _ => ?_) (fun _ => tot_some ⟨hfit, hr1⟩)))
  refine tot_pos (by omega) (tot_bind0 (l1PickInt_tot b _ _ _ hr1 (by decide) (by decide)) (fun r2 hr2 => ?_))
  have hr0 : rd_L2 rows ((0 : Nat) : Int) = rd_L2 rows 0 := rfl
  have h0 := hr _ (rdLL_mem (l := rows) (i := 0) (by omega))
  rw [hr0] at h0
  refine tot_pos (by omega) (tot_some ⟨⟨by simp only [List.length_set]; omega, fun r h => ?_⟩, hr2.2⟩)
  rcases List.mem_or_eq_of_mem_set h with h | h
  ·exact hfit.2 r h
  ·subst h; simp only [List.length_append, List.length_cons, List.length_nil]; omega
 | succ d ih =>
  intro st rows i h hs hl hr hc
  refine tot_succ ?_
  simp only [spec_l7Morphism.l0]
  refine tot_pos (by omega) (tot_bind0 (l1Below_tot b i h 4 hc (by omega) (by omega)) (fun r1 hr1 => ?_))
  obtain ⟨q, hq⟩ := Int.eq_ofNat_of_zero_le hr1.1.1
  rw [hq]
  refine l7m_l1 b n hn rows (st + 1) (by omega) (st : Int) (by rw [wr1 (by omega) (by omega)]; omega) (fun row i h hrow hc => ?_) q [] q _ _ rfl (by simp; omega) hr1.2
  refine ih (st + 1) _ i h (by omega) (by simp; omega) (fun r hrm => ?_) hc
  rcases List.mem_append.1 hrm with hrm | hrm
  ·exact hr r hrm
  ·have : r = row := by simpa using hrm
   rw [this]; exact hrow
theorem l7Morphism_tot (b : List Int) (i h : Int) (hc : curOk b i) : Tot (fun k => spec_l7Morphism.f k b i h) (fun r => morFit r.1 ∧ curOk b r.2.1) := by
 simp only [spec_l7Morphism.f]
 refine tot_bind0 (l1Below_tot b i h 5 hc (by omega) (by omega)) (fun r1 hr1 => ?_)
 have lit : ∀ m : List (List Int), (m.length ≤ 3 ∧ ∀ r ∈ m, r.length ≤ 4) → Tot (fun _ => some (m, r1.2.1, r1.2.2)) (fun r => morFit r.1 ∧ curOk b r.2.1) := fun m hm => tot_some ⟨hm, hr1.2⟩
 refine tot_ite (fun _ => lit _ (by decide)) (fun _ => tot_ite (fun _ => lit _ (by decide)) (fun _ => tot_ite (fun _ => lit _ (by decide)) (fun _ => ?_)))
 refine tot_bind0 (l1Below_tot b _ _ 3 hr1.2 (by omega) (by omega)) (fun r2 hr2 => ?_)
 obtain ⟨x, hx⟩ := Int.eq_ofNat_of_zero_le hr2.1.1
 rw [wr (by omega) (by omega), show 1 + r2.1 = ((1 + x : Nat) : Int) by omega]
 exact l7m_l0 b (1 + x) (by omega) (1 + x) 0 [] _ _ (by omega) rfl (by simp) hr2.2
def l8W (y : List Int) : Prop := y.length ≤ 49 ∧ ∀ x ∈ y, 0 ≤ x ∧ x ≤ 3
theorem l8Long_tot (b : List Int) (i h : Int) (hc : curOk b i) : Tot (fun k => spec_l8Long.f k b i h) (fun r => l8W r.1 ∧ curOk b r.2.1) := by
 simp only [spec_l8Long.f]
 refine tot_bind0 (l1Below_tot b i h 4 hc (by omega) (by omega)) (fun r1 hr1 => ?_)
 refine tot_ite (fun _ => ?_) (fun _ => tot_ite (fun _ => ?_) (fun _ => tot_ite (fun _ => ?_) (fun _ => ?_)))
 ·refine tot_bind (l3Draw_tot b _ _ hr1.2) (fun r2 hr2 => tot_bind0 (l1Below_tot b _ _ 40 hr2.2 (by omega) (by omega)) (fun r3 hr3 => ?_))
  obtain ⟨x, hx⟩ := Int.eq_ofNat_of_zero_le hr3.1.1
  rw [wr (by omega) (by omega), show 10 + r3.1 = ((10 + x : Nat) : Int) by omega]
  exact tot_bind (prefixOf_tot _ _ _ hr2.1 (10 + x) (by omega)) (fun y hy => tot_some ⟨⟨by have := hy.1; simp only; omega, hy.2⟩, hr3.2⟩)
 ·refine tot_bind (l7Morphism_tot b _ _ hr1.2) (fun r2 hr2 => tot_bind0 (l1Below_tot b _ _ 40 hr2.2 (by omega) (by omega)) (fun r3 hr3 => ?_))
  obtain ⟨x, hx⟩ := Int.eq_ofNat_of_zero_le hr3.1.1
  rw [wr (by omega) (by omega), show 10 + r3.1 = ((10 + x : Nat) : Int) by omega]
  exact tot_bind (fixedPrefix_tot r2.1 hr2.1 (10 + x) (by omega)) (fun y hy => tot_some ⟨⟨by have := hy.1; simp only; omega, fun z hz => by have := hy.2 z hz; omega⟩, hr3.2⟩)
 ·refine tot_bind (l7Word8_tot 2 (by omega) b _ _ hr1.2) (fun r2 hr2 => ?_)
  have hl := hr2.1.1
  simp only [Option.bind_some, List.nil_append, List.length_nil]
  refine tot_pos (by omega) (tot_pos (by omega) (tot_pos (by simp only [List.length_append]; omega) (tot_some ⟨⟨by simp only [List.length_append]; omega, fun x hx => ?_⟩, hr2.2⟩)))
  simp only [List.mem_append, or_self] at hx
  have := hr2.1.2 x hx
  omega
 ·refine tot_bind (l7Word8_tot 3 (by omega) b _ _ hr1.2) (fun r2 hr2 => ?_)
  exact tot_some ⟨⟨by have := hr2.1.1; simp only; omega, fun x hx => by have := hr2.1.2 x hx; omega⟩, hr2.2⟩
def l8A (y : List Int) : Prop := l8W y ∨ ∃ z x, l8W z ∧ (x = -1 ∨ x = 16) ∧ y = z ++ [x]
theorem l8Any_tot (b : List Int) (i h : Int) (hc : curOk b i) : Tot (fun k => spec_l8Any.f k b i h) (fun r => l8A r.1 ∧ curOk b r.2.1) := by
 simp only [spec_l8Any.f]
 refine tot_bind (l8Long_tot b i h hc) (fun r1 hr1 => tot_bind0 (l1Once_tot b _ _ 16 hr1.2 (by omega) (by omega)) (fun r2 hr2 => tot_ite (fun _ => ?_) (fun _ => tot_some ⟨.inl hr1.1, hr2⟩)))
 refine tot_bind0 (l1PickInt_tot b _ _ _ hr2 (by decide) (by decide)) (fun r3 hr3 => ?_)
 have hl := hr1.1.1
 refine tot_pos (by omega) (tot_some ⟨.inr ⟨_, _, hr1.1, ?_, rfl⟩, hr3.2⟩)
 simpa using hr3.1
theorem l8A_len {y : List Int} (h : l8A y) : y.length ≤ 50 := by
 rcases h with h | ⟨z, x, h, _, rfl⟩
 ·have := h.1; omega
 ·have := h.1; simp only [List.length_append, List.length_cons, List.length_nil]; omega
theorem laws_gcd_l0 (n : Nat) : ∀ (a b : Nat), b ≤ n → Ev (fun k => laws_gcd.l0 k (a : Int) (b : Int)) ((Nat.gcd a b : Nat) : Int) := by
 induction n with
 | zero =>
  intro a b h
  obtain rfl : b = 0 := by omega
  refine ev_succ ?_
  simp only [laws_gcd.l0]
  exact ev_neg (by omega) (ev_some (by simp))
 | succ n ih =>
  intro a b h
  refine ev_succ ?_
  simp only [laws_gcd.l0, tmod_nat]
  refine ev_ite (fun h0 => ?_) (fun h0 => ev_some ?_)
  ·refine ev_neg (by omega) ?_
   rw [gcd_step a b (by omega)]
   exact ih b (a % b) (by have := Nat.mod_lt a (show b > 0 by omega); omega)
  ·obtain rfl : b = 0 := by omega
   simp
theorem laws_gcd_ev (a b : Nat) : Ev (fun k => laws_gcd.f k (a : Int) (b : Int)) ((Nat.gcd a b : Nat) : Int) := by
 simp only [laws_gcd.f]; exact laws_gcd_l0 b a b (Nat.le_refl _)
def bord (w : List Int) (n k : Nat) : Prop := k < n ∧ ∀ t, t < k → w[t]? = w[n - k + t]?
theorem bord_ext (w : List Int) (n k : Nat) (hn : 1 ≤ n) : bord w (n + 1) (k + 1) ↔ bord w n k ∧ w[k]? = w[n]? := by
 constructor
 ·rintro ⟨h1, h2⟩
  refine ⟨⟨by omega, fun t ht => ?_⟩, ?_⟩
  ·have := h2 t (by omega)
   rwa [show n + 1 - (k + 1) + t = n - k + t by omega] at this
  ·have := h2 k (by omega)
   rwa [show n + 1 - (k + 1) + k = n by omega] at this
 ·rintro ⟨⟨h1, h2⟩, h3⟩
  refine ⟨by omega, fun t ht => ?_⟩
  rw [show n + 1 - (k + 1) + t = n - k + t by omega]
  by_cases e : t = k
  ·subst e
   rw [show n - t + t = n by omega]; exact h3
  ·exact h2 t (by omega)
theorem bord_zero (w : List Int) (n : Nat) (hn : 1 ≤ n) : bord w n 0 := ⟨hn, fun t ht => absurd ht (by omega)⟩
theorem bord_down {w : List Int} {n k j : Nat} (hk : bord w n k) (hj : bord w n j) (h : j < k) : bord w k j := by
 refine ⟨h, fun t ht => ?_⟩
 rw [hk.2 (k - j + t) (by omega), hj.2 t ht]
 have := hk.1
 congr 1; omega
theorem bord_up {w : List Int} {n k j : Nat} (hk : bord w n k) (hj : bord w k j) : bord w n j := by
 have h1 := hk.1
 have h2 := hj.1
 refine ⟨by omega, fun t ht => ?_⟩
 rw [hj.2 t ht, hk.2 (k - j + t) (by omega)]
 congr 1; omega
def isLp (w : List Int) (n k : Nat) : Prop := bord w n k ∧ ∀ j, bord w n j → j ≤ k
theorem isLp_uniq {w : List Int} {n k k' : Nat} (h : isLp w n k) (h' : isLp w n k') : k = k' := Nat.le_antisymm (h'.2 _ h.1) (h.2 _ h'.1)
theorem isLp_one (w : List Int) : isLp w 1 0 := ⟨bord_zero w 1 (by omega), fun j h => by have := h.1; omega⟩
def kInv (w : List Int) (n : Nat) (k : Int) : Prop := ∀ j, bord w n j → k < (j : Int) → w[j]? ≠ w[n]?
theorem kInv_start {w : List Int} {n k : Nat} (h : isLp w n k) : kInv w n (k : Int) := fun j hj hlt => by have := h.2 j hj; omega
theorem kInv_step {w : List Int} {n k k' : Nat} (hk : bord w n k) (h : kInv w n (k : Int)) (hne : w[k]? ≠ w[n]?) (hl : isLp w k k') : bord w n k' ∧ kInv w n (k' : Int) := by
 refine ⟨bord_up hk hl.1, fun j hj hlt => ?_⟩
 rcases Nat.lt_trichotomy j k with e | e | e
 ·have := hl.2 j (bord_down hk hj e); omega
 ·subst e; exact hne
 ·exact h j hj (by omega)
theorem kInv_none {w : List Int} {n : Nat} (h : kInv w n 0) (hne : w[0]? ≠ w[n]?) : kInv w n (-1) := by
 intro j hj hlt
 by_cases e : j = 0
 ·subst e; exact hne
 ·exact h j hj (by omega)
theorem isLp_hit {w : List Int} {n k : Nat} (hn : 1 ≤ n) (hk : bord w n k) (h : kInv w n (k : Int)) (he : w[k]? = w[n]?) : isLp w (n + 1) (k + 1) := by
 refine ⟨(bord_ext w n k hn).2 ⟨hk, he⟩, fun j hj => ?_⟩
 cases j with
 | zero => omega
 | succ j =>
  obtain ⟨h1, h2⟩ := (bord_ext w n j hn).1 hj
  by_cases e : (k : Int) < (j : Int)
  ·exact absurd h2 (h j h1 e)
  ·omega
theorem isLp_miss {w : List Int} {n : Nat} (hn : 1 ≤ n) (h : kInv w n (-1)) : isLp w (n + 1) 0 := by
 refine ⟨bord_zero w (n + 1) (by omega), fun j hj => ?_⟩
 cases j with
 | zero => omega
 | succ j =>
  obtain ⟨h1, h2⟩ := (bord_ext w n j hn).1 hj
  exact absurd h2 (h j h1 (by omega))
inductive Chain (w : List Int) : Nat → List Nat → Prop
 | nil : Chain w 0 []
 | cons (n k : Nat) (l : List Nat) (h : isLp w n k) (hl : Chain w k l) : Chain w n (k :: l)
theorem Chain.uniq {w : List Int} : ∀ {n : Nat} {l l' : List Nat}, Chain w n l → Chain w n l' → l = l' := by
 intro n l l' h
 induction h generalizing l' with
 | nil =>
  intro h'
  cases h' with
  | nil => rfl
  | cons _ k _ h _ => exact absurd h.1.1 (by omega)
 | cons n k l h hl ih =>
  intro h'
  cases h' with
  | nil => exact absurd h.1.1 (by omega)
  | cons _ k' l' h2 hl2 =>
   obtain rfl := isLp_uniq h h2
   rw [ih hl2]
theorem Chain.mem {w : List Int} {n : Nat} {l : List Nat} (h : Chain w n l) : ∀ j, j ∈ l ↔ bord w n j := by
 induction h with
 | nil => exact fun j => ⟨fun h => by simp at h, fun h => absurd h.1 (by omega)⟩
 | cons n k l h hl ih =>
  intro j
  rw [List.mem_cons, ih j]
  constructor
  ·rintro (rfl | hj)
   ·exact h.1
   ·exact bord_up h.1 hj
  ·intro hj
   have := h.2 j hj
   by_cases e : j = k
   ·exact .inl e
   ·exact .inr (bord_down h.1 hj (by omega))
theorem Chain.len {w : List Int} {n : Nat} {l : List Nat} (h : Chain w n l) : l.length ≤ n := by
 induction h with
 | nil => simp
 | cons n k l h hl ih => have := h.1.1; simp only [List.length_cons]; omega
theorem Chain.head {w : List Int} {n : Nat} {l : List Nat} (h : Chain w n l) (hn : 1 ≤ n) : ∃ k l', l = k :: l' ∧ isLp w n k := by
 cases h with
 | nil => omega
 | cons _ k l h hl => exact ⟨k, l, rfl, h⟩
def per (w : List Int) (n p : Nat) : Prop := ∀ t, t + p < n → w[t]? = w[t + p]?
theorem per_of_bord {w : List Int} {n k : Nat} (h : bord w n k) : per w n (n - k) := by
 intro t ht
 have := h.1
 rw [h.2 t (by omega)]
 congr 1; omega
theorem bord_of_per {w : List Int} {n p : Nat} (hp : 1 ≤ p) (hpn : p ≤ n) (h : per w n p) : bord w n (n - p) := by
 refine ⟨by omega, fun t ht => ?_⟩
 rw [h t (by omega)]
 congr 1; omega
theorem per_mul {w : List Int} {n p : Nat} (h : per w n p) : ∀ m t, t + m * p < n → w[t]? = w[t + m * p]?
 | 0, t, _ => by simp
 | m + 1, t, ht => by
  rw [Nat.succ_mul] at ht
  rw [per_mul h m t (by omega), h (t + m * p) (by omega)]
  congr 1; rw [Nat.succ_mul]; omega
theorem fine_wilf (w : List Int) : ∀ (s p q n : Nat), p + q ≤ s → 1 ≤ p → 1 ≤ q → per w n p → per w n q → p + q ≤ n + Nat.gcd p q → per w n (Nat.gcd p q) := by
 intro s
 induction s with
 | zero => intro p q n h h1; omega
 | succ s ih =>
  have main : ∀ p q n, p < q → p + q ≤ s + 1 → 1 ≤ p → 1 ≤ q → per w n p → per w n q → p + q ≤ n + Nat.gcd p q → per w n (Nat.gcd p q) := by
   intro p q n hlt hs h1 h2 hp hq hn
   have hg : Nat.gcd p (q - p) = Nat.gcd p q := Nat.gcd_sub_self_right (by omega)
   have hgp : Nat.gcd p q ≤ p := Nat.gcd_le_left q h1
   have hg0 : 1 ≤ Nat.gcd p q := Nat.gcd_pos_of_pos_left q h1
   have hqp : Nat.gcd p q ∣ q - p := Nat.dvd_sub (Nat.gcd_dvd_right p q) (Nat.gcd_dvd_left p q)
   have hle : Nat.gcd p q ≤ q - p := Nat.le_of_dvd (by omega) hqp
   have r := ih p (q - p) (n - p) (by omega) h1 (by omega) (fun t ht => hp t (by omega)) (fun t ht => by
    rw [hq t (by omega), hp (t + (q - p)) (by omega)]
    congr 1; omega) (by rw [hg]; omega)
   rw [hg] at r
   obtain ⟨m, hm⟩ := Nat.gcd_dvd_left p q
   -- each letter is one of the first p
   intro t ht
   generalize hgv : Nat.gcd p q = g at *
   have hm1 : 1 ≤ m := by
    rcases Nat.eq_zero_or_pos m with e | e
    ·subst e; simp at hm; omega
    ·exact e
   have hred : ∀ u, u < n → w[u]? = w[u % p]? := by
    intro u hu
    have e := Nat.div_add_mod u p
    have hmul := per_mul hp (u / p) (u % p) (by rw [Nat.mul_comm] at e; omega)
    rw [hmul]
    congr 1; rw [Nat.mul_comm] at e; omega
   have hrg : ∀ u v, u < p → v < p → u % g = v % g → w[u]? = w[v]? := by
    have hz : ∀ u, u < p → w[u]? = w[u % g]? := by
     intro u hu
     have e := Nat.div_add_mod u g
     have hmul := per_mul r (u / g) (u % g) (by rw [Nat.mul_comm] at e; omega)
     rw [hmul]
     congr 1; rw [Nat.mul_comm] at e; omega
    intro u v hu hv h
    rw [hz u hu, hz v hv, h]
   rw [hred t (by omega), hred (t + g) ht]
   refine hrg _ _ (Nat.mod_lt _ (by omega)) (Nat.mod_lt _ (by omega)) ?_
   have hd : g ∣ p := ⟨m, hm⟩
   rw [Nat.mod_mod_of_dvd _ hd, Nat.mod_mod_of_dvd _ hd]
   simp
  intro p q n hs h1 h2 hp hq hn
  rcases Nat.lt_trichotomy p q with e | e | e
  ·exact main p q n e hs h1 h2 hp hq hn
  ·subst e; simpa using hp
  ·rw [Nat.gcd_comm]
   rw [Nat.gcd_comm] at hn
   exact main q p n e (by omega) h2 h1 hq hp (by omega)
theorem root_least {w : List Int} {n p q : Nat} (hp1 : 1 ≤ p) (hpn : p ∣ n) (hn : 1 ≤ n) (hp : per w n p) (hmin : ∀ r, 1 ≤ r → r ≤ n → per w n r → p ≤ r) (hq1 : 1 ≤ q) (hq : per w p q) (hqp : q ∣ p) : q = p := by
 have hle : q ≤ p := Nat.le_of_dvd (by omega) hqp
 have hpn' : p ≤ n := Nat.le_of_dvd (by omega) hpn
 have := hmin q hq1 (by omega) (fun t ht => by
  have hred : ∀ u, u < n → w[u]? = w[u % p]? := by
   intro u hu
   have e := Nat.div_add_mod u p
   have hmul := per_mul hp (u / p) (u % p) (by rw [Nat.mul_comm] at e; omega)
   rw [hmul]
   congr 1; rw [Nat.mul_comm] at e; omega
  have hz : ∀ u, u < p → w[u]? = w[u % q]? := by
   intro u hu
   have e := Nat.div_add_mod u q
   have hmul := per_mul hq (u / q) (u % q) (by rw [Nat.mul_comm] at e; omega)
   rw [hmul]
   congr 1; rw [Nat.mul_comm] at e; omega
  rw [hred t (by omega), hred (t + q) ht, hz _ (Nat.mod_lt _ (by omega)), hz _ (Nat.mod_lt _ (by omega)), Nat.mod_mod_of_dvd _ hqp, Nat.mod_mod_of_dvd _ hqp]
  simp)
 omega
theorem rdq {w : List Int} {a b : Nat} (ha : a < w.length) (hb : b < w.length) : rd w (a : Int) = rd w (b : Int) ↔ w[a]? = w[b]? := by
 rw [rd_get ha, rd_get hb, List.getElem?_eq_getElem ha, List.getElem?_eq_getElem hb, Option.some.injEq]
theorem rd_set_eq {l : List Int} {i : Nat} (h : i < l.length) (v : Int) : rd (l.set i v) (i : Int) = v := by
 rw [rd_get (by simpa using h)]; simp
theorem rd_set_ne {l : List Int} {i j : Nat} (hne : i ≠ j) (v : Int) : rd (l.set i v) (j : Int) = rd l (j : Int) := by
 rw [rd_nat, rd_nat, List.getD_eq_getElem?_getD, List.getD_eq_getElem?_getD, List.getElem?_set_ne hne]
theorem rd_snoc_lt {l : List Int} {i : Nat} (h : i < l.length) (v : Int) : rd (l ++ [v]) (i : Int) = rd l (i : Int) := by
 rw [rd_nat, rd_nat, List.getD_eq_getElem?_getD, List.getD_eq_getElem?_getD, List.getElem?_append_left h]
theorem rd_snoc_eq (l : List Int) (v : Int) : rd (l ++ [v]) (l.length : Int) = v := by
 rw [rd_nat, List.getD_eq_getElem?_getD]; simp
def tB (w : List Int) (n : Nat) (x : List Int) : Prop := x.length = w.length + 1 ∧ rd x ((0 : Nat) : Int) = -1 ∧ ∀ m, 1 ≤ m → m < n → ∃ k : Nat, isLp w m k ∧ rd x (m : Int) = (k : Int)
theorem tB_set {w x : List Int} {q v : Nat} (h : tB w (q + 1) x) (hv : isLp w (q + 1) v) (hq : q < w.length) : tB w (q + 2) (x.set (q + 1) (v : Int)) := by
 obtain ⟨h1, h2, h3⟩ := h
 refine ⟨by simpa using h1, by rw [rd_set_ne (by omega)]; exact h2, fun m h4 h5 => ?_⟩
 by_cases e : m = q + 1
 ·subst e
  exact ⟨v, hv, rd_set_eq (by omega) _⟩
 ·obtain ⟨k, hk, hr⟩ := h3 m h4 (by omega)
  exact ⟨k, hk, by rw [rd_set_ne (by omega)]; exact hr⟩
theorem impl_borders_l1 (w : List Int) (hw : w.length ≤ 1000000) (q : Nat) (hq : q < w.length) (x : List Int) (hx : tB w (q + 1) x) {P : List Int → Prop}
  (H : ∀ v : Nat, isLp w (q + 1) v → Tot (fun k => impl_borders.l0 k w (x.set (q + 1) (v : Int)) ((q + 2 : Nat) : Int)) P) :
  (kInv w q (-1) → 1 ≤ q → Tot (fun k => impl_borders.l1 k w x ((q + 1 : Nat) : Int) (-1)) P) ∧ (q = 0 → Tot (fun k => impl_borders.l1 k w x ((q + 1 : Nat) : Int) (-1)) P) ∧
   (1 ≤ q → ∀ c k : Nat, k ≤ c → bord w q k → kInv w q (k : Int) → Tot (fun f => impl_borders.l1 f w x ((q + 1 : Nat) : Int) (k : Int)) P) := by
 have e1 : wrap64 (((q + 1 : Nat) : Int) + 1) = ((q + 2 : Nat) : Int) := by rw [wr1 (by omega) (by omega)]; omega
 have e2 : wrap64 (((q + 1 : Nat) : Int) - 1) = (q : Int) := by rw [wr (by omega) (by omega)]; omega
 have hl := hx.1
 have stop : isLp w (q + 1) 0 → Tot (fun k => impl_borders.l1 k w x ((q + 1 : Nat) : Int) (-1)) P := by
  intro h0
  refine tot_succ ?_
  simp only [impl_borders.l1, e1, Int.toNat_natCast]
  refine tot_neg (by omega) (tot_pos (by omega) (tot_pos (by omega) ?_))
  rw [show wrap64 (-1 + 1) = ((0 : Nat) : Int) by rw [wr (by omega) (by omega)]; rfl]
  exact H 0 h0
 refine ⟨fun h h1 => stop (isLp_miss h1 h), fun h => stop (by subst h; exact isLp_one w), fun h1 c => ?_⟩
 induction c with
 | zero =>
  intro k hk hb hi
  obtain rfl : k = 0 := by omega
  refine tot_succ ?_
  simp only [impl_borders.l1, e1, e2, Int.toNat_natCast]
  refine tot_pos (by omega) (tot_pos (by omega) (tot_pos (by omega) (tot_pos (by omega) (tot_pos (by omega) (tot_ite (fun he => ?_) (fun he => ?_))))))
  ·rw [show wrap64 (((0 : Nat) : Int) + 1) = ((1 : Nat) : Int) by rw [wr (by omega) (by omega)]; rfl]
   refine tot_pos (by omega) (tot_pos (by omega) ?_)
   exact H 1 (isLp_hit h1 hb hi ((rdq (by omega) hq).1 he))
  ·refine tot_pos (by omega) ?_
   rw [hx.2.1]
   exact stop (isLp_miss h1 (kInv_none hi (fun e => he ((rdq (by omega) hq).2 e))))
 | succ c ih =>
  intro k hk hb hi
  have hkq := hb.1
  refine tot_succ ?_
  simp only [impl_borders.l1, e1, e2, Int.toNat_natCast, wr1 (show (0 : Int) ≤ (k : Int) by omega) (by omega)]
  refine tot_pos (by omega) (tot_pos (by omega) (tot_pos (by omega) (tot_pos (by omega) (tot_pos (by omega) (tot_ite (fun he => ?_) (fun he => ?_))))))
  ·refine tot_pos (by omega) (tot_pos (by omega) ?_)
   exact H (k + 1) (isLp_hit h1 hb hi ((rdq (by omega) hq).1 he))
  ·refine tot_pos (by omega) ?_
   have hne : w[k]? ≠ w[q]? := fun e => he ((rdq (by omega) hq).2 e)
   by_cases k0 : k = 0
   ·subst k0
    rw [hx.2.1]
    exact stop (isLp_miss h1 (kInv_none hi hne))
   ·obtain ⟨k', hk', hr⟩ := hx.2.2 k (by omega) (by omega)
    rw [hr]
    have := hk'.1.1
    obtain ⟨a, b⟩ := kInv_step hb hi hne hk'
    exact ih k' (by omega) a b
theorem impl_borders_l0 (w : List Int) (hw : w.length ≤ 1000000) (d : Nat) : ∀ (n : Nat) (x : List Int), 1 ≤ n → n + d = w.length + 1 → tB w n x → Tot (fun k => impl_borders.l0 k w x (n : Int)) (tB w (w.length + 1)) := by
 induction d with
 | zero =>
  intro n x h1 hd hx
  refine tot_succ ?_
  simp only [impl_borders.l0]
  exact tot_neg (by omega) (tot_some (by rw [show w.length + 1 = n by omega]; exact hx))
 | succ d ih =>
  intro n x h1 hd hx
  obtain ⟨q, rfl⟩ : ∃ q, n = q + 1 := ⟨n - 1, by omega⟩
  have hl := hx.1
  refine tot_succ ?_
  simp only [impl_borders.l0, show wrap64 (((q + 1 : Nat) : Int) - 1) = (q : Int) by rw [wr (by omega) (by omega)]; omega]
  refine tot_pos (by omega) (tot_pos (by omega) (tot_pos (by omega) ?_))
  obtain ⟨a, b, c⟩ := impl_borders_l1 w hw q (by omega) x hx (P := tB w (w.length + 1)) (fun v hv => ih (q + 2) _ (by omega) (by omega) (tB_set hx hv (by omega)))
  by_cases q0 : q = 0
  ·subst q0
   rw [hx.2.1]
   exact b rfl
  ·obtain ⟨k, hk, hr⟩ := hx.2.2 q (by omega) (by omega)
   rw [hr]
   exact c (by omega) k k (Nat.le_refl _) hk.1 (kInv_start hk)
theorem impl_borders_start (w z : List Int) (hw : w.length ≤ 1000000) (hz : z.length = w.length + 1) : Tot (fun k => impl_borders.l0 k w (z.set 0 (-1)) 1) (tB w (w.length + 1)) := by
 have h0 : tB w 1 (z.set 0 (-1)) := ⟨by rw [List.length_set]; exact hz, rd_set_eq (by omega) (-1), fun m h1 h2 => absurd h1 (by omega)⟩
 exact impl_borders_l0 w hw w.length 1 _ (Nat.le_refl _) (Nat.add_comm 1 w.length) h0
theorem impl_borders_eq (k : Nat) (w : List Int) (hw : w.length ≤ 1000000) : impl_borders.f k w = impl_borders.l0 k w ((List.replicate (w.length + 1) 0).set 0 (-1)) 1 := by
 have hz : (List.replicate (w.length + 1) (0 : Int)).length = w.length + 1 := List.length_replicate
 unfold impl_borders.f
 rw [wr1 (show (0 : Int) ≤ (w.length : Int) by omega) (by omega), show ((w.length : Int) + 1).toNat = w.length + 1 by omega, if_pos (by omega), if_pos (by omega), Option.bind_some]
 generalize List.replicate (w.length + 1) (0 : Int) = z at hz
 rw [if_pos (by omega), Int.toNat_zero]
theorem impl_borders_tot (w : List Int) (hw : w.length ≤ 1000000) : Tot (fun k => impl_borders.f k w) (tB w (w.length + 1)) := by
 simp only [impl_borders_eq _ w hw]
 exact impl_borders_start w _ hw List.length_replicate
def sB (w x : List Int) : Prop := ∀ m, m < x.length → ∃ k : Nat, isLp w (m + 1) k ∧ rd x (m : Int) = (k : Int)
theorem sB_snoc {w x : List Int} {v : Nat} (h : sB w x) (hv : isLp w (x.length + 1) v) : sB w (x ++ [(v : Int)]) := by
 intro m hm
 by_cases e : m = x.length
 ·subst e
  exact ⟨v, hv, rd_snoc_eq x _⟩
 ·have hlt : m < x.length := by simp at hm; omega
  obtain ⟨k, hk, hr⟩ := h m hlt
  exact ⟨k, hk, by rw [rd_snoc_lt hlt]; exact hr⟩
theorem spec_l9_l1 (w : List Int) (hw : w.length ≤ 1000000) (q : Nat) (h1 : 1 ≤ q) (hq : q < w.length) (x : List Int) (hxl : x.length = q) (hx : sB w x) {P : List Int → Prop}
  (H : ∀ v : Nat, isLp w (q + 1) v → Tot (fun k => spec_l9Borders.l0 k w (x ++ [(v : Int)]) (v : Int) ((q + 1 : Nat) : Int)) P) :
  ∀ c k : Nat, k ≤ c → bord w q k → kInv w q (k : Int) → Tot (fun f => spec_l9Borders.l1 f w x (k : Int) (q : Int)) P := by
 have e1 : wrap64 ((q : Int) + 1) = ((q + 1 : Nat) : Int) := by rw [wr1 (by omega) (by omega)]; rfl
 have last : bord w q 0 → kInv w q ((0 : Nat) : Int) → Tot (fun f => spec_l9Borders.l1 f w x ((0 : Nat) : Int) (q : Int)) P := by
  intro hb hi
  refine tot_succ ?_
  simp only [spec_l9Borders.l1, e1]
  refine tot_neg (by omega) (tot_pos (by omega) (tot_pos (by omega) (tot_pos (by omega) (tot_pos (by omega) (tot_ite (fun he => ?_) (fun he => ?_))))))
  ·rw [show wrap64 (((0 : Nat) : Int) + 1) = ((1 : Nat) : Int) by rw [wr (by omega) (by omega)]; rfl]
   refine tot_pos (by omega) ?_
   exact H 1 (isLp_hit h1 hb hi ((rdq (by omega) hq).1 he.symm))
  ·refine tot_pos (by omega) ?_
   exact H 0 (isLp_miss h1 (kInv_none hi (fun e => he ((rdq (by omega) hq).2 e).symm)))
 intro c
 induction c with
 | zero =>
  intro k hk hb hi
  obtain rfl : k = 0 := by omega
  exact last hb hi
 | succ c ih =>
  intro k hk hb hi
  by_cases k0 : k = 0
  ·subst k0; exact last hb hi
  ·have hkq := hb.1
   refine tot_succ ?_
   simp only [spec_l9Borders.l1, e1, show wrap64 ((k : Int) + 1) = ((k + 1 : Nat) : Int) by rw [wr1 (by omega) (by omega)]; rfl, show wrap64 ((k : Int) - 1) = ((k - 1 : Nat) : Int) by rw [wr (by omega) (by omega)]; omega]
   refine tot_pos (by omega) (tot_pos (by omega) (tot_pos (by omega) (tot_pos (by omega) (tot_pos (by omega) (tot_ite (fun he => ?_) (fun he => ?_))))))
   ·exact tot_pos (by omega) (H (k + 1) (isLp_hit h1 hb hi ((rdq (by omega) hq).1 he.symm)))
   ·refine tot_pos (by omega) (tot_pos (by omega) ?_)
    obtain ⟨k', hk', hr⟩ := hx (k - 1) (by omega)
    rw [hr]
    rw [show k - 1 + 1 = k by omega] at hk'
    have := hk'.1.1
    obtain ⟨a, b⟩ := kInv_step hb hi (fun e => he ((rdq (by omega) hq).2 e).symm) hk'
    exact ih k' (by omega) a b
theorem spec_l9_l0 (w : List Int) (hw : w.length ≤ 1000000) (d : Nat) : ∀ (q : Nat) (x : List Int) (k : Nat), q + d = w.length → x.length = q → sB w x → (q = 0 ∧ k = 0 ∨ isLp w q k) →
  Tot (fun f => spec_l9Borders.l0 f w x (k : Int) (q : Int)) (fun r => r.length = w.length ∧ sB w r) := by
 induction d with
 | zero =>
  intro q x k hd hl hx hk
  refine tot_succ ?_
  simp only [spec_l9Borders.l0]
  exact tot_neg (by omega) (tot_some ⟨by omega, hx⟩)
 | succ d ih =>
  intro q x k hd hl hx hk
  refine tot_succ ?_
  simp only [spec_l9Borders.l0, show wrap64 ((q : Int) + 1) = ((q + 1 : Nat) : Int) by rw [wr1 (by omega) (by omega)]; rfl]
  refine tot_pos (by omega) (tot_ite (fun h0 => ?_) (fun h0 => ?_))
  ·obtain rfl : q = 0 := by omega
   obtain rfl : k = 0 := by
    rcases hk with h | h
    ·exact h.2
    ·have := h.1.1; omega
   refine tot_pos (by omega) ?_
   refine ih 1 _ 0 (by omega) (by rw [List.length_append, hl]; rfl) (sB_snoc (v := 0) hx (by rw [hl]; exact isLp_one w)) (.inr (isLp_one w))
  ·have hlp : isLp w q k := by
    rcases hk with h | h
    ·omega
    ·exact h
   exact spec_l9_l1 w hw q (by omega) (by omega) x hl hx (fun v hv => ih (q + 1) _ v (by omega) (by simp; omega) (sB_snoc hx (by rw [hl]; exact hv)) (.inr hv)) k k (Nat.le_refl _) hlp.1 (kInv_start hlp)
theorem spec_l9_tot (w : List Int) (hw : w.length ≤ 1000000) : Tot (fun k => spec_l9Borders.f k w) (fun r => r.length = w.length ∧ sB w r) := by
 simp only [spec_l9Borders.f]
 exact spec_l9_l0 w hw w.length 0 [] 0 (by omega) rfl (fun m hm => by simp at hm) (.inl ⟨rfl, rfl⟩)
def up (L : List Nat) : List Int := L.map fun k => ((k : Nat) : Int)
theorem up_len (L : List Nat) : (up L).length = L.length := by simp [up]
theorem impl_BordersOf_l0 (w : List Int) (hw : w.length ≤ 1000000) (t : List Int) (ht : tB w (w.length + 1) t) : ∀ (c n : Nat), n ≤ c → n ≤ w.length → ∀ acc : List Int, acc.length + n ≤ w.length →
  Tot (fun k => impl_BordersOf.l0 k acc t (rd t (n : Int))) (fun r => ∃ L, Chain w n L ∧ r = (acc ++ up L).reverse) := by
 have hl := ht.1
 intro c
 induction c with
 | zero =>
  intro n hn hw2 acc ha
  obtain rfl : n = 0 := by omega
  rw [ht.2.1]
  refine tot_succ ?_
  simp only [impl_BordersOf.l0]
  exact tot_neg (by omega) (tot_bind (tot_of (slices_Reverse_ev acc (by omega)) rfl) (fun r hr => tot_some ⟨[], .nil, by rw [← hr]; simp [up]⟩))
 | succ c ih =>
  intro n hn hw2 acc ha
  by_cases n0 : n = 0
  ·subst n0
   rw [ht.2.1]
   refine tot_succ ?_
   simp only [impl_BordersOf.l0]
   exact tot_neg (by omega) (tot_bind (tot_of (slices_Reverse_ev acc (by omega)) rfl) (fun r hr => tot_some ⟨[], .nil, by rw [← hr]; simp [up]⟩))
  ·obtain ⟨k, hk, hr⟩ := ht.2.2 n (by omega) (by omega)
   have hkn := hk.1.1
   rw [hr]
   refine tot_succ ?_
   simp only [impl_BordersOf.l0]
   refine tot_pos (by omega) (tot_pos (by omega) (tot_pos (by omega) (tot_pos (by omega) ?_)))
   refine tot_mono (ih k (by omega) (by omega) (acc ++ [(k : Int)]) (by simp; omega)) ?_
   rintro r ⟨L, hL, rfl⟩
   exact ⟨k :: L, .cons n k L hk hL, by simp [up]⟩
theorem impl_BordersOf_tot (w : List Int) (hw : w.length ≤ 1000000) : Tot (fun k => impl_BordersOf.f k w) (fun r => ∃ L, Chain w w.length L ∧ r = (up L).reverse) := by
 simp only [impl_BordersOf.f]
 refine tot_bind (impl_borders_tot w hw) (fun t ht => ?_)
 have hl := ht.1
 refine tot_pos (by omega) (tot_pos (by omega) ?_)
 refine tot_mono (impl_BordersOf_l0 w hw t ht w.length w.length (Nat.le_refl _) (Nat.le_refl _) [] (by simp)) ?_
 rintro r ⟨L, hL, rfl⟩
 exact ⟨L, hL, by simp⟩
theorem ev_of_tot {α : Type} {g : Nat → Option α} {P : α → Prop} {r : α} (h : Tot g P) (k : ∀ a, P a → a = r) : Ev g r := by
 obtain ⟨a, ha, hp⟩ := h
 rw [← k a hp]; exact ha
theorem impl_BordersOf_ev {w : List Int} {L : List Nat} (hw : w.length ≤ 1000000) (hL : Chain w w.length L) : Ev (fun k => impl_BordersOf.f k w) (up L).reverse :=
 ev_of_tot (impl_BordersOf_tot w hw) (fun _ ⟨_, h, e⟩ => by rw [e, h.uniq hL])
theorem spec_BordersOf_l0 (w : List Int) (hw : w.length ≤ 1000000) (t : List Int) (htl : t.length = w.length) (ht : sB w t) : ∀ (c n : Nat), n ≤ c → n ≤ w.length → ∀ acc : List Int, acc.length + n ≤ w.length →
  Tot (fun k => spec_BordersOf.l0 k acc t (n : Int)) (fun r => ∃ L, Chain w n L ∧ r = (up L).reverse ++ acc) := by
 have stop : ∀ acc : List Int, Tot (fun k => spec_BordersOf.l0 k acc t ((0 : Nat) : Int)) (fun r => ∃ L, Chain w 0 L ∧ r = (up L).reverse ++ acc) := by
  intro acc
  refine tot_succ ?_
  simp only [spec_BordersOf.l0]
  exact tot_neg (by omega) (tot_some ⟨[], .nil, by simp [up]⟩)
 intro c
 induction c with
 | zero =>
  intro n hn hw2 acc ha
  obtain rfl : n = 0 := by omega
  exact stop acc
 | succ c ih =>
  intro n hn hw2 acc ha
  by_cases n0 : n = 0
  ·subst n0; exact stop acc
  ·obtain ⟨k, hk, hr⟩ := ht (n - 1) (by omega)
   rw [show n - 1 + 1 = n by omega] at hk
   have hkn := hk.1.1
   refine tot_succ ?_
   simp only [spec_BordersOf.l0, Option.bind_some, show wrap64 ((n : Int) - 1) = ((n - 1 : Nat) : Int) by rw [wr (by omega) (by omega)]; omega, hr]
   refine tot_pos (by omega) (tot_pos (by omega) (tot_pos (by omega) (tot_pos (by simp; omega) ?_)))
   refine tot_mono (ih k (by omega) (by omega) ([(k : Int)] ++ acc) (by simp; omega)) ?_
   rintro r ⟨L, hL, rfl⟩
   exact ⟨k :: L, .cons n k L hk hL, by simp [up]⟩
theorem spec_BordersOf_ev {w : List Int} {L : List Nat} (hw : w.length ≤ 1000000) (hL : Chain w w.length L) : Ev (fun k => spec_BordersOf.f k w) (up L).reverse := by
 refine ev_of_tot (P := fun r => ∃ L, Chain w w.length L ∧ r = (up L).reverse) ?_ (fun _ ⟨_, h, e⟩ => by rw [e, h.uniq hL])
 simp only [spec_BordersOf.f]
 refine tot_bind (spec_l9_tot w hw) (fun t ht => ?_)
 refine tot_mono (spec_BordersOf_l0 w hw t ht.1 ht.2 w.length w.length (Nat.le_refl _) (Nat.le_refl _) [] (by simp)) ?_
 rintro r ⟨L, hL, rfl⟩
 exact ⟨L, hL, by simp⟩
def pl (n : Nat) (L : List Nat) : List Int := L.map fun k => ((n : Nat) : Int) - ((k : Nat) : Int)
theorem pl_len (n : Nat) (L : List Nat) : (pl n L).length = L.length := by simp [pl]
theorem rd_upr {L : List Nat} {i : Nat} (h : i < L.length) : rd (up L).reverse (i : Int) = (L[L.length - 1 - i] : Int) := by
 rw [rd_get (by rw [List.length_reverse, up_len]; exact h), List.getElem_reverse]
 simp only [up, List.getElem_map, List.length_map]
theorem rd_pl {n : Nat} {L : List Nat} {i : Nat} (h : i < L.length) : rd (pl n L) (i : Int) = (n : Int) - (L[i] : Int) := by rw [rd_get (by rw [pl_len]; exact h)]; simp [pl]
theorem impl_PeriodsOf_l0 (w : List Int) (hw : w.length ≤ 1000000) (B : List Int) (hB : B.length ≤ 1000000) (hb : ∀ x ∈ B, 0 ≤ x ∧ x ≤ 1000000) (d : Nat) : ∀ (i : Nat) (acc : List Int), i + d = B.length → acc.length = i →
  Ev (fun k => impl_PeriodsOf.l0 k w acc B (B.length : Int) (i : Int)) (acc ++ (B.drop i).map fun x => (w.length : Int) - x).reverse := by
 induction d with
 | zero =>
  intro i acc hi ha
  refine ev_succ ?_
  simp only [impl_PeriodsOf.l0]
  refine ev_neg (by omega) (ev_bind (slices_Reverse_ev acc (by omega)) (ev_some ?_))
  rw [List.drop_of_length_le (by omega)]; simp
 | succ d ih =>
  intro i acc hi ha
  have hm := hb _ (rd_mem (l := B) (i := i) (by omega))
  refine ev_succ ?_
  simp only [impl_PeriodsOf.l0, wr1 (show (0 : Int) ≤ (i : Int) by omega) (by omega)]
  refine ev_pos (by omega) (ev_pos (by omega) (ev_pos (by omega) (ev_pos (by omega) ?_)))
  rw [wr (n := (w.length : Int) - rd B (i : Int)) (by omega) (by omega)]
  refine ev_eq (ih (i + 1) _ (by omega) (by simp; omega)) ?_
  rw [drop_rd (show i < B.length by omega)]
  simp
theorem Chain.lt {w : List Int} {n : Nat} {L : List Nat} (h : Chain w n L) {i : Nat} (hi : i < L.length) : L[i] < n := ((h.mem _).1 (List.getElem_mem hi)).1
theorem up_bd {w : List Int} {n : Nat} {L : List Nat} (h : Chain w n L) (hn : n ≤ 1000000) : ∀ x ∈ (up L).reverse, 0 ≤ x ∧ x ≤ 1000000 := by
 intro x hx
 simp only [up, List.mem_reverse, List.mem_map] at hx
 obtain ⟨k, hk, rfl⟩ := hx
 have := ((h.mem k).1 hk).1
 omega
theorem impl_PeriodsOf_ev {w : List Int} {L : List Nat} (hw : w.length ≤ 1000000) (hL : Chain w w.length L) : Ev (fun k => impl_PeriodsOf.f k w) (pl w.length L) := by
 have hl := hL.len
 simp only [impl_PeriodsOf.f]
 refine ev_bind (impl_BordersOf_ev hw hL) ?_
 refine ev_eq (impl_PeriodsOf_l0 w hw (up L).reverse (by rw [List.length_reverse, up_len]; omega) (up_bd hL hw) (up L).reverse.length 0 [] (by omega) rfl) ?_
 simp [pl, up, List.map_reverse]
theorem spec_PeriodsOf_l0 (w : List Int) (hw : w.length ≤ 1000000) (B : List Int) (hB : B.length ≤ 1000000) (hb : ∀ x ∈ B, 0 ≤ x ∧ x ≤ 1000000) : ∀ (i : Nat) (acc : List Int), i ≤ B.length → acc.length + i = B.length →
  Ev (fun k => spec_PeriodsOf.l0 k w acc B ((i : Int) - 1)) (acc ++ ((B.take i).reverse.map fun x => (w.length : Int) - x)) := by
 intro i
 induction i with
 | zero =>
  intro acc hi ha
  refine ev_succ ?_
  simp only [spec_PeriodsOf.l0]
  exact ev_neg (by omega) (ev_some (by simp))
 | succ i ih =>
  intro acc hi ha
  have hm := hb _ (rd_mem (l := B) (i := i) (by omega))
  refine ev_succ ?_
  simp only [spec_PeriodsOf.l0]
  rw [show ((i + 1 : Nat) : Int) - 1 = (i : Int) by omega]
  refine ev_pos (by omega) (ev_pos (by omega) (ev_pos (by omega) (ev_pos (by omega) ?_)))
  rw [wr (n := (w.length : Int) - rd B (i : Int)) (by omega) (by omega), wr (n := (i : Int) - 1) (by omega) (by omega)]
  refine ev_eq (ih _ (by omega) (by simp; omega)) ?_
  rw [List.take_succ_eq_append_getElem (show i < B.length by omega), ← rd_get (show i < B.length by omega)]
  simp
theorem spec_PeriodsOf_ev {w : List Int} {L : List Nat} (hw : w.length ≤ 1000000) (hL : Chain w w.length L) : Ev (fun k => spec_PeriodsOf.f k w) (pl w.length L) := by
 have hl := hL.len
 have hlen : (up L).reverse.length = L.length := by rw [List.length_reverse, up_len]
 simp only [spec_PeriodsOf.f]
 refine ev_bind (spec_BordersOf_ev hw hL) ?_
 rw [wr (n := ((up L).reverse.length : Int) - 1) (by omega) (by omega)]
 refine ev_eq (spec_PeriodsOf_l0 w hw (up L).reverse (by omega) (up_bd hL hw) (up L).reverse.length [] (Nat.le_refl _) (by simp)) ?_
 rw [List.take_length, List.reverse_reverse]
 simp [pl, up]
def leastP (n : Nat) : List Nat → Int
 | [] => 0
 | k :: _ => (n : Int) - (k : Int)
theorem impl_LeastPeriod_ev {w : List Int} {L : List Nat} (hw : w.length ≤ 1000000) (hL : Chain w w.length L) : Ev (fun k => impl_LeastPeriod.f k w) (leastP w.length L) := by
 simp only [impl_LeastPeriod.f]
 refine ev_ite (fun h => ev_some ?_) (fun h => ?_)
 ·have := hL.len
  have : L = [] := List.length_eq_zero_iff.1 (by omega)
  subst this; rfl
 ·obtain ⟨k, L', rfl, hk⟩ := hL.head (by omega)
  refine ev_of_tot (P := fun r => r = leastP w.length (k :: L')) ?_ (fun a ha => ha)
  refine tot_bind (impl_borders_tot w hw) (fun t ht => ?_)
  have hl := ht.1
  obtain ⟨k', hk', hr⟩ := ht.2.2 w.length (by omega) (by omega)
  obtain rfl := isLp_uniq hk hk'
  have := hk.1.1
  refine tot_pos (by omega) (tot_pos (by omega) (tot_some ?_))
  rw [hr, wr (by omega) (by omega)]; rfl
theorem spec_LeastPeriod_ev {w : List Int} {L : List Nat} (hw : w.length ≤ 1000000) (hL : Chain w w.length L) : Ev (fun k => spec_LeastPeriod.f k w) (leastP w.length L) := by
 simp only [spec_LeastPeriod.f]
 refine ev_bind (spec_PeriodsOf_ev hw hL) ?_
 cases L with
 | nil => exact ev_pos rfl (ev_some rfl)
 | cons k L =>
  have h0 : (pl w.length (k :: L)).length = L.length + 1 := by simp [pl]
  refine ev_neg (by omega) (ev_pos (by omega) (ev_some ?_))
  exact rd_pl (n := w.length) (L := k :: L) (i := 0) (by simp)
def rootR (w : List Int) (L : List Nat) : List Int := if leastP w.length L ≠ 0 ∧ (w.length : Int) % leastP w.length L = 0 then w.take (leastP w.length L).toNat else w
theorem leastP_bd {w : List Int} {n : Nat} {L : List Nat} (hL : Chain w n L) : (n = 0 ∧ leastP n L = 0) ∨ (1 ≤ n ∧ 1 ≤ leastP n L ∧ leastP n L ≤ n) := by
 cases hL with
 | nil => exact .inl ⟨rfl, rfl⟩
 | cons _ k L h hl =>
  have := h.1.1
  refine .inr ⟨by omega, ?_, ?_⟩ <;> simp only [leastP] <;> omega
theorem impl_RootOf_ev {w : List Int} {L : List Nat} (hw : w.length ≤ 1000000) (hL : Chain w w.length L) : Ev (fun k => impl_RootOf.f k w) (rootR w L) := by
 have hb := leastP_bd hL
 have hz : w.take ((w.length : Int)).toNat = w := by rw [Int.toNat_natCast, List.take_length]
 simp only [impl_RootOf.f, Option.bind_some, List.nil_append, List.length_nil, hz]
 refine ev_bind (impl_LeastPeriod_ev hw hL) (ev_ite (fun h => ?_) (fun h => ev_ite (fun h2 => ?_) (fun h2 => ?_)))
 ·refine ev_pos (by omega) (ev_pos (by omega) (ev_pos (by omega) (ev_some ?_)))
  unfold rootR; rw [if_neg (by omega)]
 ·refine ev_pos (by omega) (ev_pos (by omega) (ev_pos (by rw [List.length_take]; omega) (ev_some ?_)))
  unfold rootR; rw [if_pos ⟨h, h2⟩]
 ·refine ev_pos (by omega) (ev_pos (by omega) (ev_pos (by omega) (ev_some ?_)))
  unfold rootR; rw [if_neg (fun h3 => h2 h3.2)]
theorem spec_RootOf_ev {w : List Int} {L : List Nat} (hw : w.length ≤ 1000000) (hL : Chain w w.length L) : Ev (fun k => spec_RootOf.f k w) (rootR w L) := by
 have hb := leastP_bd hL
 simp only [spec_RootOf.f, Option.bind_some, List.nil_append, List.length_nil]
 refine ev_bind (spec_LeastPeriod_ev hw hL) (ev_ite (fun h => ?_) (fun h => ev_neg (by omega) (ev_ite (fun h2 => ?_) (fun h2 => ?_))))
 ·refine ev_pos (by omega) (ev_some ?_)
  unfold rootR; rw [if_neg (by omega)]
 ·refine ev_pos (by omega) (ev_pos (by omega) (ev_pos (by rw [List.length_take]; omega) (ev_some ?_)))
  unfold rootR; rw [if_pos ⟨by omega, h2⟩]
 ·refine ev_pos (by omega) (ev_some ?_)
  unfold rootR; rw [if_neg (fun h3 => h2 h3.2)]
def primR (w : List Int) (L : List Nat) : Bool := decide (0 < w.length) && ((rootR w L).length == w.length)
theorem impl_IsPrimitive_ev {w : List Int} {L : List Nat} (hw : w.length ≤ 1000000) (hL : Chain w w.length L) : Ev (fun k => impl_IsPrimitive.f k w) (primR w L) := by
 simp only [impl_IsPrimitive.f]
 refine ev_ite (fun h => ev_bind (impl_RootOf_ev hw hL) (ev_some ?_)) (fun h => ev_some ?_)
 ·unfold primR
  rw [decide_eq_true (by omega), Bool.true_and]
  by_cases e : (rootR w L).length = w.length
  ·simp [e]
  ·have : ¬ ((rootR w L).length : Int) = (w.length : Int) := by omega
   rw [beq_eq_false_iff_ne.2 this, beq_eq_false_iff_ne.2 e]
 ·unfold primR
  rw [decide_eq_false (by omega)]; rfl
theorem spec_IsPrimitive_ev {w : List Int} {L : List Nat} (hw : w.length ≤ 1000000) (hL : Chain w w.length L) : Ev (fun k => spec_IsPrimitive.f k w) (primR w L) := by
 have hb := leastP_bd hL
 simp only [spec_IsPrimitive.f]
 refine ev_bind (spec_LeastPeriod_ev hw hL) (ev_ite (fun h => ev_ite (fun h2 => ev_some ?_) (fun h2 => ev_neg (by omega) (ev_some ?_))) (fun h => ev_some ?_))
 ·unfold primR rootR
  rw [decide_eq_true (by omega), if_pos ⟨by omega, by rw [h2]; simp⟩, h2, Int.toNat_natCast, List.take_length]; simp
 ·unfold primR rootR
  rw [decide_eq_true (by omega), Bool.true_and]
  by_cases h3 : (w.length : Int) % leastP w.length L = 0
  ·rw [if_pos ⟨by omega, h3⟩, h3, List.length_take, Nat.min_eq_left (by omega)]
   have : ¬ (leastP w.length L).toNat = w.length := by omega
   simp [this]
  ·rw [if_neg (fun h4 => h3 h4.2)]
   have : ((w.length : Int) % leastP w.length L != 0) = true := bne_iff_ne.2 h3
   rw [this]
   simp
 ·unfold primR
  rw [decide_eq_false (by omega)]; rfl
theorem handCmp_drop_len (a b : List Int) : ∀ i, i ≤ a.length → i ≤ b.length → (i = a.length ∨ i = b.length) → handCmp (a.drop i) (b.drop i) = if a.length < b.length then -1 else if a.length > b.length then 1 else 0 := by
 intro i h1 h2 h3
 rcases Nat.lt_trichotomy a.length b.length with e | e | e
 ·rw [if_pos e]
  rw [List.drop_of_length_le (show a.length ≤ i by omega)]
  rw [drop_rd (show i < b.length by omega)]; rfl
 ·rw [if_neg (by omega), if_neg (by omega), List.drop_of_length_le (by omega), List.drop_of_length_le (by omega)]; rfl
 ·rw [if_neg (by omega), if_pos e]
  rw [List.drop_of_length_le (show b.length ≤ i by omega)]
  rw [drop_rd (show i < a.length by omega)]; rfl
theorem spec_CompareWords_h0 (a b : List Int) (ha : a.length ≤ 4611686018427387904) (d : Nat) : ∀ (i : Nat), i + d = a.length → i ≤ b.length →
  Ev (fun k => spec_CompareWords.l0 k a b (i : Int)) (handCmp (a.drop i) (b.drop i)) := by
 have stop : ∀ i : Nat, i ≤ a.length → i ≤ b.length → (i = a.length ∨ i = b.length) → Ev (fun k => spec_CompareWords.j1 k a b (i : Int) false) (handCmp (a.drop i) (b.drop i)) := by
  intro i h1 h2 h3
  rw [handCmp_drop_len a b i h1 h2 h3]
  refine ev_succ ?_
  simp only [spec_CompareWords.j1]
  refine ev_neg (by simp) ?_
  refine ev_ite (fun h => ev_some ?_) (fun h => ev_ite (fun h' => ev_some ?_) (fun h' => ev_some ?_))
  ·rw [if_pos (by omega)]
  ·rw [if_neg (by omega), if_pos (by omega)]
  ·rw [if_neg (by omega), if_neg (by omega)]
 induction d with
 | zero =>
  intro i hi hb
  refine ev_succ ?_
  simp only [spec_CompareWords.l0]
  exact ev_neg (by omega) (stop i (by omega) hb (.inl (by omega)))
 | succ d ih =>
  intro i hi hb
  refine ev_succ ?_
  simp only [spec_CompareWords.l0]
  refine ev_pos (by omega) ?_
  by_cases h2 : i < b.length
  ·rw [decide_eq_true (show (i : Int) < (b.length : Int) by omega)]
   refine ev_succ ?_
   simp only [spec_CompareWords.j1, wr1 (show (0 : Int) ≤ (i : Int) by omega) (by omega)]
   refine ev_pos trivial (ev_pos (by omega) (ev_pos (by omega) (ev_pos (by omega) ?_)))
   rw [drop_rd (by omega : i < a.length), drop_rd h2]
   refine ev_ite (fun h => ev_some ?_) (fun h => ev_ite (fun h' => ev_some ?_) (fun h' => ev_eq (ih (i + 1) (by omega) (by omega)) ?_))
   ·simp only [handCmp, if_pos h]
   ·simp only [handCmp, if_neg h, if_pos h']
   ·simp only [handCmp, if_neg h, if_neg h']
  ·rw [decide_eq_false (show ¬ (i : Int) < (b.length : Int) by omega)]
   exact stop i (by omega) hb (.inr (by omega))
theorem spec_CompareWords_hev (a b : List Int) (ha : a.length ≤ 4611686018427387904) : Ev (fun k => spec_CompareWords.f k a b) (handCmp a b) := by
 simp only [spec_CompareWords.f]
 exact ev_eq (spec_CompareWords_h0 a b ha a.length 0 (by omega) (by omega)) (by simp)
def l8Go (w : List Int) : Bool → List (List Int) → List (List Int)
 | true, [] => []
 | false, [] => [w]
 | p, e :: l => if handCmp w e = 0 then e :: l8Go w true l else if handCmp w e < 0 then (if p = true then e :: l8Go w p l else w :: e :: l8Go w true l) else e :: l8Go w p l
theorem l8Go_true (w : List Int) : ∀ l, l8Go w true l = l
 | [] => rfl
 | e :: l => by simp [l8Go, l8Go_true w l]
theorem l8Go_false (w : List Int) : ∀ l, l8Go w false l = hins handCmp w l
 | [] => rfl
 | e :: l => by
  have h1 := l8Go_true w l
  have h2 := l8Go_false w l
  simp only [l8Go, hins, h1, h2]
  by_cases c : handCmp w e = 0
  ·simp [c]
  ·by_cases d : handCmp w e < 0
   ·simp [d, c]
   ·simp [d, c]
theorem rdLL_at_ {l : List (List Int)} {i : Nat} (h : i < l.length) : rd_L2 l (i : Int) = l[i] := by
 simp [rd_L2, List.getD_eq_getElem?_getD, List.getElem?_eq_getElem h]
theorem spec_l8Put_l0 (w : List Int) (l : List (List Int)) (hw : w.length ≤ 1000000) (hn : l.length ≤ 1000000) (d : Nat) : ∀ (i : Nat) (acc : List (List Int)) (p : Bool), i + d = l.length → acc.length ≤ 2 * i + 2 →
  Ev (fun k => spec_l8Put.l0 k l w acc p (i : Int)) (acc ++ l8Go w p (l.drop i)) := by
 induction d with
 | zero =>
  intro i acc p hi ha
  refine ev_succ ?_
  simp only [spec_l8Put.l0]
  refine ev_neg (by omega) ?_
  rw [List.drop_of_length_le (by omega)]
  cases p with
  | true => exact ev_pos rfl (ev_some (by simp [l8Go]))
  | false => exact ev_neg (by simp) (ev_bind0 rfl (ev_pos (by simp; omega) (ev_pos (by omega) (ev_some (by simp [l8Go])))))
 | succ d ih =>
  intro i acc p hi ha
  have hs : wrap64 ((i : Int) + 1) = ((i + 1 : Nat) : Int) := by rw [wr1 (by omega) (by omega)]; rfl
  have hd : l.drop i = l[i] :: l.drop (i + 1) := List.drop_eq_getElem_cons (by omega)
  refine ev_succ ?_
  simp only [spec_l8Put.l0, hs]
  refine ev_pos (by omega) (ev_pos (by omega) ?_)
  rw [rdLL_at_ (by omega : i < l.length)]
  refine ev_bind (spec_CompareWords_hev w l[i] (by omega)) ?_
  refine ev_ite (fun h => ?_) (fun h => ?_)
  ·refine ev_neg (by omega) (ev_pos (by omega) ?_)
   refine ev_eq (ih (i + 1) _ true (by omega) (by simp; omega)) ?_
   rw [hd]; cases p <;> simp [l8Go, h]
  ·refine ev_ite (fun h2 => ?_) (fun h2 => ?_)
   ·cases p with
    | true =>
     refine ev_pos rfl (ev_pos (by omega) ?_)
     refine ev_eq (ih (i + 1) _ true (by omega) (by simp; omega)) ?_
     rw [hd]; simp [l8Go, h, h2]
    | false =>
     refine ev_neg (by simp) (ev_bind0 rfl (ev_pos (by simp; omega) (ev_pos (by omega) (ev_bind0 rfl (ev_pos (by simp; omega) ?_)))))
     refine ev_eq (ih (i + 1) _ true (by omega) (by simp; omega)) ?_
     rw [hd]; simp [l8Go, h, h2]
   ·refine ev_pos (by omega) ?_
    refine ev_eq (ih (i + 1) _ p (by omega) (by simp; omega)) ?_
    rw [hd]; cases p <;> simp [l8Go, h, h2]
theorem spec_l8Put_ev (w : List Int) (l : List (List Int)) (hw : w.length ≤ 1000000) (hn : l.length ≤ 1000000) : Ev (fun k => spec_l8Put.f k l w) (hins handCmp w l) := by
 have h := spec_l8Put_l0 w l hw hn l.length 0 [] false (by omega) (by simp)
 refine ev_eq h ?_
 simp [l8Go_false]
theorem hins_len (c : List Int → List Int → Int) (x : List Int) : ∀ l, (hins c x l).length ≤ l.length + 1
 | [] => by simp [hins]
 | y :: l => by
  have := hins_len c x l
  unfold hins
  split
  ·simp
  ·split
   ·simp
   ·simp; omega
theorem foldl_strict {c : List Int → List Int → Int} (h : HOrd c) : ∀ (L acc : List (List Int)), acc.Pairwise (fun a b => c a b < 0) → (L.foldl (fun a x => hins c x a) acc).Pairwise (fun a b => c a b < 0) ∧ ∀ z, z ∈ L.foldl (fun a x => hins c x a) acc ↔ z ∈ L ∨ z ∈ acc
 | [], acc, ha => ⟨ha, fun z => by simp⟩
 | x :: L, acc, ha => by
  have ih := foldl_strict h L (hins c x acc) (hins_strict h x acc ha)
  refine ⟨ih.1, fun z => ?_⟩
  show z ∈ L.foldl _ (hins c x acc) ↔ _
  rw [ih.2 z, hins_mem h, List.mem_cons]
  constructor
  ·rintro (h | h | h)
   ·exact .inl (.inr h)
   ·exact .inl (.inl h)
   ·exact .inr h
  ·rintro ((h | h) | h)
   ·exact .inr (.inl h)
   ·exact .inl h
   ·exact .inr (.inr h)
theorem foldl_uniq {c : List Int → List Int → Int} (h : HOrd c) (L : List (List Int)) : L.foldl (fun a x => hins c x a) [] = huniq c L :=
 hstrict_ext h _ _ (foldl_strict h L [] (by simp)).1 (huniq_strict h L) (fun z => by rw [(foldl_strict h L [] (by simp)).2 z, huniq_mem h]; simp)
theorem impl_IsWord16_ev (l : List Int) (hl : l.length ≤ 400) : Ev (fun k => impl_IsWord.f k l 16) (areL 16 l) := by
 simp only [impl_IsWord.f]
 exact ev_pos (by omega) (ev_pos (by omega) (ev_pos (by omega) (ev_bind (impl_areLetters_ev l 16 (by omega)) (ev_some rfl))))
theorem impl_isShort_ev (l : List Int) (m : Int) (hl : l.length ≤ 400) (hm : (l.length : Int) ≤ m) : Ev (fun k => impl_isShort.f k l m) (areL 16 l) := by
 simp only [impl_isShort.f]
 exact ev_pos hm (ev_bind (impl_IsWord16_ev l hl) (ev_some rfl))
theorem pal_rev (l : List Int) (h : ∀ t : Nat, t < l.length / 2 → l[t]? = l[l.length - 1 - t]?) : l.reverse = l := by
 apply List.ext_getElem?
 intro t
 by_cases ht : t < l.length
 ·rw [List.getElem?_reverse ht]
  by_cases h1 : t < l.length / 2
  ·exact (h t h1).symm
  ·by_cases h2 : l.length - 1 - t < l.length / 2
   ·rw [h _ h2, show l.length - 1 - (l.length - 1 - t) = t by omega]
   ·rw [show l.length - 1 - t = t by omega]
 ·rw [List.getElem?_eq_none (by simp; omega), List.getElem?_eq_none (by omega)]
theorem impl_IsPalindrome_l0 (l : List Int) (hn : l.length ≤ 4611686018427387904) (d : Nat) : ∀ (i : Nat), i + d = l.length / 2 → (∀ t : Nat, t < i → l[t]? = l[l.length - 1 - t]?) →
  Ev (fun k => impl_IsPalindrome.l0 k l ((l.length / 2 : Nat) : Int) (i : Int)) (decide (l.reverse = l)) := by
 induction d with
 | zero =>
  intro i hi h
  refine ev_succ ?_
  simp only [impl_IsPalindrome.l0]
  refine ev_neg (by omega) (ev_some ?_)
  rw [decide_eq_true (pal_rev l (fun t ht => h t (by omega)))]
 | succ d ih =>
  intro i hi h
  refine ev_succ ?_
  simp only [impl_IsPalindrome.l0]
  rw [wr (n := (l.length : Int) - 1) (by omega) (by omega), show (l.length : Int) - 1 - (i : Int) = ((l.length - 1 - i : Nat) : Int) by omega, wr_nat (by omega), wr1 (by omega) (by omega)]
  refine ev_pos (by omega) (ev_pos (by omega) (ev_pos (by omega) (ev_pos (by omega) (ev_pos (by omega) ?_))))
  rw [rd_get (show i < l.length by omega), rd_get (show l.length - 1 - i < l.length by omega)]
  refine ev_ite (fun he => ih (i + 1) (by omega) ?_) (fun he => ev_some ?_)
  ·intro t ht
   by_cases e : t = i
   ·subst e
    rw [List.getElem?_eq_getElem (by omega), List.getElem?_eq_getElem (by omega), he]
   ·exact h t (by omega)
  ·symm
   rw [decide_eq_false_iff_not]
   intro hr
   have h2 : l.reverse[i]? = l[i]? := by rw [hr]
   rw [List.getElem?_reverse (by omega), List.getElem?_eq_getElem (by omega), List.getElem?_eq_getElem (by omega)] at h2
   exact he (Option.some.inj h2).symm
theorem impl_IsPalindrome_ev (l : List Int) (hn : l.length ≤ 4611686018427387904) : Ev (fun k => impl_IsPalindrome.f k l) (decide (l.reverse = l)) := by
 simp only [impl_IsPalindrome.f]
 rw [show (l.length : Int) / 2 = ((l.length / 2 : Nat) : Int) by omega, wr_nat (by omega)]
 exact impl_IsPalindrome_l0 l hn (l.length / 2) 0 (by omega) (by intro t ht; omega)
theorem spec_ReverseDigits_l0 (l : List Int) (hn : l.length ≤ 10000000) : ∀ (i : Nat) (acc : List Int), i ≤ l.length → acc.length + i ≤ 10000000 →
  Ev (fun k => spec_ReverseDigits.l0 k l acc ((i : Int) - 1)) (acc ++ (l.take i).reverse) := by
 intro i
 induction i with
 | zero =>
  intro acc hi ha
  refine ev_succ ?_
  simp only [spec_ReverseDigits.l0]
  exact ev_neg (by omega) (ev_some (by simp))
 | succ i ih =>
  intro acc hi ha
  refine ev_succ ?_
  simp only [spec_ReverseDigits.l0]
  rw [show ((i + 1 : Nat) : Int) - 1 = (i : Int) by omega]
  refine ev_pos (by omega) (ev_pos (by omega) (ev_pos (by omega) (ev_pos (by omega) ?_)))
  rw [wr (n := (i : Int) - 1) (by omega) (by omega)]
  refine ev_eq (ih (acc ++ [rd l (i : Int)]) (by omega) (by simp; omega)) ?_
  have ht : l.take (i + 1) = l.take i ++ [rd l (i : Int)] := by
   rw [rd_get (show i < l.length by omega)]; exact List.take_succ_eq_append_getElem (by omega)
  rw [ht]; simp
theorem spec_ReverseDigits_ev (l : List Int) (hn : l.length ≤ 10000000) : Ev (fun k => spec_ReverseDigits.f k l) l.reverse := by
 simp only [spec_ReverseDigits.f]
 rw [wr (n := (l.length : Int) - 1) (by omega) (by omega)]
 exact ev_eq (spec_ReverseDigits_l0 l hn l.length [] (by omega) (by simp; omega)) (by simp)
theorem spec_l3Same_l0 (a b : List Int) (hl : a.length = b.length) (hn : a.length ≤ 4611686018427387904) (d : Nat) : ∀ (i : Nat), i + d = a.length → Ev (fun k => spec_l3Same.l0 k a b (i : Int)) (decide (a.drop i = b.drop i)) := by
 induction d with
 | zero =>
  intro i hi
  refine ev_succ ?_
  simp only [spec_l3Same.l0]
  refine ev_neg (by omega) (ev_some ?_)
  rw [List.drop_of_length_le (by omega), List.drop_of_length_le (by omega)]; rfl
 | succ d ih =>
  intro i hi
  refine ev_succ ?_
  simp only [spec_l3Same.l0, wr1 (show (0 : Int) ≤ (i : Int) by omega) (by omega)]
  rw [drop_rd (by omega : i < a.length), drop_rd (by omega : i < b.length)]
  refine ev_pos (by omega) (ev_pos (by omega) (ev_pos (by omega) (ev_ite (fun h => ev_eq (ih (i + 1) (by omega)) ?_) (fun h => ev_some ?_))))
  ·rw [h]; simp
  ·simp [h]
theorem spec_l3Same_ev (a b : List Int) (hn : a.length ≤ 4611686018427387904) : Ev (fun k => spec_l3Same.f k a b) (decide (a = b)) := by
 simp only [spec_l3Same.f]
 refine ev_ite (fun h => ev_eq (spec_l3Same_l0 a b (by omega) hn a.length 0 (by omega)) (by simp)) (fun h => ev_some ?_)
 symm
 simp only [decide_eq_false_iff_not]
 rintro rfl
 exact h rfl
theorem spec_IsPal_ev (l : List Int) (hn : l.length ≤ 10000000) : Ev (fun k => spec_IsPalindrome.f k l) (decide (l.reverse = l)) := by
 simp only [spec_IsPalindrome.f]
 refine ev_bind (spec_ReverseDigits_ev l hn) (ev_bind (spec_l3Same_ev l l.reverse (by omega)) (ev_some ?_))
 by_cases h : l.reverse = l
 ·simp [h]
 ·have : ¬ l = l.reverse := fun e => h e.symm
  simp [h, this]
def cutW (w : List Int) (i j : Nat) : List Int := (w.take j).drop i
theorem cutW_len (w : List Int) (i j : Nat) (hj : j ≤ w.length) : (cutW w i j).length = j - i := by
 simp only [cutW, List.length_drop, List.length_take]; omega
def palN (w : List Int) (n : Nat) : Nat → Nat → List (List Int)
 | 0, _ => []
 | d + 1, i => (if (cutW w i (i + n)).reverse = cutW w i (i + n) then [cutW w i (i + n)] else []) ++ palN w n d (i + 1)
def spN (w : List Int) : Nat → Nat → List (List Int)
 | 0, _ => []
 | d + 1, n => huniq handCmp (palN w n (w.length + 1 - n) 0) ++ spN w d (n + 1)
def palJ (w : List Int) (i : Nat) : Nat → Nat → List (List Int)
 | 0, _ => []
 | d + 1, j => (if (cutW w i j).reverse = cutW w i j then [cutW w i j] else []) ++ palJ w i d (j + 1)
def palI (w : List Int) : Nat → Nat → List (List Int)
 | 0, _ => []
 | d + 1, i => palJ w i (w.length - i) (i + 1) ++ palI w d (i + 1)
theorem palN_mem (w : List Int) (n : Nat) (z : List Int) : ∀ d i, z ∈ palN w n d i ↔ ∃ t, i ≤ t ∧ t < i + d ∧ z = cutW w t (t + n) ∧ z.reverse = z
 | 0, i => by simp only [palN, List.not_mem_nil, false_iff]; rintro ⟨t, h1, h2, _⟩; omega
 | d + 1, i => by
  have ih := palN_mem w n z d (i + 1)
  rw [palN, List.mem_append, ih]
  constructor
  ·rintro (h | ⟨t, h1, h2, h3⟩)
   ·split at h
    ·rename_i hp
     have := List.mem_singleton.1 h
     subst this
     exact ⟨i, by omega, by omega, rfl, hp⟩
    ·simp at h
   ·exact ⟨t, by omega, by omega, h3⟩
  ·rintro ⟨t, h1, h2, h3, h4⟩
   by_cases e : t = i
   ·subst e
    left
    rw [← h3, if_pos h4]
    simp
   ·exact .inr ⟨t, by omega, by omega, h3, h4⟩
theorem palJ_mem (w : List Int) (i : Nat) (z : List Int) : ∀ d j, z ∈ palJ w i d j ↔ ∃ t, j ≤ t ∧ t < j + d ∧ z = cutW w i t ∧ z.reverse = z
 | 0, j => by simp only [palJ, List.not_mem_nil, false_iff]; rintro ⟨t, h1, h2, _⟩; omega
 | d + 1, j => by
  have ih := palJ_mem w i z d (j + 1)
  rw [palJ, List.mem_append, ih]
  constructor
  ·rintro (h | ⟨t, h1, h2, h3⟩)
   ·split at h
    ·rename_i hp
     have := List.mem_singleton.1 h
     subst this
     exact ⟨j, by omega, by omega, rfl, hp⟩
    ·simp at h
   ·exact ⟨t, by omega, by omega, h3⟩
  ·rintro ⟨t, h1, h2, h3, h4⟩
   by_cases e : t = j
   ·subst e
    left
    rw [← h3, if_pos h4]
    simp
   ·exact .inr ⟨t, by omega, by omega, h3, h4⟩
theorem palI_mem (w : List Int) (z : List Int) : ∀ d i, i + d = w.length → (z ∈ palI w d i ↔ ∃ s t, i ≤ s ∧ s < t ∧ t ≤ w.length ∧ z = cutW w s t ∧ z.reverse = z)
 | 0, i, hi => by simp only [palI, List.not_mem_nil, false_iff]; rintro ⟨s, t, h1, h2, h3, _⟩; omega
 | d + 1, i, hi => by
  have ih := palI_mem w z d (i + 1) (by omega)
  rw [palI, List.mem_append, ih, palJ_mem]
  constructor
  ·rintro (⟨t, h1, h2, h3⟩ | ⟨s, t, h1, h2, h3⟩)
   ·exact ⟨i, t, by omega, by omega, by omega, h3⟩
   ·exact ⟨s, t, by omega, by omega, h3⟩
  ·rintro ⟨s, t, h1, h2, h3, h4⟩
   by_cases e : s = i
   ·subst e
    exact .inl ⟨t, by omega, by omega, h4⟩
   ·exact .inr ⟨s, t, by omega, by omega, h3, h4⟩
theorem spN_mem (w : List Int) (z : List Int) : ∀ d n, n + d = w.length + 1 → (z ∈ spN w d n ↔ ∃ m t, n ≤ m ∧ m ≤ w.length ∧ t + m ≤ w.length ∧ z = cutW w t (t + m) ∧ z.reverse = z)
 | 0, n, hn => by simp only [spN, List.not_mem_nil, false_iff]; rintro ⟨m, t, h1, h2, _⟩; omega
 | d + 1, n, hn => by
  have ih := spN_mem w z d (n + 1) (by omega)
  rw [spN, List.mem_append, ih, huniq_mem handCmp_ord, palN_mem]
  constructor
  ·rintro (⟨t, h1, h2, h3⟩ | ⟨m, t, h1, h2, h3⟩)
   ·exact ⟨n, t, by omega, by omega, by omega, h3⟩
   ·exact ⟨m, t, by omega, by omega, h3⟩
  ·rintro ⟨m, t, h1, h2, h3, h4⟩
   by_cases e : m = n
   ·subst e
    exact .inl ⟨t, by omega, by omega, h4⟩
   ·exact .inr ⟨m, t, by omega, by omega, h3, h4⟩
theorem spN_len (w : List Int) (d n : Nat) (h : n + d = w.length + 1) : ∀ z ∈ spN w d n, n ≤ z.length := by
 intro z hz
 obtain ⟨m, t, h1, h2, h3, h4, _⟩ := (spN_mem w z d n h).1 hz
 rw [h4, cutW_len w t (t + m) h3]
 omega
theorem spN_strict (w : List Int) : ∀ d n, n + d = w.length + 1 → (spN w d n).Pairwise (fun a b => handCmpL a b < 0)
 | 0, _, _ => by simp [spN]
 | d + 1, n, hn => by
  have ih := spN_strict w d (n + 1) (by omega)
  have hl : ∀ z ∈ huniq handCmp (palN w n (w.length + 1 - n) 0), z.length = n := by
   intro z hz
   rw [huniq_mem handCmp_ord, palN_mem] at hz
   obtain ⟨t, h1, h2, h3, _⟩ := hz
   rw [h3, cutW_len w t (t + n) (by omega)]
   omega
  rw [spN, List.pairwise_append]
  refine ⟨?_, ih, fun a ha b hb => ?_⟩
  ·refine List.Pairwise.imp_of_mem ?_ (huniq_strict handCmp_ord (palN w n (w.length + 1 - n) 0))
   intro a b ha hb hab
   have h1 := hl a ha
   have h2 := hl b hb
   unfold handCmpL
   rw [if_neg (by omega), if_neg (by omega)]
   exact hab
  ·have h1 := hl a ha
   have h2 := spN_len w d (n + 1) (by omega) b hb
   unfold handCmpL
   rw [if_pos (by omega)]
   omega
theorem spN_palI (w : List Int) : spN w w.length 1 = huniq handCmpL (palI w w.length 0) := by
 refine hstrict_ext handCmpL_ord _ _ (spN_strict w w.length 1 (by omega)) (huniq_strict handCmpL_ord _) (fun z => ?_)
 rw [huniq_mem handCmpL_ord, spN_mem w z w.length 1 (by omega), palI_mem w z w.length 0 (by omega)]
 constructor
 ·rintro ⟨m, t, h1, h2, h3, h4⟩
  exact ⟨t, t + m, by omega, by omega, h3, h4⟩
 ·rintro ⟨s, t, h1, h2, h3, h4, h5⟩
  refine ⟨t - s, s, by omega, by omega, by omega, ?_, h5⟩
  rw [show s + (t - s) = t by omega]
  exact h4
theorem palN_len (w : List Int) (n : Nat) : ∀ d i, (palN w n d i).length ≤ d
 | 0, _ => by simp [palN]
 | d + 1, i => by
  have := palN_len w n d (i + 1)
  rw [palN, List.length_append]
  split <;> simp <;> omega
theorem huniq_len (c : List Int → List Int → Int) : ∀ L, (huniq c L).length ≤ L.length
 | [] => by simp [huniq]
 | x :: L => by
  have h1 := huniq_len c L
  have h2 := hins_len c x (huniq c L)
  show (hins c x (huniq c L)).length ≤ L.length + 1
  omega
theorem palJ_len (w : List Int) (i : Nat) : ∀ d j, (palJ w i d j).length ≤ d
 | 0, _ => by simp [palJ]
 | d + 1, j => by
  have := palJ_len w i d (j + 1)
  rw [palJ, List.length_append]
  split <;> simp <;> omega
theorem palI_len (w : List Int) : ∀ d i, (palI w d i).length ≤ d * w.length
 | 0, _ => by simp [palI]
 | d + 1, i => by
  have h1 := palI_len w d (i + 1)
  have h2 := palJ_len w i (w.length - i) (i + 1)
  rw [palI, List.length_append, Nat.succ_mul]
  omega
theorem spec_Pal_l1 (w : List Int) (n : Nat) (hw : w.length ≤ 64) (hn0 : 1 ≤ n) (hn : n ≤ 65) (out : List (List Int)) (r : List (List Int)) (hout : out.length ≤ 10000) (d : Nat) : ∀ (i : Nat) (acc : List (List Int)), (i + d + n = w.length + 1) → acc.length ≤ i →
  (Ev (fun k => spec_PalindromesOf.l0 k w (out ++ (palN w n d i).foldl (fun a x => hins handCmp x a) acc) ((n + 1 : Nat) : Int)) r) →
  Ev (fun k => spec_PalindromesOf.l1 k w out (n : Int) acc (i : Int)) r := by
 induction d with
 | zero =>
  intro i acc hi ha hk
  have e : wrap64 ((i : Int) + (n : Int)) = (i : Int) + (n : Int) := wr (by omega) (by omega)
  have hs : wrap64 ((n : Int) + 1) = ((n + 1 : Nat) : Int) := by rw [wr1 (by omega) (by omega)]; rfl
  refine ev_succ ?_
  simp only [spec_PalindromesOf.l1, e, hs]
  refine ev_neg (by omega) (ev_pos (by omega) ?_)
  exact hk
 | succ d ih =>
  intro i acc hi ha hk
  have e : wrap64 ((i : Int) + (n : Int)) = (i : Int) + (n : Int) := wr (by omega) (by omega)
  have hs : wrap64 ((i : Int) + 1) = ((i + 1 : Nat) : Int) := by rw [wr1 (by omega) (by omega)]; rfl
  have hc : (w.take ((i : Int) + (n : Int)).toNat).drop ((i : Int)).toNat = cutW w i (i + n) := by
   rw [show ((i : Int) + (n : Int)).toNat = i + n by omega, Int.toNat_natCast]; rfl
  have hcl := cutW_len w i (i + n) (by omega)
  refine ev_succ ?_
  simp only [spec_PalindromesOf.l1, e, hs]
  refine ev_pos (by omega) (ev_pos (by omega) (ev_pos (by omega) ?_))
  rw [hc]
  refine ev_bind (spec_IsPal_ev _ (by omega)) (ev_ite (fun h => ?_) (fun h => ?_))
  ·simp only [decide_eq_true_eq] at h
   have hl := hins_len handCmp (cutW w i (i + n)) acc
   refine ev_bind (spec_l8Put_ev _ acc (by omega) (by omega)) (ih (i + 1) _ (by omega) (by omega) ?_)
   rw [palN, if_pos h] at hk
   exact hk
  ·simp only [decide_eq_true_eq] at h
   refine ih (i + 1) _ (by omega) (by omega) ?_
   rw [palN, if_neg h] at hk
   exact hk
theorem spec_Pal_l0 (w : List Int) (hw : w.length ≤ 64) (d : Nat) : ∀ (n : Nat) (out : List (List Int)), n + d = w.length + 1 → 1 ≤ n → out.length ≤ 65 * (n - 1) → Ev (fun k => spec_PalindromesOf.l0 k w out (n : Int)) (out ++ spN w d n) := by
 induction d with
 | zero =>
  intro n out hn h1 ho
  refine ev_succ ?_
  simp only [spec_PalindromesOf.l0]
  exact ev_neg (by omega) (ev_some (by simp [spN]))
 | succ d ih =>
  intro n out hn h1 ho
  refine ev_succ ?_
  simp only [spec_PalindromesOf.l0]
  refine ev_pos (by omega) ?_
  have hl1 := huniq_len handCmp (palN w n (w.length + 1 - n) 0)
  have hl2 := palN_len w n (w.length + 1 - n) 0
  refine spec_Pal_l1 w n hw h1 (by omega) out _ (by omega) (w.length + 1 - n) 0 [] (by omega) (by simp) ?_
  rw [foldl_uniq handCmp_ord]
  refine ev_eq (ih (n + 1) _ (by omega) (by omega) (by rw [List.length_append]; omega)) ?_
  simp [spN]
def palR (w : List Int) : List (List Int) := if areL 16 w = true ∧ w.length ≤ 64 then spN w w.length 1 else []
theorem spec_Pal_ev (w : List Int) (hw : w.length ≤ 1048576) : Ev (fun k => spec_PalindromesOf.f k w) (palR w) := by
 simp only [spec_PalindromesOf.f]
 refine ev_bind0 rfl (ev_bind (spec_IsWord_ev w 16 (by omega)) ?_)
 refine ev_ite (fun h => ?_) (fun h => ?_)
 ·simp only [Bool.and_eq_true, decide_eq_true_eq] at h
  refine ev_succ ?_
  simp only [spec_PalindromesOf.j0]
  refine ev_ite (fun h2 => ev_some ?_) (fun h2 => ?_)
  ·simp only [decide_eq_true_eq] at h2
   unfold palR
   rw [if_neg (by omega)]
  ·simp only [decide_eq_true_eq] at h2
   refine ev_eq (spec_Pal_l0 w (by omega) w.length 1 [] (by omega) (by omega) (by simp)) ?_
   unfold palR
   rw [if_pos ⟨h.1.1, by omega⟩]
   rfl
 ·simp only [Bool.and_eq_true, decide_eq_true_eq] at h
  refine ev_succ ?_
  simp only [spec_PalindromesOf.j0]
  refine ev_pos trivial (ev_some ?_)
  unfold palR
  rw [if_neg (fun h4 => h ⟨⟨h4.1, by omega⟩, by omega⟩)]
theorem impl_Pal_l1 (w : List Int) (i : Nat) (hw : w.length ≤ 64) (hi : i < w.length) (r : List (List Int)) (d : Nat) : ∀ (j : Nat) (acc : List (List Int)), j + d = w.length + 1 → i < j → acc.length + d ≤ 10000 →
  Ev (fun k => impl_PalindromesOf.l0 k w (acc ++ palJ w i d j) (w.length : Int) ((i + 1 : Nat) : Int)) r →
  Ev (fun k => impl_PalindromesOf.l1 k w acc (i : Int) (j : Int) (w.length : Int) (i : Int)) r := by
 induction d with
 | zero =>
  intro j acc hj hij ha hk
  have hs : wrap64 ((i : Int) + 1) = ((i + 1 : Nat) : Int) := by rw [wr1 (by omega) (by omega)]; rfl
  refine ev_succ ?_
  simp only [impl_PalindromesOf.l1, hs]
  refine ev_neg (by omega) ?_
  rw [palJ, List.append_nil] at hk
  exact hk
 | succ d ih =>
  intro j acc hj hij ha hk
  have hs : wrap64 ((j : Int) + 1) = ((j + 1 : Nat) : Int) := by rw [wr1 (by omega) (by omega)]; rfl
  have hc : (w.take ((j : Int)).toNat).drop ((i : Int)).toNat = cutW w i j := by rw [Int.toNat_natCast, Int.toNat_natCast]; rfl
  have hcl := cutW_len w i j (by omega)
  refine ev_succ ?_
  simp only [impl_PalindromesOf.l1, hs]
  refine ev_pos (by omega) (ev_pos (by omega) (ev_pos (by omega) ?_))
  rw [hc]
  refine ev_bind (impl_IsPalindrome_ev _ (by omega)) (ev_ite (fun h => ?_) (fun h => ?_))
  ·simp only [decide_eq_true_eq] at h
   refine ev_bind0 rfl (ev_pos (by simp only [List.length_nil]; omega) (ev_pos (by omega) ?_))
   refine ih (j + 1) _ (by omega) (by omega) (by simp; omega) ?_
   rw [palJ, if_pos h] at hk
   simpa using hk
  ·simp only [decide_eq_true_eq] at h
   refine ih (j + 1) _ (by omega) (by omega) (by omega) ?_
   rw [palJ, if_neg h] at hk
   exact hk
theorem impl_Pal_l0 (w : List Int) (hw : w.length ≤ 64) (d : Nat) : ∀ (i : Nat) (acc : List (List Int)), i + d = w.length → acc.length ≤ 65 * i → Ev (fun k => impl_PalindromesOf.l0 k w acc (w.length : Int) (i : Int)) (acc ++ palI w d i) := by
 induction d with
 | zero =>
  intro i acc hi ha
  refine ev_succ ?_
  simp only [impl_PalindromesOf.l0]
  exact ev_neg (by omega) (ev_some (by simp [palI]))
 | succ d ih =>
  intro i acc hi ha
  have hs : wrap64 ((i : Int) + 1) = ((i + 1 : Nat) : Int) := by rw [wr1 (by omega) (by omega)]; rfl
  refine ev_succ ?_
  simp only [impl_PalindromesOf.l0, hs]
  refine ev_pos (by omega) ?_
  have hl := palJ_len w i (w.length - i) (i + 1)
  refine impl_Pal_l1 w i hw (by omega) _ (w.length - i) (i + 1) acc (by omega) (by omega) (by omega) ?_
  refine ev_eq (ih (i + 1) _ (by omega) (by rw [List.length_append]; omega)) ?_
  simp [palI]
theorem impl_isShort_far (l : List Int) (m : Int) (hm : ¬ (l.length : Int) ≤ m) : Ev (fun k => impl_isShort.f k l m) false := by
 simp only [impl_isShort.f]
 exact ev_neg hm (ev_some rfl)
theorem impl_Pal_ev (w : List Int) (hw : w.length ≤ 1048576) : Ev (fun k => impl_PalindromesOf.f k w) (palR w) := by
 simp only [impl_PalindromesOf.f]
 by_cases h : w.length ≤ 64
 ·by_cases hA : areL 16 w = true
  ·refine ev_bind (a := palI w w.length 0) ?_ ?_
   ·refine ev_bind0 rfl (ev_bind (impl_isShort_ev w 64 (by omega) (by omega)) (ev_pos hA ?_))
    exact ev_eq (impl_Pal_l0 w h w.length 0 [] (by omega) (by simp)) (by simp)
   ·unfold hwrap
    refine ev_pos ?_ (ev_some ?_)
    ·simp only [hok, Bool.and_eq_true, decide_eq_true_eq, List.all_eq_true]
     have hl := palI_len w w.length 0
     have h3 : w.length * w.length ≤ 64 * 64 := Nat.mul_le_mul h h
     refine ⟨by omega, fun z hz => ?_⟩
     obtain ⟨s, t, h1, h2, h3, h4, _⟩ := (palI_mem w z w.length 0 (by omega)).1 hz
     rw [h4, cutW_len w s t h3]
     omega
    ·unfold palR
     rw [if_pos ⟨hA, h⟩]
     exact (spN_palI w).symm
  ·refine ev_bind (a := []) ?_ ?_
   ·refine ev_bind0 rfl (ev_bind (impl_isShort_ev w 64 (by omega) (by omega)) (ev_neg hA (ev_some rfl)))
   ·unfold hwrap
    refine ev_pos (by simp [hok]) (ev_some ?_)
    unfold palR
    rw [if_neg (fun h4 => hA h4.1)]
    rfl
 ·refine ev_bind (a := []) ?_ ?_
  ·refine ev_bind0 rfl (ev_bind (impl_isShort_far w 64 (by omega)) (ev_neg (by simp) (ev_some rfl)))
  ·unfold hwrap
   refine ev_pos (by simp [hok]) (ev_some ?_)
   unfold palR
   rw [if_neg (by omega)]
   rfl
theorem spec_Rich_ev (w : List Int) (hw : w.length ≤ 1048576) : Ev (fun k => spec_RichnessOf.f k w) (((palR w).length : Nat) : Int) := by
 simp only [spec_RichnessOf.f]
 exact ev_bind (spec_Pal_ev w hw) (ev_some rfl)
theorem impl_Rich_ev (w : List Int) (hw : w.length ≤ 1048576) : Ev (fun k => impl_RichnessOf.f k w) (((palR w).length : Nat) : Int) := by
 simp only [impl_RichnessOf.f]
 exact ev_bind (impl_Pal_ev w hw) (ev_some rfl)
def PalIn (w z : List Int) : Prop := z ≠ [] ∧ z.reverse = z ∧ z <:+: w
def NP (w : List Int) (L : List (List Int)) : Prop := L.Nodup ∧ ∀ z, z ∈ L ↔ PalIn w z
theorem pal_new_le (w : List Int) (x : Int) (u v : List Int) (hu : PalIn (w ++ [x]) u) (hu' : ¬ PalIn w u) (hv : PalIn (w ++ [x]) v) (hv' : ¬ PalIn w v) (hl : u.length ≤ v.length) : u = v := by
 obtain ⟨un, up, ui⟩ := hu
 obtain ⟨vn, vp, vi⟩ := hv
 have us : u <:+ w ++ [x] := by
  rcases List.infix_concat_iff.1 ui with h | h
  ·exact h
  ·exact absurd ⟨un, up, h⟩ hu'
 have vs : v <:+ w ++ [x] := by
  rcases List.infix_concat_iff.1 vi with h | h
  ·exact h
  ·exact absurd ⟨vn, vp, h⟩ hv'
 have uv : u <:+ v := List.suffix_of_suffix_length_le us vs hl
 by_cases e : u.length = v.length
 ·exact uv.eq_of_length e
 ·exfalso
  apply hu'
  refine ⟨un, up, ?_⟩
  have pv : u <+: v := by
   have := List.reverse_prefix.2 uv
   rwa [up, vp] at this
  obtain ⟨t, ht⟩ := vs
  have hv9 : v = v.dropLast ++ [v.getLast vn] := (List.dropLast_concat_getLast vn).symm
  rw [hv9, ← List.append_assoc] at ht
  have h1 : t ++ v.dropLast = w := (List.append_inj' ht rfl).1
  have h2 : u <+: v.dropLast := by
   have : v.dropLast <+: v := List.dropLast_prefix v
   refine List.prefix_of_prefix_length_le pv this ?_
   rw [List.length_dropLast]; omega
  obtain ⟨s, hs⟩ := h2
  exact ⟨t, s, by rw [← h1, ← hs]; simp⟩
theorem pal_new (w : List Int) (x : Int) (u v : List Int) (hu : PalIn (w ++ [x]) u) (hu' : ¬ PalIn w u) (hv : PalIn (w ++ [x]) v) (hv' : ¬ PalIn w v) : u = v := by
 by_cases hl : u.length ≤ v.length
 ·exact pal_new_le w x u v hu hu' hv hv' hl
 ·exact (pal_new_le w x v u hv hv' hu hu' (by omega)).symm
theorem NP_step (w : List Int) (x : Int) (L M : List (List Int)) (hL : NP w L) (hM : NP (w ++ [x]) M) : M.length ≤ L.length + 1 := by
 by_cases h : ∃ z, PalIn (w ++ [x]) z ∧ ¬ PalIn w z
 ·obtain ⟨z, hz1, hz2⟩ := h
  have : M ⊆ z :: L := by
   intro y hy
   by_cases hy2 : PalIn w y
   ·exact List.mem_cons_of_mem _ ((hL.2 y).2 hy2)
   ·rw [pal_new w x y z ((hM.2 y).1 hy) hy2 hz1 hz2]; exact List.mem_cons_self
  have := hM.1.length_le_of_subset this
  simpa using this
 ·have : M ⊆ L := by
   intro y hy
   have hy1 := (hM.2 y).1 hy
   by_cases hy2 : PalIn w y
   ·exact (hL.2 y).2 hy2
   ·exact absurd ⟨y, hy1, hy2⟩ h
  have := hM.1.length_le_of_subset this
  omega
theorem NP_nil (L : List (List Int)) (h : NP [] L) : L.length = 0 := by
 cases L with
 | nil => rfl
 | cons y L =>
  obtain ⟨h1, _, h3⟩ := (h.2 y).1 List.mem_cons_self
  exact absurd (List.eq_nil_of_infix_nil h3) h1
theorem NP_le (f : List Int → List (List Int)) (hf : ∀ w, NP w (f w)) (w : List Int) (k : Nat) : ∀ d, (f (w.take (k + d))).length ≤ (f (w.take k)).length + d
 | 0 => by simp
 | d + 1 => by
  have ih := NP_le f hf w k d
  by_cases hk : k + d < w.length
  ·have := NP_step _ _ _ _ (hf (w.take (k + d))) (by rw [← List.take_succ_eq_append_getElem hk]; exact hf (w.take (k + d + 1)))
   rw [show k + (d + 1) = k + d + 1 by omega]; omega
  ·rw [List.take_of_length_le (show w.length ≤ k + (d + 1) by omega)]
   rw [List.take_of_length_le (show w.length ≤ k + d by omega)] at ih
   omega
theorem NP_all (f : List Int → List (List Int)) (hf : ∀ w, NP w (f w)) (w : List Int) : (f w).length ≤ w.length := by
 have := NP_le f hf w 0 w.length
 rw [Nat.zero_add, List.take_length, List.take_zero, NP_nil _ (hf [])] at this
 omega
def pn (w : List Int) : List (List Int) := spN w w.length 1
theorem pn_NP (w : List Int) : NP w (pn w) := by
 constructor
 ·refine (spN_strict w w.length 1 (by omega)).imp ?_
  intro a b hab e
  subst e
  have := handCmpL_ord.self a
  omega
 ·intro z
  unfold pn
  rw [spN_mem w z w.length 1 (by omega)]
  constructor
  ·rintro ⟨m, t, h1, h2, h3, h4, h5⟩
   refine ⟨?_, h5, ?_⟩
   ·intro e
    have := cutW_len w t (t + m) h3
    rw [← h4, e] at this
    simp at this; omega
   ·rw [h4]
    exact (List.drop_suffix _ _).isInfix.trans (List.take_prefix _ _).isInfix
  ·rintro ⟨h1, h2, u, v, h3⟩
   have hz : 0 < z.length := List.length_pos_iff.2 h1
   have hl : w.length = u.length + z.length + v.length := by rw [← h3]; simp; omega
   refine ⟨z.length, u.length, hz, by omega, by omega, ?_, h2⟩
   unfold cutW
   rw [← h3]
   simp [List.take_append, List.drop_append]
theorem pn_le (w : List Int) : (pn w).length ≤ w.length := NP_all pn pn_NP w
def isP (w : List Int) (s n : Nat) : Prop := s + n ≤ w.length ∧ ∀ t, t < n → w[s + t]? = w[s + n - 1 - t]?
theorem isP_cut (w : List Int) (s n : Nat) (h : s + n ≤ w.length) : (cutW w s (s + n)).reverse = cutW w s (s + n) ↔ isP w s n := by
 have hl : (cutW w s (s + n)).length = n := by simp only [cutW, List.length_drop, List.length_take]; omega
 have hg : ∀ t, t < n → (cutW w s (s + n))[t]? = w[s + t]? := by
  intro t ht
  unfold cutW
  rw [List.getElem?_drop, List.getElem?_take_of_lt (by omega)]
 constructor
 ·intro e
  refine ⟨h, fun t ht => ?_⟩
  have h1 : (cutW w s (s + n)).reverse[t]? = (cutW w s (s + n))[t]? := by rw [e]
  rw [List.getElem?_reverse (by omega), hl, hg _ (by omega), hg t ht] at h1
  rw [← h1]
  congr 1; omega
 ·rintro ⟨_, h2⟩
  apply List.ext_getElem?
  intro t
  by_cases ht : t < n
  ·rw [List.getElem?_reverse (by omega), hl, hg _ (by omega), hg t ht, h2 t ht]
   congr 1; omega
  ·rw [List.getElem?_eq_none (by simp; omega), List.getElem?_eq_none (by omega)]
def bestP (w : List Int) (a n : Nat) : Prop := 1 ≤ n ∧ isP w a n ∧ ∀ s m, 1 ≤ m → isP w s m → m < n ∨ (m = n ∧ a ≤ s)
def bestC (w : List Int) (c : Nat) (a n : Nat) : Prop := ((n = 0 ∧ a = 0) ∨ (1 ≤ n ∧ isP w a n)) ∧ ∀ s m, 1 ≤ m → isP w s m → 2 * s + m < c → m < n ∨ (m = n ∧ a ≤ s)
theorem bestC_start (w : List Int) : bestC w 1 0 0 := ⟨.inl ⟨rfl, rfl⟩, fun s m h1 _ h2 => by omega⟩
def maxC (w : List Int) (c s n : Nat) : Prop := 2 * s + n = c ∧ isP w s n ∧ ∀ s' m, isP w s' m → 2 * s' + m = c → m ≤ n
theorem bestC_take {w : List Int} {c a n s m : Nat} (h : bestC w c a n) (hm : maxC w c s m) (h1 : 1 ≤ m) (hb : n < m ∨ (m = n ∧ s < a)) : bestC w (c + 1) s m := by
 refine ⟨.inr ⟨h1, hm.2.1⟩, fun s' m' h1' hp hc => ?_⟩
 by_cases e : 2 * s' + m' = c
 ·have h3 := hm.2.2 s' m' hp e
  have h4 := hm.1
  omega
 ·have := h.2 s' m' h1' hp (by omega)
  omega
theorem bestC_keep {w : List Int} {c a n s m : Nat} (h : bestC w c a n) (hm : maxC w c s m) (hb : ¬ (n < m ∨ (m = n ∧ s < a))) : bestC w (c + 1) a n := by
 refine ⟨h.1, fun s' m' h1' hp hc => ?_⟩
 by_cases e : 2 * s' + m' = c
 ·have h3 := hm.2.2 s' m' hp e
  have h4 := hm.1
  omega
 ·exact h.2 s' m' h1' hp (by omega)
theorem bestC_end {w : List Int} {a n : Nat} (hw : 1 ≤ w.length) (h : bestC w (2 * w.length) a n) : bestP w a n := by
 have hone : isP w 0 1 := ⟨by omega, fun t ht => by congr 1; omega⟩
 have h1 := h.2 0 1 (by omega) hone (by omega)
 have hn : 1 ≤ n := by omega
 refine ⟨hn, ?_, fun s m hm hp => ?_⟩
 ·rcases h.1 with h2 | h2
  ·omega
  ·exact h2.2
 ·refine h.2 s m hm hp ?_
  have := hp.1
  omega
theorem grow_more {w : List Int} {s n : Nat} (h : isP w (s + 1) n) (hj : s + 1 + n < w.length) (he : w[s]? = w[s + 1 + n]?) : isP w s (n + 2) := by
 refine ⟨by omega, fun t ht => ?_⟩
 rcases Nat.eq_zero_or_pos t with e | e
 ·subst e
  rw [Nat.add_zero, he]; congr 1; omega
 ·by_cases e2 : t = n + 1
  ·subst e2
   rw [show s + (n + 1) = s + 1 + n by omega, ← he]
   congr 1; omega
  ·have := h.2 (t - 1) (by omega)
   rw [show s + 1 + (t - 1) = s + t by omega] at this
   rw [this]
   congr 1; omega
theorem grow_stop {w : List Int} {s n : Nat} (h : isP w s n) (hs : s = 0 ∨ w.length ≤ s + n ∨ (∃ u, s = u + 1 ∧ w[u]? ≠ w[s + n]?)) : maxC w (2 * s + n) s n := by
 refine ⟨rfl, h, fun s' m hp hc => ?_⟩
 by_cases hm : m ≤ n
 ·exact hm
 ·exfalso
  have h1 := hp.1
  rcases hs with h2 | h2 | ⟨u, hu, h2⟩
  ·omega
  ·omega
  ·apply h2
   have h3 := hp.2 (u - s') (by omega)
   rw [show s' + (u - s') = u by omega] at h3
   rw [h3]
   congr 1; omega
theorem lpal_after (w : List Int) (C c a n : Nat) (D : Nat) (hD : D = C ∨ D = C + 1) (hb : bestC w D a n) (N : Int) {P : Int × Int → Prop}
  (H : ∀ a' n' : Nat, bestC w (C + 1) a' n' → a' ≤ w.length → n' ≤ w.length → Tot (fun k => impl_LongestPalindrome.l0 k w (a' : Int) (n' : Int) N ((c + 1 : Nat) : Int)) P) (ha : a ≤ w.length) (hn : n ≤ w.length) (s m : Nat) (hm : maxC w C s m) :
  Tot (fun k => if (m : Int) > (n : Int) then impl_LongestPalindrome.l0 k w (s : Int) (m : Int) N ((c + 1 : Nat) : Int) else (if (m : Int) = (n : Int) then (if (s : Int) < (a : Int) then impl_LongestPalindrome.l0 k w (s : Int) (m : Int) N ((c + 1 : Nat) : Int) else impl_LongestPalindrome.l0 k w (a : Int) (n : Int) N ((c + 1 : Nat) : Int)) else impl_LongestPalindrome.l0 k w (a : Int) (n : Int) N ((c + 1 : Nat) : Int))) P := by
 have hsm := hm.2.1.1
 have take : 1 ≤ m → (n < m ∨ (m = n ∧ s < a)) → Tot (fun k => impl_LongestPalindrome.l0 k w (s : Int) (m : Int) N ((c + 1 : Nat) : Int)) P := by
  intro h1 h2
  refine H s m ?_ (by omega) (by omega)
  rcases hD with e | e
  ·subst e; exact bestC_take hb hm h1 h2
  ·exfalso
   have := hb.2 s m h1 hm.2.1 (by have := hm.1; omega)
   omega
 have keep : ¬ (n < m ∨ (m = n ∧ s < a)) → Tot (fun k => impl_LongestPalindrome.l0 k w (a : Int) (n : Int) N ((c + 1 : Nat) : Int)) P := by
  intro h2
  refine H a n ?_ ha hn
  rcases hD with e | e
  ·subst e; exact bestC_keep hb hm h2
  ·subst e; exact hb
 refine tot_ite (fun h => take (by omega) (.inl (by omega))) (fun h => tot_ite (fun h2 => tot_ite (fun h3 => take ?_ (.inr ⟨by omega, by omega⟩)) (fun h3 => keep (by omega))) (fun h2 => keep (by omega)))
 rcases hb.1 with h4 | h4 <;> omega
theorem lpal_l1 (w : List Int) (hw : w.length ≤ 1000000) (C c a n : Nat) (D : Nat) (hD : D = C ∨ D = C + 1) (hb : bestC w D a n) (hc : c ≤ 2000000) {P : Int × Int → Prop} (N : Int)
  (H : ∀ a' n' : Nat, bestC w (C + 1) a' n' → a' ≤ w.length → n' ≤ w.length → Tot (fun k => impl_LongestPalindrome.l0 k w (a' : Int) (n' : Int) N ((c + 1 : Nat) : Int)) P) (ha : a ≤ w.length) (hn : n ≤ w.length) :
  ∀ s m : Nat, isP w s m → 2 * s + m = C → Tot (fun k => impl_LongestPalindrome.l1 k w (a : Int) (n : Int) ((s : Int) - 1) ((s + m : Nat) : Int) N (c : Int)) P := by
 have ec : wrap64 ((c : Int) + 1) = ((c + 1 : Nat) : Int) := by rw [wr1 (by omega) (by omega)]; rfl
 intro s
 induction s with
 | zero =>
  intro m hp he
  have hm := hp.1
  have e2 : wrap64 (wrap64 (((0 + m : Nat) : Int) - (((0 : Nat) : Int) - 1)) - 1) = (m : Int) := by rw [wr (n := ((0 + m : Nat) : Int) - (((0 : Nat) : Int) - 1)) (by omega) (by omega), wr (by omega) (by omega)]; omega
  have e3 : wrap64 ((((0 : Nat) : Int) - 1) + 1) = ((0 : Nat) : Int) := by rw [wr (by omega) (by omega)]; omega
  refine tot_succ ?_
  simp only [impl_LongestPalindrome.l1, e2, e3, ec]
  refine tot_neg (by omega) ?_
  exact lpal_after w C c a n D hD hb N H ha hn 0 m (by rw [← he]; exact grow_stop hp (.inl rfl))
 | succ s ih =>
  intro m hp he
  have hm := hp.1
  have e0 : ((s + 1 : Nat) : Int) - 1 = (s : Int) := by omega
  have e2 : wrap64 (wrap64 (((s + 1 + m : Nat) : Int) - (s : Int)) - 1) = (m : Int) := by rw [wr (n := ((s + 1 + m : Nat) : Int) - (s : Int)) (by omega) (by omega), wr (by omega) (by omega)]; omega
  have e3 : wrap64 ((s : Int) + 1) = ((s + 1 : Nat) : Int) := by rw [wr1 (by omega) (by omega)]; rfl
  have e4 : wrap64 ((s : Int) - 1) = (s : Int) - 1 := wr (by omega) (by omega)
  have e5 : wrap64 (((s + 1 + m : Nat) : Int) + 1) = ((s + (m + 2) : Nat) : Int) := by rw [wr1 (by omega) (by omega)]; omega
  rw [e0]
  refine tot_succ ?_
  simp only [impl_LongestPalindrome.l1, e2, e3, e4, e5, ec]
  clear e2 e3 e4 e5 ec e0
  refine tot_pos (by omega) (tot_ite (fun hj => ?_) (fun hj => ?_))
  ·refine tot_pos (by omega) ?_
   refine tot_pos (by omega) ?_
   refine tot_pos (by omega) ?_
   refine tot_ite (fun hq => ?_) (fun hq => ?_)
   ·exact ih (m + 2) (grow_more hp (by omega) ((rdq (by omega) (by omega)).1 hq)) (by omega)
   ·refine lpal_after w C c a n D hD hb N H ha hn (s + 1) m ?_
    rw [← he]
    exact grow_stop hp (.inr (.inr ⟨s, rfl, fun e => hq ((rdq (by omega) (by omega)).2 e)⟩))
  ·refine lpal_after w C c a n D hD hb N H ha hn (s + 1) m ?_
   rw [← he]
   exact grow_stop hp (.inr (.inl (by omega)))
theorem isP_nil (w : List Int) (s : Nat) (h : s ≤ w.length) : isP w s 0 := ⟨by omega, fun t ht => absurd ht (by omega)⟩
theorem lpal_step (w : List Int) (hw : w.length ≤ 1000000) (c a n : Nat) (hc : c < 2 * w.length) (D : Nat) (hD : D = max c 1 ∨ D = max c 1 + 1) (hb : bestC w D a n) {P : Int × Int → Prop} (N : Int)
  (H : ∀ a' n' : Nat, bestC w (max c 1 + 1) a' n' → a' ≤ w.length → n' ≤ w.length → Tot (fun k => impl_LongestPalindrome.l0 k w (a' : Int) (n' : Int) N ((c + 1 : Nat) : Int)) P) (ha : a ≤ w.length) (hn : n ≤ w.length) (i j : Int)
  (hij : (∃ m : Nat, i = (m : Int) ∧ j = (m : Int) ∧ 2 * m + 1 = max c 1) ∨ (∃ m : Nat, 1 ≤ m ∧ i = (m : Int) - 1 ∧ j = (m : Int) ∧ 2 * m = c)) : Tot (fun k => impl_LongestPalindrome.l1 k w (a : Int) (n : Int) i j N (c : Int)) P := by
 have L := lpal_l1 w hw (max c 1) c a n D hD hb (by omega) N H ha hn
 rcases hij with ⟨m, rfl, rfl, h3⟩ | ⟨m, h0, rfl, rfl, h3⟩
 ·have hm : m < w.length := by omega
  refine tot_succ ?_
  simp only [impl_LongestPalindrome.l1]
  refine tot_pos (by omega) (tot_pos (by omega) (tot_pos (by omega) (tot_pos (by omega) (tot_pos (by omega) (tot_pos trivial ?_)))))
  rw [wr (n := (m : Int) - 1) (by omega) (by omega), wr1 (by omega) (by omega), show (m : Int) + 1 = ((m + 1 : Nat) : Int) by omega]
  exact L m 1 ⟨by omega, fun t ht => by congr 1; omega⟩ (by omega)
 ·exact L m 0 (isP_nil w m (by omega)) (by omega)
theorem lpal_l0 (w : List Int) (hw : w.length ≤ 1000000) (h1 : 1 ≤ w.length) (d : Nat) : ∀ (c a n : Nat), c + d = 2 * w.length → a ≤ w.length → n ≤ w.length → bestC w (if c = 0 then 1 else max c 2) a n →
  Tot (fun k => impl_LongestPalindrome.l0 k w (a : Int) (n : Int) ((2 * w.length : Nat) : Int) (c : Int)) (fun r => ∃ a n : Nat, bestP w a n ∧ r = ((a : Int), (n : Int))) := by
 induction d with
 | zero =>
  intro c a n hd ha hn hb
  refine tot_succ ?_
  simp only [impl_LongestPalindrome.l0]
  refine tot_neg (by omega) (tot_some ⟨a, n, bestC_end h1 ?_, rfl⟩)
  rw [if_neg (by omega), show max c 2 = 2 * w.length by omega] at hb
  exact hb
 | succ d ih =>
  intro c a n hd ha hn hb
  have next : ∀ a' n' : Nat, bestC w (max c 1 + 1) a' n' → a' ≤ w.length → n' ≤ w.length → Tot (fun k => impl_LongestPalindrome.l0 k w (a' : Int) (n' : Int) ((2 * w.length : Nat) : Int) ((c + 1 : Nat) : Int)) (fun r => ∃ a n : Nat, bestP w a n ∧ r = ((a : Int), (n : Int))) := by
   intro a' n' hb' h2 h3
   refine ih (c + 1) a' n' (by omega) h2 h3 ?_
   rw [if_neg (by omega), show max (c + 1) 2 = max c 1 + 1 by omega]; exact hb'
  refine tot_succ ?_
  simp only [impl_LongestPalindrome.l0]
  refine tot_pos (by omega) (tot_ite (fun h0 => ?_) (fun h0 => ?_))
  ·obtain rfl : c = 0 := by omega
   refine tot_succ ?_
   simp only [impl_LongestPalindrome.j1]
   refine lpal_step w hw 0 a n (by omega) 1 (.inl rfl) (by simpa using hb) _ next ha hn _ _ (.inl ⟨0, rfl, ?_, rfl⟩)
   rw [show Int.tdiv ((0 : Nat) : Int) 2 = 0 by decide, wr (by omega) (by omega)]; rfl
  ·refine tot_succ ?_
   simp only [impl_LongestPalindrome.j1]
   rw [if_neg (by omega)] at hb
   have e1 : wrap64 (Int.tdiv (wrap64 ((c : Int) - 1)) 2) = (((c - 1) / 2 : Nat) : Int) := by
    rw [wr (n := (c : Int) - 1) (by omega) (by omega), show (c : Int) - 1 = ((c - 1 : Nat) : Int) by omega, show (2 : Int) = ((2 : Nat) : Int) from rfl, tdiv_nat, wr_nat (by omega)]
   have e2 : wrap64 (Int.tdiv (c : Int) 2) = ((c / 2 : Nat) : Int) := by
    rw [show (2 : Int) = ((2 : Nat) : Int) from rfl, tdiv_nat, wr_nat (by omega)]
   rw [e1, e2]
   refine lpal_step w hw c a n (by omega) (max c 2) (by omega) hb _ next ha hn _ _ ?_
   by_cases ho : c % 2 = 1
   ·exact .inl ⟨c / 2, by omega, rfl, by omega⟩
   ·exact .inr ⟨c / 2, by omega, by omega, rfl, by omega⟩
theorem impl_Longest_tot (w : List Int) (hw : w.length ≤ 1000000) (h1 : 1 ≤ w.length) : Tot (fun k => impl_LongestPalindrome.f k w) (fun r => ∃ a n : Nat, bestP w a n ∧ r = ((a : Int), (n : Int))) := by
 simp only [impl_LongestPalindrome.f]
 rw [wr (n := 2 * (w.length : Int)) (by omega) (by omega), show 2 * (w.length : Int) = ((2 * w.length : Nat) : Int) by omega]
 exact lpal_l0 w hw h1 (2 * w.length) 0 0 0 (by omega) (by omega) (by omega) (by simpa using bestC_start w)
theorem impl_Longest_nil : Ev (fun k => impl_LongestPalindrome.f k []) (0, 0) := by
 simp only [impl_LongestPalindrome.f]
 refine ev_succ ?_
 simp only [impl_LongestPalindrome.l0]
 rw [wr (n := 2 * (([] : List Int).length : Int)) (by simp) (by simp)]
 exact ev_neg (by simp) (ev_some rfl)
theorem spec_Longest_nil : Ev (fun k => spec_LongestPalindrome.f k []) (0, 0) := by
 simp only [spec_LongestPalindrome.f]
 refine ev_succ ?_
 simp only [spec_LongestPalindrome.l0]
 exact ev_neg (by simp) (ev_some rfl)
theorem spec_Longest_l1 (w : List Int) (hw : w.length ≤ 1000000) (a n : Nat) (hb : bestP w a n) (m : Nat) (hm : n ≤ m) (hml : m ≤ w.length) (H : n < m → Ev (fun k => spec_LongestPalindrome.l0 k w ((m : Int) - 1)) ((a : Int), (n : Int))) (d : Nat) :
  ∀ i : Nat, i + m + d = w.length + 1 → (m = n → i ≤ a) → Ev (fun k => spec_LongestPalindrome.l1 k w (m : Int) (i : Int)) ((a : Int), (n : Int)) := by
 have hal := hb.2.1.1
 induction d with
 | zero =>
  intro i hi hia
  refine ev_succ ?_
  simp only [spec_LongestPalindrome.l1]
  rw [wr (n := (i : Int) + (m : Int)) (by omega) (by omega), wr (n := (m : Int) - 1) (by omega) (by omega)]
  exact ev_neg (by omega) (H (by omega))
 | succ d ih =>
  intro i hi hia
  refine ev_succ ?_
  simp only [spec_LongestPalindrome.l1]
  rw [wr (n := (i : Int) + (m : Int)) (by omega) (by omega), wr1 (show (0 : Int) ≤ (i : Int) by omega) (by omega)]
  have hc : (w.take ((i : Int) + (m : Int)).toNat).drop ((i : Int)).toNat = cutW w i (i + m) := by
   rw [show ((i : Int) + (m : Int)).toNat = i + m by omega, Int.toNat_natCast]; rfl
  have hcl := cutW_len w i (i + m) (by omega)
  rw [hc]
  refine ev_pos (by omega) (ev_pos (by omega) (ev_pos (by omega) (ev_bind (spec_IsPal_ev _ (by omega)) (ev_ite (fun h => ev_some ?_) (fun h => ?_)))))
  ·simp only [decide_eq_true_eq] at h
   have hp := (isP_cut w i m (by omega)).1 h
   have := hb.2.2 i m (by have := hb.1; omega) hp
   have e1 : i = a := by
    have := hia (by omega)
    omega
   have e2 : m = n := by omega
   rw [e1, e2]
  ·refine ih (i + 1) (by omega) (fun e => ?_)
   have := hia e
   by_cases e3 : i = a
   ·exfalso
    subst e3; subst e
    apply h
    simp only [decide_eq_true_eq]
    exact (isP_cut w i m (by omega)).2 hb.2.1
   ·omega
theorem spec_Longest_l0 (w : List Int) (hw : w.length ≤ 1000000) (a n : Nat) (hb : bestP w a n) (d : Nat) : ∀ m : Nat, m = n + d → m ≤ w.length → Ev (fun k => spec_LongestPalindrome.l0 k w (m : Int)) ((a : Int), (n : Int)) := by
 have hal := hb.2.1.1
 have h1 := hb.1
 induction d with
 | zero =>
  intro m hm hml
  refine ev_succ ?_
  simp only [spec_LongestPalindrome.l0]
  refine ev_pos (by omega) ?_
  exact spec_Longest_l1 w hw a n hb m (by omega) hml (fun h => by omega) (w.length + 1 - m) 0 (by omega) (fun _ => by omega)
 | succ d ih =>
  intro m hm hml
  refine ev_succ ?_
  simp only [spec_LongestPalindrome.l0]
  refine ev_pos (by omega) ?_
  refine spec_Longest_l1 w hw a n hb m (by omega) hml (fun h => ?_) (w.length + 1 - m) 0 (by omega) (fun e => by omega)
  rw [show (m : Int) - 1 = ((m - 1 : Nat) : Int) by omega]
  exact ih (m - 1) (by omega) (by omega)
theorem spec_Longest_ev (w : List Int) (hw : w.length ≤ 1000000) (a n : Nat) (hb : bestP w a n) : Ev (fun k => spec_LongestPalindrome.f k w) ((a : Int), (n : Int)) := by
 have hal := hb.2.1.1
 simp only [spec_LongestPalindrome.f]
 exact spec_Longest_l0 w hw a n hb (w.length - n) w.length (by omega) (Nat.le_refl _)
theorem impl_ReverseDigits_ev (l : List Int) (hn : l.length ≤ 10000000) : Ev (fun k => impl_ReverseDigits.f k l) l.reverse := by
 simp only [impl_ReverseDigits.f, Option.bind_some, List.nil_append]
 refine ev_pos (by simp only [List.length_nil]; omega) (ev_bind (slices_Reverse_ev l (by omega)) (ev_some rfl))
theorem impl_MirrorWord_ev (l : List Int) (hn : l.length ≤ 10000000) : Ev (fun k => impl_MirrorWord.f k l) l.reverse := by
 simp only [impl_MirrorWord.f]
 exact ev_bind (impl_ReverseDigits_ev l hn) (ev_some rfl)
-- SAY: For every list the program's IsRich answers what the reference's answers, and leaves its argument alone. No conditions beyond the given statement.
def richR (w : List Int) : Bool := if areL 16 w = true ∧ w.length ≤ 64 then (((palR w).length : Nat) : Int) == (w.length : Int) else false
theorem spec_IsRich_ev (w : List Int) (hw : w.length ≤ 1048576) : Ev (fun k => spec_IsRich.f k w) (richR w) := by
 simp only [spec_IsRich.f]
 refine ev_bind (spec_IsWord_ev w 16 (by omega)) ?_
 refine ev_ite (fun h => ?_) (fun h => ev_some ?_)
 ·simp only [Bool.and_eq_true, decide_eq_true_eq] at h
  refine ev_ite (fun h2 => ev_bind (spec_Rich_ev w hw) (ev_some ?_)) (fun h2 => ev_some ?_)
  ·unfold richR
   rw [if_pos ⟨h.1.1, by omega⟩]
  ·unfold richR
   rw [if_neg (by omega)]
 ·simp only [Bool.and_eq_true, decide_eq_true_eq] at h
  unfold richR
  rw [if_neg (fun h4 => h ⟨⟨h4.1, by omega⟩, by omega⟩)]
theorem impl_IsRich_ev (w : List Int) (hw : w.length ≤ 1048576) : Ev (fun k => impl_IsRich.f k w) (richR w) := by
 simp only [impl_IsRich.f]
 by_cases h : w.length ≤ 64
 ·refine ev_bind (impl_isShort_ev w 64 (by omega) (by omega)) (ev_ite (fun hA => ev_bind (impl_Rich_ev w hw) (ev_some ?_)) (fun hA => ev_some ?_))
  ·unfold richR
   rw [if_pos ⟨hA, h⟩]
  ·unfold richR
   rw [if_neg (fun h4 => hA h4.1)]
 ·refine ev_bind (impl_isShort_far w 64 (by omega)) (ev_neg (by simp) (ev_some ?_))
  unfold richR
  rw [if_neg (by omega)]
-- SAY: For every code the law of borders holds: borders and periods, the theorem of Fine and Wilf, roots and primitive words, palindromes and richness are what the law says. No conditions beyond the given statement.
theorem has_l0 (l : List Int) (x : Int) (hl : l.length ≤ 1000000) (d : Nat) : ∀ i : Nat, i + d = l.length → Ev (fun k => laws_has.l0 k l x (i : Int)) (decide (x ∈ l.drop i)) := by
 induction d with
 | zero =>
  intro i hi
  refine ev_succ ?_
  simp only [laws_has.l0]
  refine ev_neg (by omega) (ev_some ?_)
  rw [List.drop_of_length_le (by omega)]; simp
 | succ d ih =>
  intro i hi
  refine ev_succ ?_
  simp only [laws_has.l0, wr1 (show (0 : Int) ≤ (i : Int) by omega) (by omega)]
  refine ev_pos (by omega) (ev_pos (by omega) (ev_ite (fun h => ev_some ?_) (fun h => ev_eq (ih (i + 1) (by omega)) ?_)))
  ·rw [drop_rd (show i < l.length by omega), h]; simp
  ·rw [drop_rd (show i < l.length by omega)]
   have : ¬ x = rd l (i : Int) := fun e => h e.symm
   simp [this]
theorem has_ev (l : List Int) (x : Int) (hl : l.length ≤ 1000000) : Ev (fun k => laws_has.f k l x) (decide (x ∈ l)) := by
 simp only [laws_has.f]
 exact ev_eq (has_l0 l x hl l.length 0 (by omega)) (by simp)
theorem sameWords_l0 (l : List (List Int)) (hl : l.length ≤ 1000000) (hr : ∀ r ∈ l, r.length ≤ 1000000) (d : Nat) : ∀ i : Nat, i + d = l.length → Ev (fun k => laws_sameWords.l0 k l l (i : Int)) true := by
 induction d with
 | zero =>
  intro i hi
  refine ev_succ ?_
  simp only [laws_sameWords.l0]
  exact ev_neg (by omega) (ev_some rfl)
 | succ d ih =>
  intro i hi
  refine ev_succ ?_
  simp only [laws_sameWords.l0, wr1 (show (0 : Int) ≤ (i : Int) by omega) (by omega)]
  have hm : (rd_L2 l (i : Int)).length ≤ 1000000 := by
   rw [rdLL_at_ (show i < l.length by omega)]
   exact hr _ (List.getElem_mem _)
  exact ev_pos (by omega) (ev_pos (by omega) (ev_pos (by omega) (ev_bind (sameInts_refl _ (by omega)) (ev_pos rfl (ih (i + 1) (by omega))))))
theorem sameWords_refl (l : List (List Int)) (hl : l.length ≤ 1000000) (hr : ∀ r ∈ l, r.length ≤ 1000000) : Ev (fun k => laws_sameWords.f k l l) true := by
 simp only [laws_sameWords.f]
 exact ev_pos trivial (sameWords_l0 l hl hr l.length 0 (by omega))
theorem palR_len (w : List Int) : (palR w).length ≤ w.length ∧ ∀ r ∈ palR w, r.length ≤ 1000000 := by
 unfold palR
 split
 ·rename_i h
  refine ⟨pn_le w, fun r hr => ?_⟩
  obtain ⟨m, t, _, h2, h3, h4, _⟩ := (spN_mem w r w.length 1 (by omega)).1 hr
  rw [h4, cutW_len w t (t + m) h3]
  omega
 ·exact ⟨by simp, fun r hr => by simp at hr⟩
theorem bdraw_per (l : List Int) (hn : l.length ≤ 1048576) : Tot (fun k => spec_DrawPeriodsOf.f k l) (fun r => r.length ≤ 50) := by
 simp only [spec_DrawPeriodsOf.f]
 refine tot_bind (l1New_tot l hn) (fun r hr => ?_)
 rw [hr.1, hr.2]
 exact tot_bind (l8Any_tot l 0 _ (curAt0 hn)) (fun y hy => tot_some (l8A_len hy.1))
theorem bdraw_pals (l : List Int) (hn : l.length ≤ 1048576) : Tot (fun k => spec_DrawPalindromesOf.f k l) (fun r => r.length ≤ 50) := by
 simp only [spec_DrawPalindromesOf.f]
 refine tot_bind (l1New_tot l hn) (fun r hr => ?_)
 rw [hr.1, hr.2]
 exact tot_bind (l8Any_tot l 0 _ (curAt0 hn)) (fun y hy => tot_some (l8A_len hy.1))
theorem bdraw_pal (l : List Int) (hn : l.length ≤ 1048576) : Tot (fun k => spec_DrawIsPalindrome.f k l) (fun r => r.length ≤ 50) := by
 simp only [spec_DrawIsPalindrome.f]
 refine tot_bind (l1New_tot l hn) (fun r hr => ?_)
 rw [hr.1, hr.2]
 refine tot_bind (l7Word8_tot 2 (by omega) l 0 _ (curAt0 hn)) (fun y hy => tot_bind0 (l1Once_tot l _ _ 2 hy.2 (by omega) (by omega)) (fun z hz => tot_ite (fun _ => ?_) (fun _ => tot_some ?_)))
 ·have hl := hy.1.1
  simp only [Option.bind_some, List.nil_append, List.length_nil]
  refine tot_pos (by omega) (tot_bind (tot_of (spec_ReverseDigits_ev y.1 (by omega)) rfl) (fun r hr => ?_))
  subst hr
  exact tot_pos (by rw [List.length_reverse]; omega) (tot_some (by rw [List.length_append, List.length_reverse]; omega))
 ·have hl := hy.1.1
  omega
theorem bord_j5 (w u : List Int) (hw : w.length ≤ 50) (hu : u.length ≤ 50) : Ev (fun k => laws_FnBorders.j5 k w u false) true := by
 have mir : ∀ {g : Nat → Option Bool}, (∀ k, g k = (impl_MirrorWord.f k w).bind fun t => (impl_MirrorWord.f k t).bind fun t' => (laws_sameInts.f k t' w).bind fun b => some b) → Ev g true := by
  intro g hg
  obtain rfl : g = fun k => (impl_MirrorWord.f k w).bind fun t => (impl_MirrorWord.f k t).bind fun t' => (laws_sameInts.f k t' w).bind fun b => some b := funext hg
  refine ev_bind (impl_MirrorWord_ev w (by omega)) (ev_bind (impl_MirrorWord_ev _ (by rw [List.length_reverse]; omega)) ?_)
  rw [List.reverse_reverse]
  exact ev_bind (sameInts_refl w (by omega)) (ev_some rfl)
 refine ev_succ ?_
 simp only [laws_FnBorders.j5]
 refine ev_neg (by decide) ?_
 by_cases h0 : w.length = 0
 ·obtain rfl := List.length_eq_zero_iff.1 h0
  refine ev_bind impl_Longest_nil (ev_bind spec_Longest_nil ?_)
  refine ev_bind (impl_IsPalindrome_ev u (by omega)) (ev_bind (spec_IsPal_ev u (by omega)) (ev_pos (by simp) (ev_pos rfl (ev_pos rfl (ev_pos (by simp) ?_)))))
  exact mir (fun _ => rfl)
 ·obtain ⟨r, hr, a, n, hb, rfl⟩ := impl_Longest_tot w (by omega) (by omega)
  have hal := hb.2.1.1
  have h1 := hb.1
  refine ev_bind hr (ev_bind (spec_Longest_ev w (by omega) a n hb) ?_)
  refine ev_bind (impl_IsPalindrome_ev u (by omega)) (ev_bind (spec_IsPal_ev u (by omega)) (ev_pos (by simp) (ev_pos rfl (ev_pos rfl (ev_neg (by omega) ?_)))))
  have e1 : wrap64 ((a : Int) + (n : Int)) = ((a + n : Nat) : Int) := by rw [wr (by omega) (by omega)]; omega
  have hc : (w.take (((a + n : Nat) : Int)).toNat).drop ((a : Int)).toNat = cutW w a (a + n) := by rw [Int.toNat_natCast, Int.toNat_natCast]; rfl
  have hcl := cutW_len w a (a + n) (by omega)
  simp only [e1, hc]
  refine ev_pos (by omega) (ev_pos (by omega) (ev_pos (by omega) (ev_pos (by omega) ?_)))
  refine ev_bind (ev_eq (impl_IsPalindrome_ev (cutW w a (a + n)) (by omega)) (decide_eq_true ((isP_cut w a n (by omega)).2 hb.2.1))) (ev_pos rfl ?_)
  exact mir (fun _ => rfl)
theorem bord_j4 (l w : List Int) (hn : l.length ≤ 1048576) (hw : w.length ≤ 50) : Ev (fun k => laws_FnBorders.j4 k l w false) true := by
 refine ev_succ ?_
 simp only [laws_FnBorders.j4]
 refine ev_neg (by decide) ?_
 obtain ⟨u, e1, hu⟩ := bdraw_pal l hn
 obtain ⟨q, e2, hq⟩ := bdraw_pals l hn
 have hp := palR_len q
 refine ev_bind e1 (ev_bind e2 (ev_bind (impl_Pal_ev q (by omega)) (ev_bind (spec_Pal_ev q (by omega)) (ev_bind (sameWords_refl _ (by omega) hp.2) (ev_pos rfl (ev_neg (by omega) ?_))))))
 refine ev_bind (impl_Rich_ev q (by omega)) (ev_pos rfl (ev_bind (impl_IsRich_ev q (by omega)) (ev_bind (spec_IsRich_ev q (by omega)) ?_)))
 rw [show (richR q != richR q) = false by simp]
 exact bord_j5 w u hw hu
theorem root_prim {w : List Int} {L : List Nat} (hL : Chain w w.length L) (h0 : 1 ≤ w.length) : ∃ p : Nat, 1 ≤ p ∧ p ≤ w.length ∧ (rootR w L).length = p ∧ w.length % p = 0 ∧ ∀ L', Chain (rootR w L) (rootR w L).length L' → primR (rootR w L) L' = true := by
 obtain ⟨k, L1, rfl, hk⟩ := hL.head h0
 have hkl := hk.1.1
 obtain ⟨p, hp⟩ : ∃ p : Nat, p = w.length - k := ⟨_, rfl⟩
 have hlp : leastP w.length (k :: L1) = (p : Int) := by simp only [leastP]; omega
 have hper : per w w.length p := by rw [hp]; exact per_of_bord hk.1
 have hmin : ∀ r, 1 ≤ r → r ≤ w.length → per w w.length r → p ≤ r := by
  intro r h1 h2 h3
  have := hk.2 _ (bord_of_per h1 h2 h3)
  omega
 have hmod : ((w.length : Int) % (p : Int) = 0) ↔ w.length % p = 0 := by omega
 by_cases hd : w.length % p = 0
 ·have hroot : rootR w (k :: L1) = w.take p := by
   unfold rootR
   rw [hlp, if_pos ⟨by omega, hmod.2 hd⟩, Int.toNat_natCast]
  have hlen : (w.take p).length = p := by rw [List.length_take]; omega
  refine ⟨p, by omega, by omega, by rw [hroot, hlen], hd, ?_⟩
  rw [hroot]
  intro L' hL'
  rw [hlen] at hL'
  obtain ⟨k', L2, rfl, hk'⟩ := hL'.head (by omega)
  have hk'l := hk'.1.1
  obtain ⟨q, hq⟩ : ∃ q : Nat, q = p - k' := ⟨_, rfl⟩
  have hlq : leastP (w.take p).length (k' :: L2) = (q : Int) := by simp only [leastP]; omega
  unfold primR rootR
  rw [hlq, hlen, decide_eq_true (by omega), Bool.true_and]
  by_cases hqd : (p : Int) % (q : Int) = 0
  ·rw [if_pos ⟨by omega, hqd⟩, Int.toNat_natCast]
   have hqp : q ∣ p := Nat.dvd_of_mod_eq_zero (by omega)
   have hperq : per w p q := by
    have h5 := per_of_bord hk'.1
    rw [← hq] at h5
    intro t ht
    have := h5 t ht
    rwa [List.getElem?_take_of_lt (by omega), List.getElem?_take_of_lt (by omega)] at this
   have := root_least (by omega) (Nat.dvd_of_mod_eq_zero hd) h0 hper hmin (by omega) hperq hqp
   rw [this, List.length_take, hlen]
   simp
  ·rw [if_neg (fun h => hqd h.2), hlen]
   simp
 ·have hroot : rootR w (k :: L1) = w := by
   unfold rootR
   rw [hlp, if_neg (fun h => hd (hmod.1 h.2))]
  refine ⟨w.length, h0, Nat.le_refl _, by rw [hroot], by simp, ?_⟩
  rw [hroot]
  intro L' hL'
  obtain rfl := hL'.uniq hL
  unfold primR
  rw [hroot, decide_eq_true (by omega)]
  simp
theorem bord_l0_end (l w : List Int) (L : List Nat) (hn : l.length ≤ 1048576) (hw : w.length ≤ 50) (hL : Chain w w.length L) (i : Nat) (hi : L.length ≤ i) : Ev (fun k => laws_FnBorders.l0 k l w (up L).reverse (pl w.length L) (i : Int)) true := by
 have h1 := pl_len w.length L
 refine ev_succ ?_
 simp only [laws_FnBorders.l0]
 refine ev_neg (by omega) ?_
 have hrl : (rootR w L).length ≤ w.length := by
  unfold rootR
  split
  ·rw [List.length_take]; omega
  ·exact Nat.le_refl _
 refine ev_bind (impl_RootOf_ev (by omega) hL) (ev_bind (spec_RootOf_ev (by omega) hL) (ev_bind (sameInts_refl _ (by omega)) (ev_pos rfl ?_)))
 refine ev_ite (fun h => ?_) (fun h => bord_j4 l w hn hw)
 obtain ⟨p, hp1, hp2, hp3, hp4, hp5⟩ := root_prim hL (by omega)
 obtain ⟨r, hr, L', hL', _⟩ := impl_BordersOf_tot (rootR w L) (by omega)
 refine ev_bind (ev_eq (impl_IsPrimitive_ev (by omega) hL') (hp5 L' hL')) (ev_pos rfl (ev_neg (by omega) ?_))
 rw [show (((w.length : Int) % ((rootR w L).length : Int)) != 0) = false by
  rw [bne_eq_false_iff_eq, hp3]; omega]
 exact bord_j4 l w hn hw
theorem bord_l1 (l w : List Int) (L : List Nat) (hw : w.length ≤ 50) (hL : Chain w w.length L) (i : Nat) (hi : i < L.length) (H : Ev (fun k => laws_FnBorders.l0 k l w (up L).reverse (pl w.length L) ((i + 1 : Nat) : Int)) true) (d : Nat) :
  ∀ j : Nat, j + d = i → Ev (fun k => laws_FnBorders.l1 k l w (up L).reverse (pl w.length L) (i : Int) (j : Int)) true := by
 have h1 := pl_len w.length L
 have hll := hL.len
 induction d with
 | zero =>
  intro j hj
  refine ev_succ ?_
  simp only [laws_FnBorders.l1, wr1 (show (0 : Int) ≤ (i : Int) by omega) (by omega)]
  exact ev_neg (by omega) H
 | succ d ih =>
  intro j hj
  have hli := hL.lt hi
  have hlj := hL.lt (show j < L.length by omega)
  have bi := (hL.mem L[i]).1 (List.getElem_mem hi)
  have bj := (hL.mem L[j]).1 (List.getElem_mem (show j < L.length by omega))
  have ri : rd (pl w.length L) (i : Int) = ((w.length - L[i] : Nat) : Int) := by rw [rd_pl hi]; omega
  have rj : rd (pl w.length L) (j : Int) = ((w.length - L[j] : Nat) : Int) := by rw [rd_pl (show j < L.length by omega)]; omega
  have pi := per_of_bord bi
  have pj := per_of_bord bj
  generalize hx : w.length - L[i] = x at *
  generalize hy : w.length - L[j] = y at *
  have hg1 : Nat.gcd x y ≤ x := Nat.gcd_le_left y (by omega)
  have hg0 : 1 ≤ Nat.gcd x y := Nat.gcd_pos_of_pos_left y (by omega)
  refine ev_succ ?_
  simp only [laws_FnBorders.l1, wr1 (show (0 : Int) ≤ (j : Int) by omega) (by omega), ri, rj]
  refine ev_pos (by omega) (ev_pos (by omega) (ev_pos (by omega) (ev_pos (by omega) (ev_pos (by omega) (ev_bind (laws_gcd_ev x y) ?_)))))
  rw [wr (n := (x : Int) + (y : Int)) (by omega) (by omega), wr (n := (x : Int) + (y : Int) - ((Nat.gcd x y : Nat) : Int)) (by omega) (by omega)]
  refine ev_ite (fun h => ?_) (fun h => ih (j + 1) (by omega))
  refine ev_bind (ev_eq (has_ev _ _ (by omega)) (decide_eq_true ?_)) (ev_pos rfl (ih (j + 1) (by omega)))
  have fw := fine_wilf w (x + y) x y w.length (Nat.le_refl _) (by omega) (by omega) pi pj (by omega)
  have hb := bord_of_per hg0 (by omega) fw
  have hm := (hL.mem _).2 hb
  unfold pl
  rw [List.mem_map]
  exact ⟨_, hm, by omega⟩
theorem bord_l0 (l w : List Int) (L : List Nat) (hn : l.length ≤ 1048576) (hw : w.length ≤ 50) (hL : Chain w w.length L) (d : Nat) : ∀ i : Nat, i + d = L.length → Ev (fun k => laws_FnBorders.l0 k l w (up L).reverse (pl w.length L) (i : Int)) true := by
 have h1 := pl_len w.length L
 have h2 : (up L).reverse.length = L.length := by rw [List.length_reverse, up_len]
 have hll := hL.len
 induction d with
 | zero => exact fun i hi => bord_l0_end l w L hn hw hL i (by omega)
 | succ d ih =>
  intro i hi
  have hlt : i < L.length := by omega
  have hli := hL.lt hlt
  have bi := (hL.mem L[i]).1 (List.getElem_mem hlt)
  have e1 : wrap64 (wrap64 (((up L).reverse.length : Int) - 1) - (i : Int)) = ((L.length - 1 - i : Nat) : Int) := by rw [wr (n := ((up L).reverse.length : Int) - 1) (by omega) (by omega), wr (by omega) (by omega)]; omega
  have r1 : rd (pl w.length L) (i : Int) = (w.length : Int) - (L[i] : Int) := rd_pl hlt
  have r2 : rd (up L).reverse ((L.length - 1 - i : Nat) : Int) = (L[i] : Int) := by
   rw [rd_upr (show L.length - 1 - i < L.length by omega)]
   congr 2; omega
  refine ev_succ ?_
  simp only [laws_FnBorders.l0, e1, r1, r2]
  rw [wr (n := (w.length : Int) - (L[i] : Int) + (L[i] : Int)) (by omega) (by omega), wr (n := (w.length : Int) - ((w.length : Int) - (L[i] : Int))) (by omega) (by omega)]
  refine ev_pos (by omega) (ev_pos (by omega) (ev_pos (by omega) (ev_pos (by omega) (ev_pos (by omega) ?_))))
  refine ev_pos (by omega) (ev_pos (by omega) (ev_pos (by omega) (ev_pos (by omega) ?_)))
  have e3 : w.drop ((w.length : Int) - (L[i] : Int)).toNat = w.take ((w.length : Int) - ((w.length : Int) - (L[i] : Int))).toNat := by
   rw [show ((w.length : Int) - (L[i] : Int)).toNat = w.length - L[i] by omega, show ((w.length : Int) - ((w.length : Int) - (L[i] : Int))).toNat = L[i] by omega]
   apply List.ext_getElem?
   intro t
   rw [List.getElem?_drop]
   by_cases ht : t < L[i]
   ·rw [List.getElem?_take_of_lt ht, bi.2 t ht]
   ·rw [List.getElem?_eq_none (by omega), List.getElem?_take_eq_none (by omega)]
  rw [e3]
  refine ev_bind (sameInts_refl _ (by rw [List.length_take]; omega)) ?_
  refine ev_succ ?_
  simp only [laws_FnBorders.j2]
  refine ev_neg (by decide) ?_
  exact bord_l1 l w L hw hL i hlt (ih (i + 1) (by omega)) i 0 (by omega)
theorem FnBorders : laws_FnBorders.Pure := by
 intro l hl0 hl1 hwf
 refine Ev.rounds (g := fun k => laws_FnBorders.f k l) ?_
 simp only [laws_FnBorders.f]
 refine ev_bind0 (big_eq l) (ev_ite (fun h => ev_some rfl) (fun h => ?_))
 have hn : l.length ≤ 1048576 := by
  simp only [decide_eq_true_eq] at h
  omega
 obtain ⟨w, e1, hw⟩ := bdraw_per l hn
 obtain ⟨r, hr, L, hL, _⟩ := impl_BordersOf_tot w (by omega)
 have hll := hL.len
 have h1 := pl_len w.length L
 have h2 : (up L).reverse.length = L.length := by rw [List.length_reverse, up_len]
 refine ev_bind e1 (ev_bind (impl_BordersOf_ev (by omega) hL) (ev_bind (impl_PeriodsOf_ev (by omega) hL) (ev_bind (spec_BordersOf_ev (by omega) hL) ?_)))
 refine ev_bind (sameInts_refl _ (by omega)) (ev_pos rfl (ev_bind (spec_PeriodsOf_ev (by omega) hL) (ev_bind (sameInts_refl _ (by omega)) (ev_pos rfl (ev_pos (by omega) ?_)))))
 refine ev_bind (impl_LeastPeriod_ev (by omega) hL) (ev_bind (spec_LeastPeriod_ev (by omega) hL) (ev_pos rfl ?_))
 refine ev_bind (impl_IsPrimitive_ev (by omega) hL) (ev_bind (spec_IsPrimitive_ev (by omega) hL) ?_)
 rw [show (primR w L != primR w L) = false by simp]
 refine ev_succ ?_
 simp only [laws_FnBorders.j0]
 refine ev_neg (by decide) ?_
 exact bord_l0 l w L hn (by omega) hL L.length 0 (by omega)
end Go.Proofs.Ytnhpbmagbajliaa.Pure
namespace Go.Proofs.Ytnhpbmagbajliaa.PrintWords
open Go.ChangeShapes Go.WideShapes
theorem sized_ints {H : Type} {enc : TypeId × Value → H} {P : Program} {W : World} {base : Nat} {spare : Nat → Bool} {held : Bool} {t e : TypeId} {k : IntKind} {a : Option Addr} {len cap : Nat} {d : DataW H}
  {ps : List MemPlace} {ts : List TypeId} {ds : List (DataW H)} {j : Nat} (hsz : (DataW.weightsEach P ts ds).all (· ≤ reachBytes) = true) (ht : ts[j]? = some t) (hd : ds[j]? = some d) (hu : P.underlying t = some (.slice e))
  (he : P.underlying e = some (.int k)) (hc : P.cellsOf e = 1) {B : Nat} (hB : P.bytesOf e = B) (h : DataW.Trod enc P W base spare held t (.slice a len cap) d ps) : len * B ≤ 140737488351232 :=
 Go.Proofs.YtnhpbmagbajliaaW.PrintWords.sized_ints hsz ht hd hu he hc hB h
end Go.Proofs.Ytnhpbmagbajliaa.PrintWords
