/- For every list the program's ConvergentOf answers what the reference's answers, and leaves its argument alone. No conditions beyond the given statement. -/
import Derived.Test.YtihbelkchcedpaaPFnExactConvergentOfx2
import Derived.Test.YtihbelkchcedpaaWSized
set_option linter.unusedVariables false
set_option linter.unusedSimpArgs false
namespace Go.Proofs.Ytihbelkchcedpaa.Pure
open Go.RowKit Go.Proofs.Ytihbelkchcedpaa.PFnExactConvergentOf Go.Proofs.YtihbelkchcedpaaW.PrintWords Go.Proofs.YtihbelkchcedpaaW.PrintLast

theorem ev_succ {α : Type} {g : Nat → Option α} {r : α} (h : Ev (fun k => g (k + 1)) r) : Ev g r := Ev.step (fun _ => rfl) h
theorem ev_some {α : Type} {r r' : α} (h : r = r') : Ev (fun _ => some r) r' := by subst h; exact Ev.now r
theorem ev_pos {α : Type} {c : Prop} [Decidable c] {g f : Nat → Option α} {r : α} (hc : c) (h : Ev g r) : Ev (fun k => if c then g k else f k) r := by
  simp only [if_pos hc]; exact h
theorem ev_neg {α : Type} {c : Prop} [Decidable c] {g f : Nat → Option α} {r : α} (hc : ¬ c) (h : Ev f r) : Ev (fun k => if c then g k else f k) r := by
  simp only [if_neg hc]; exact h
theorem ev_ite {α : Type} {c : Prop} [Decidable c] {g f : Nat → Option α} {r : α} (h : c → Ev g r) (h' : ¬ c → Ev f r) : Ev (fun k => if c then g k else f k) r := by
  by_cases hc : c
  · exact ev_pos hc (h hc)
  · exact ev_neg hc (h' hc)
theorem ev_bind {α β : Type} {g : Nat → Option α} {f : Nat → α → Option β} {a : α} {r : β} (h : Ev g a) (k : Ev (fun n => f n a) r) : Ev (fun n => (g n).bind (f n)) r := Ev.bind h k
theorem ev_bind0 {α β : Type} {o : Option α} {f : Nat → α → Option β} {a : α} {r : β} (h : o = some a) (k : Ev (fun n => f n a) r) : Ev (fun n => o.bind (f n)) r := by
  subst h; exact k
theorem ev_eq {α : Type} {g : Nat → Option α} {r r' : α} (h : Ev g r) (e : r = r') : Ev g r' := e ▸ h
theorem ev_const {α : Type} {o : Option α} {r : α} (h : o = some r) : Ev (fun _ => o) r := by subst h; exact Ev.now r
theorem wr {n : Int} (h0 : -9223372036854775808 ≤ n) (h1 : n ≤ 9223372036854775807) : wrap64 n = n := by unfold wrap64; omega
theorem wr1 {i : Int} (h0 : 0 ≤ i) (h1 : i ≤ 4611686018427387904) : wrap64 (i + 1) = i + 1 := wr (by omega) (by omega)
theorem wr_nat {n : Nat} (h : n ≤ 4611686018427387904) : wrap64 (n : Int) = n := wr (by omega) (by omega)
theorem rd_nat (l : List Int) (i : Nat) : rd l (i : Int) = l.getD i 0 := by simp [rd]
theorem rd_get {l : List Int} {i : Nat} (h : i < l.length) : rd l (i : Int) = l[i] := by
  simp [rd, List.getD_eq_getElem?_getD, List.getElem?_eq_getElem h]
theorem drop_rd {l : List Int} {i : Nat} (h : i < l.length) : l.drop i = rd l (i : Int) :: l.drop (i + 1) := by
  rw [rd_get h]; exact List.drop_eq_getElem_cons h
theorem rd_mem {l : List Int} {i : Nat} (h : i < l.length) : rd l (i : Int) ∈ l := by rw [rd_get h]; exact List.getElem_mem h

theorem toIntS_l0 (l : List Int) (hn : l.length ≤ 4611686018427387904) (d : Nat) : ∀ (i : Nat) (x : List Int), i + d = l.length → x.length = l.length → (∀ j, j < i → x[j]? = l[j]?) →
    Ev (fun k => laws_toIntS.l0 k l x (i : Int)) l := by
  induction d with
  | zero =>
    intro i x hi hx hj
    refine ev_succ ?_
    simp only [laws_toIntS.l0]
    refine ev_neg (by omega) (ev_some ?_)
    apply List.ext_getElem?
    intro j
    by_cases h : j < i
    · exact hj j h
    · rw [List.getElem?_eq_none (by omega), List.getElem?_eq_none (by omega)]
  | succ d ih =>
    intro i x hi hx hj
    refine ev_succ ?_
    simp only [laws_toIntS.l0, wr1 (show (0 : Int) ≤ (i : Int) by omega) (by omega)]
    refine ev_pos (by omega) (ev_pos (by omega) (ev_pos (by omega) ?_))
    refine ih (i + 1) _ (by omega) (by simp [hx]) ?_
    intro j hj'
    rw [Int.toNat_natCast, rd_get (by omega), List.getElem?_set]
    by_cases e : i = j
    · subst e
      rw [if_pos rfl, if_pos (by omega), List.getElem?_eq_getElem (by omega)]
    · rw [if_neg e]; exact hj j (by omega)
theorem toIntS_ev (l : List Int) (hn : l.length ≤ 35184372088832) : Ev (fun k => laws_toIntS.f k l) l := by
  simp only [laws_toIntS.f]
  refine ev_pos (by omega) (ev_pos (by omega) ?_)
  exact toIntS_l0 l (by omega) l.length 0 _ (by omega) (by simp) (by intro j hj; omega)

theorem eqIntS_l0 (l : List Int) (hn : l.length ≤ 4611686018427387904) (d : Nat) : ∀ (i : Nat), i + d = l.length → Ev (fun k => laws_eqIntS.l0 k l l (i : Int)) true := by
  induction d with
  | zero =>
    intro i hi
    refine ev_succ ?_
    simp only [laws_eqIntS.l0]
    exact ev_neg (by omega) (ev_some rfl)
  | succ d ih =>
    intro i hi
    refine ev_succ ?_
    simp only [laws_eqIntS.l0, wr1 (show (0 : Int) ≤ (i : Int) by omega) (by omega)]
    exact ev_pos (by omega) (ev_pos (by omega) (ev_pos (by omega) (ev_pos trivial (ih (i + 1) (by omega)))))
theorem eqIntS_ev (l : List Int) (hn : l.length ≤ 4611686018427387904) : Ev (fun k => laws_eqIntS.f k l l) true := by
  simp only [laws_eqIntS.f]
  exact ev_pos trivial (eqIntS_l0 l hn l.length 0 (by omega))

theorem l1In_eq (a b c : Int) : spec_l1In.f a b c = some (decide (b ≤ a ∧ a ≤ c)) := by
  unfold spec_l1In.f
  by_cases h : a ≥ b
  · rw [if_pos h]; simp [show b ≤ a from h]
  · rw [if_neg h]; simp [show ¬ b ≤ a from h]

def quo (x : Int) : Bool := decide (1 ≤ x ∧ x ≤ 9)
def areQ (l : List Int) : Bool := l.all quo && decide (1 ≤ (l.length : Int) ∧ (l.length : Int) ≤ 8)
theorem spec_AreQuotients_l0 (l : List Int) (hn : l.length ≤ 4611686018427387904) (d : Nat) : ∀ (i : Nat), i + d = l.length →
    Ev (fun k => spec_AreQuotients.l0 k l (i : Int)) ((l.drop i).all quo && decide (1 ≤ (l.length : Int) ∧ (l.length : Int) ≤ 8)) := by
  induction d with
  | zero =>
    intro i hi
    refine ev_succ ?_
    simp only [spec_AreQuotients.l0, l1In_eq]
    refine ev_neg (by omega) (ev_some ?_)
    rw [List.drop_of_length_le (by omega)]; rfl
  | succ d ih =>
    intro i hi
    refine ev_succ ?_
    simp only [spec_AreQuotients.l0, l1In_eq, wr1 (show (0 : Int) ≤ (i : Int) by omega) (by omega), Option.bind_some]
    refine ev_pos (by omega) (ev_pos (by omega) ?_)
    rw [drop_rd (by omega : i < l.length)]
    by_cases h : 1 ≤ rd l (i : Int) ∧ rd l (i : Int) ≤ 9
    · refine ev_pos (by simpa using h) (ev_eq (ih (i + 1) (by omega)) ?_)
      simp [quo, h]
    · refine ev_neg (by simpa using h) (ev_some ?_)
      simp only [List.all_cons, quo, decide_eq_false h, Bool.false_and]
theorem spec_AreQuotients_ev (l : List Int) (hn : l.length ≤ 4611686018427387904) : Ev (fun k => spec_AreQuotients.f k l) (areQ l) := by
  simp only [spec_AreQuotients.f]
  exact spec_AreQuotients_l0 l hn l.length 0 (by omega)
theorem impl_AreQuotients_l0 (l : List Int) (hn : l.length ≤ 4611686018427387904) (d : Nat) : ∀ (i : Nat), i + d = l.length →
    Ev (fun k => impl_AreQuotients.l0 k l (l.length : Int) (i : Int)) ((l.drop i).all quo) := by
  induction d with
  | zero =>
    intro i hi
    refine ev_succ ?_
    simp only [impl_AreQuotients.l0]
    refine ev_neg (by omega) (ev_some ?_)
    rw [List.drop_of_length_le (by omega)]; rfl
  | succ d ih =>
    intro i hi
    refine ev_succ ?_
    simp only [impl_AreQuotients.l0, wr1 (show (0 : Int) ≤ (i : Int) by omega) (by omega)]
    refine ev_pos (by omega) (ev_pos (by omega) (ev_pos (by omega) ?_))
    rw [drop_rd (by omega : i < l.length)]
    refine ev_ite (fun h => ev_some ?_) (fun h => ev_ite (fun h' => ev_some ?_) (fun h' => ev_eq (ih (i + 1) (by omega)) ?_))
    · simp only [List.all_cons, quo, decide_eq_false (show ¬ (1 ≤ rd l (i : Int) ∧ rd l (i : Int) ≤ 9) by omega), Bool.false_and]
    · simp only [List.all_cons, quo, decide_eq_false (show ¬ (1 ≤ rd l (i : Int) ∧ rd l (i : Int) ≤ 9) by omega), Bool.false_and]
    · simp only [List.all_cons, quo, decide_eq_true (show (1 ≤ rd l (i : Int) ∧ rd l (i : Int) ≤ 9) by omega), Bool.true_and]
theorem impl_AreQuotients_ev (l : List Int) (hn : l.length ≤ 4611686018427387904) : Ev (fun k => impl_AreQuotients.f k l) (areQ l) := by
  simp only [impl_AreQuotients.f]
  have no : ∀ (b : Bool), b = true → areQ l = false → Ev (fun k => impl_AreQuotients.j0 k l b) (areQ l) := by
    intro b hb h
    subst hb
    refine ev_succ ?_
    simp only [impl_AreQuotients.j0]
    exact ev_pos trivial (ev_some h.symm)
  refine ev_ite (fun h => no _ rfl ?_) (fun h => ?_)
  · simp only [areQ, decide_eq_false (show ¬ (1 ≤ (l.length : Int) ∧ (l.length : Int) ≤ 8) by omega), Bool.and_false]
  · by_cases h' : (l.length : Int) > 8
    · refine no _ (by simpa using h') ?_
      simp only [areQ, decide_eq_false (show ¬ (1 ≤ (l.length : Int) ∧ (l.length : Int) ≤ 8) by omega), Bool.and_false]
    · rw [decide_eq_false h']
      refine ev_succ ?_
      simp only [impl_AreQuotients.j0]
      refine ev_neg (by simp) (ev_eq (impl_AreQuotients_l0 l hn l.length 0 (by omega)) ?_)
      simp only [areQ, decide_eq_true (show (1 ≤ (l.length : Int) ∧ (l.length : Int) ≤ 8) by omega), Bool.and_true, List.drop_zero]

def convF (a : Int) (s : Int × Int) : Int × Int := (s.2, a * s.2 + s.1)
def convPQ (l : List Int) : Int × Int := l.foldr convF (0, 1)
def convRes (l : List Int) : Int × Int × Bool := if areQ l = true then ((convPQ l).1, (convPQ l).2, true) else (0, 0, false)
theorem areQ_mem {l : List Int} (h : areQ l = true) : ∀ x ∈ l, 1 ≤ x ∧ x ≤ 9 := by
  intro x hx
  simp only [areQ, Bool.and_eq_true, List.all_eq_true] at h
  have := h.1 x hx
  simpa [quo] using this
theorem areQ_len {l : List Int} (h : areQ l = true) : 1 ≤ l.length ∧ l.length ≤ 8 := by
  simp only [areQ, Bool.and_eq_true, decide_eq_true_eq] at h
  omega
theorem spec_ConvergentOf_l0 (l : List Int) (hq : ∀ x ∈ l, 1 ≤ x ∧ x ≤ 9) (hn : l.length ≤ 8) : ∀ (i : Nat) (p q : Int), i ≤ l.length → 0 ≤ p → 0 ≤ q → p ≤ 10 ^ (8 - i) → q ≤ 10 ^ (8 - i) →
    Ev (fun k => spec_ConvergentOf.l0 k l p q ((i : Int) - 1)) (((l.take i).foldr convF (p, q)).1, ((l.take i).foldr convF (p, q)).2, true) := by
  intro i
  induction i with
  | zero =>
    intro p q hi hp hq' hp1 hq1
    refine ev_succ ?_
    simp only [spec_ConvergentOf.l0]
    exact ev_neg (by omega) (ev_some (by simp))
  | succ i ih =>
    intro p q hi hp hq' hp1 hq1
    have hm := hq _ (rd_mem (show i < l.length by omega))
    have e : (10 : Int) ^ (8 - i) = 10 * 10 ^ (8 - (i + 1)) := by
      rw [show 8 - i = (8 - (i + 1)) + 1 by omega, Int.pow_succ]; omega
    have hb : (10 : Int) ^ (8 - (i + 1)) ≤ 10 ^ 8 := by
      have : (10 : Nat) ^ (8 - (i + 1)) ≤ 10 ^ 8 := Nat.pow_le_pow_right (by omega) (by omega)
      exact_mod_cast this
    have hprod : rd l (i : Int) * q ≤ 9 * q := Int.mul_le_mul_of_nonneg_right hm.2 hq'
    have hprod0 : 0 ≤ rd l (i : Int) * q := Int.mul_nonneg (by omega) hq'
    have e8 : (10 : Int) ^ 8 = 100000000 := by decide
    have := ih q (rd l (i : Int) * q + p) (by omega) hq' (by omega) (by omega) (by omega)
    refine ev_succ ?_
    simp only [spec_ConvergentOf.l0]
    rw [show ((i + 1 : Nat) : Int) - 1 = (i : Int) by omega]
    refine ev_pos (by omega) (ev_pos (by omega) (ev_pos (by omega) ?_))
    rw [wr (n := rd l (i : Int) * q) (by omega) (by omega), wr (n := rd l (i : Int) * q + p) (by omega) (by omega), wr (n := (i : Int) - 1) (by omega) (by omega)]
    refine ev_eq this ?_
    have ht : l.take (i + 1) = l.take i ++ [rd l (i : Int)] := by
      rw [rd_get (show i < l.length by omega)]; exact List.take_succ_eq_append_getElem (by omega)
    rw [ht, List.foldr_append]
    rfl
theorem impl_ConvergentOf_l0 (l : List Int) (hq : ∀ x ∈ l, 1 ≤ x ∧ x ≤ 9) (hn : l.length ≤ 8) : ∀ (i : Nat) (p q : Int), i ≤ l.length → 0 ≤ p → 0 ≤ q → p ≤ 10 ^ (8 - i) → q ≤ 10 ^ (8 - i) →
    Ev (fun k => impl_ConvergentOf.l0 k l p q ((i : Int) - 1)) (((l.take i).foldr convF (p, q)).1, ((l.take i).foldr convF (p, q)).2, true) := by
  intro i
  induction i with
  | zero =>
    intro p q hi hp hq' hp1 hq1
    refine ev_succ ?_
    simp only [impl_ConvergentOf.l0]
    exact ev_neg (by omega) (ev_some (by simp))
  | succ i ih =>
    intro p q hi hp hq' hp1 hq1
    have hm := hq _ (rd_mem (show i < l.length by omega))
    have e : (10 : Int) ^ (8 - i) = 10 * 10 ^ (8 - (i + 1)) := by
      rw [show 8 - i = (8 - (i + 1)) + 1 by omega, Int.pow_succ]; omega
    have hb : (10 : Int) ^ (8 - (i + 1)) ≤ 10 ^ 8 := by
      have : (10 : Nat) ^ (8 - (i + 1)) ≤ 10 ^ 8 := Nat.pow_le_pow_right (by omega) (by omega)
      exact_mod_cast this
    have hprod : rd l (i : Int) * q ≤ 9 * q := Int.mul_le_mul_of_nonneg_right hm.2 hq'
    have hprod0 : 0 ≤ rd l (i : Int) * q := Int.mul_nonneg (by omega) hq'
    have e8 : (10 : Int) ^ 8 = 100000000 := by decide
    have := ih q (rd l (i : Int) * q + p) (by omega) hq' (by omega) (by omega) (by omega)
    refine ev_succ ?_
    simp only [impl_ConvergentOf.l0]
    rw [show ((i + 1 : Nat) : Int) - 1 = (i : Int) by omega]
    refine ev_pos (by omega) (ev_pos (by omega) (ev_pos (by omega) ?_))
    rw [wr (n := rd l (i : Int) * q) (by omega) (by omega), wr (n := rd l (i : Int) * q + p) (by omega) (by omega), wr (n := (i : Int) - 1) (by omega) (by omega)]
    refine ev_eq this ?_
    have ht : l.take (i + 1) = l.take i ++ [rd l (i : Int)] := by
      rw [rd_get (show i < l.length by omega)]; exact List.take_succ_eq_append_getElem (by omega)
    rw [ht, List.foldr_append]
    rfl
theorem spec_ConvergentOf_ev (l : List Int) (hn : l.length ≤ 4611686018427387904) : Ev (fun k => spec_ConvergentOf.f k l) (convRes l) := by
  simp only [spec_ConvergentOf.f]
  refine ev_bind (spec_AreQuotients_ev l hn) ?_
  unfold convRes
  by_cases h : areQ l = true
  · have hl := areQ_len h
    have hm := areQ_mem h
    refine ev_pos h ?_
    rw [if_pos h, wr (n := (l.length : Int) - 1) (by omega) (by omega), wr (n := (l.length : Int) - 2) (by omega) (by omega)]
    refine ev_pos (by omega) (ev_pos (by omega) ?_)
    obtain ⟨i, hi⟩ : ∃ i, l.length = i + 1 := ⟨l.length - 1, by omega⟩
    rw [show (l.length : Int) - 2 = (i : Int) - 1 by omega, show (l.length : Int) - 1 = (i : Int) by omega]
    have hx := hm _ (rd_mem (show i < l.length by omega))
    have hb : (10 : Int) ^ 1 ≤ 10 ^ (8 - i) := by
      have : (10 : Nat) ^ 1 ≤ 10 ^ (8 - i) := Nat.pow_le_pow_right (by omega) (by omega)
      exact_mod_cast this
    have e1 : (10 : Int) ^ 1 = 10 := by decide
    refine ev_eq (spec_ConvergentOf_l0 l hm (by omega) i 1 (rd l (i : Int)) (by omega) (by omega) (by omega) (by omega) (by omega)) ?_
    have ht : l = l.take i ++ [rd l (i : Int)] := by
      rw [rd_get (show i < l.length by omega), ← List.take_succ_eq_append_getElem (by omega), List.take_of_length_le (by omega)]
    have : convPQ l = (l.take i).foldr convF (1, rd l (i : Int)) := by
      unfold convPQ
      conv => lhs; rw [ht]
      rw [List.foldr_append]
      simp [convF]
    rw [this]
  · refine ev_neg h (ev_some ?_)
    rw [if_neg h]
theorem impl_ConvergentOf_ev (l : List Int) (hn : l.length ≤ 4611686018427387904) : Ev (fun k => impl_ConvergentOf.f k l) (convRes l) := by
  simp only [impl_ConvergentOf.f]
  refine ev_bind (impl_AreQuotients_ev l hn) ?_
  unfold convRes
  by_cases h : areQ l = true
  · have hl := areQ_len h
    have hm := areQ_mem h
    refine ev_pos h ?_
    rw [if_pos h, wr (n := (l.length : Int) - 1) (by omega) (by omega)]
    have hb : (10 : Int) ^ 0 ≤ 10 ^ (8 - l.length) := by
      have : (10 : Nat) ^ 0 ≤ 10 ^ (8 - l.length) := Nat.pow_le_pow_right (by omega) (by omega)
      exact_mod_cast this
    have e1 : (10 : Int) ^ 0 = 1 := by decide
    refine ev_eq (impl_ConvergentOf_l0 l hm (by omega) l.length 0 1 (by omega) (by omega) (by omega) (by omega) (by omega)) ?_
    rw [List.take_length]; rfl
  · refine ev_neg h (ev_some ?_)
    rw [if_neg h]

-- SAY: For every list the program's ConvergentOf answers what the reference's answers, and leaves its argument alone. No conditions beyond the given statement.
theorem FnExactConvergentOf : laws_FnExactConvergentOf.Pure := by
  intro l hl0 hl1 hwf
  refine Ev.rounds (g := fun k => laws_FnExactConvergentOf.f k l) ?_
  simp only [laws_FnExactConvergentOf.f]
  refine ev_ite (fun h => ev_some rfl) (fun h => ?_)
  refine ev_bind (toIntS_ev l (by omega)) ?_
  refine ev_bind (spec_ConvergentOf_ev l (by omega)) ?_
  refine ev_bind (toIntS_ev l (by omega)) ?_
  refine ev_bind (impl_ConvergentOf_ev l (by omega)) ?_
  refine ev_pos rfl (ev_pos rfl (ev_succ ?_))
  simp only [laws_FnExactConvergentOf.j0]
  refine ev_neg (by simp) ?_
  refine ev_bind (toIntS_ev l (by omega)) ?_
  refine ev_bind (eqIntS_ev l (by omega)) ?_
  exact ev_pos rfl (ev_some rfl)

end Go.Proofs.Ytihbelkchcedpaa.Pure

/-! The row's word for a slice's size, under the name by which the row asks for it. -/
namespace Go.Proofs.Ytihbelkchcedpaa.PrintWords
open Go.ChangeShapes Go.WideShapes
theorem sized_ints {H : Type} {enc : TypeId × Value → H} {P : Program} {W : World} {base : Nat} {spare : Nat → Bool} {held : Bool} {t e : TypeId} {k : IntKind} {a : Option Addr} {len cap : Nat} {d : DataW H}
    {ps : List MemPlace} {ts : List TypeId} {ds : List (DataW H)} {j : Nat} (hsz : (DataW.weightsEach P ts ds).all (· ≤ reachBytes) = true) (ht : ts[j]? = some t) (hd : ds[j]? = some d) (hu : P.underlying t = some (.slice e))
    (he : P.underlying e = some (.int k)) (hc : P.cellsOf e = 1) {B : Nat} (hB : P.bytesOf e = B) (h : DataW.Trod enc P W base spare held t (.slice a len cap) d ps) : len * B ≤ 140737488351232 :=
  Go.Proofs.YtihbelkchcedpaaW.PrintWords.sized_ints hsz ht hd hu he hc hB h
end Go.Proofs.Ytihbelkchcedpaa.PrintWords
