/- For all numbers the program's QuotientsOf answers what the reference's answers, in memory of its own. No conditions beyond the given statement. -/
import Derived.Test.YtihbelkchcedpaaPFnExactQuotientsOfx3
set_option linter.unusedVariables false
set_option linter.unusedSimpArgs false
namespace Go.Proofs.Ytihbelkchcedpaa.Pure
open Go.RowKit Go.Proofs.Ytihbelkchcedpaa.PFnExactQuotientsOf Go.Proofs.YtihbelkchcedpaaW.PrintWords Go.Proofs.YtihbelkchcedpaaW.PrintLast

theorem ev_succ {α : Type} {g : Nat → Option α} {r : α} (h : Ev (fun k => g (k + 1)) r) : Ev g r := Ev.step (fun _ => rfl) h
theorem ev_some {α : Type} {r r' : α} (h : r = r') : Ev (fun _ => some r) r' := by subst h; exact Ev.now r
theorem ev_pos {α : Type} {c : Prop} [Decidable c] {g f : Nat → Option α} {r : α} (hc : c) (h : Ev g r) : Ev (fun k => if c then g k else f k) r := by
  simp only [if_pos hc]; exact h
theorem ev_neg {α : Type} {c : Prop} [Decidable c] {g f : Nat → Option α} {r : α} (hc : ¬ c) (h : Ev f r) : Ev (fun k => if c then g k else f k) r := by
  simp only [if_neg hc]; exact h
theorem ev_ite {α : Type} {c : Prop} [Decidable c] {g f : Nat → Option α} {r : α} (h : c → Ev g r) (h' : ¬ c → Ev f r) : Ev (fun k => if c then g k else f k) r := by
  by_cases hc : c
  · exact ev_pos hc (h hc)
  · exact ev_neg hc (h' hc)
theorem ev_bind {α β : Type} {g : Nat → Option α} {f : Nat → α → Option β} {a : α} {r : β} (h : Ev g a) (k : Ev (fun n => f n a) r) : Ev (fun n => (g n).bind (f n)) r := Ev.bind h k
theorem ev_bind0 {α β : Type} {o : Option α} {f : Nat → α → Option β} {a : α} {r : β} (h : o = some a) (k : Ev (fun n => f n a) r) : Ev (fun n => o.bind (f n)) r := by
  subst h; exact k
theorem ev_eq {α : Type} {g : Nat → Option α} {r r' : α} (h : Ev g r) (e : r = r') : Ev g r' := e ▸ h
theorem ev_const {α : Type} {o : Option α} {r : α} (h : o = some r) : Ev (fun _ => o) r := by subst h; exact Ev.now r
theorem wr {n : Int} (h0 : -9223372036854775808 ≤ n) (h1 : n ≤ 9223372036854775807) : wrap64 n = n := by unfold wrap64; omega
theorem wr1 {i : Int} (h0 : 0 ≤ i) (h1 : i ≤ 4611686018427387904) : wrap64 (i + 1) = i + 1 := wr (by omega) (by omega)
theorem wr_nat {n : Nat} (h : n ≤ 4611686018427387904) : wrap64 (n : Int) = n := wr (by omega) (by omega)
theorem rd_nat (l : List Int) (i : Nat) : rd l (i : Int) = l.getD i 0 := by simp [rd]
theorem rd_get {l : List Int} {i : Nat} (h : i < l.length) : rd l (i : Int) = l[i] := by
  simp [rd, List.getD_eq_getElem?_getD, List.getElem?_eq_getElem h]
theorem drop_rd {l : List Int} {i : Nat} (h : i < l.length) : l.drop i = rd l (i : Int) :: l.drop (i + 1) := by
  rw [rd_get h]; exact List.drop_eq_getElem_cons h
theorem rd_mem {l : List Int} {i : Nat} (h : i < l.length) : rd l (i : Int) ∈ l := by rw [rd_get h]; exact List.getElem_mem h

theorem eqIntS_l0 (l : List Int) (hn : l.length ≤ 4611686018427387904) (d : Nat) : ∀ (i : Nat), i + d = l.length → Ev (fun k => laws_eqIntS.l0 k l l (i : Int)) true := by
  induction d with
  | zero =>
    intro i hi
    refine ev_succ ?_
    simp only [laws_eqIntS.l0]
    exact ev_neg (by omega) (ev_some rfl)
  | succ d ih =>
    intro i hi
    refine ev_succ ?_
    simp only [laws_eqIntS.l0, wr1 (show (0 : Int) ≤ (i : Int) by omega) (by omega)]
    exact ev_pos (by omega) (ev_pos (by omega) (ev_pos (by omega) (ev_pos trivial (ih (i + 1) (by omega)))))
theorem eqIntS_ev (l : List Int) (hn : l.length ≤ 4611686018427387904) : Ev (fun k => laws_eqIntS.f k l l) true := by
  simp only [laws_eqIntS.f]
  exact ev_pos trivial (eqIntS_l0 l hn l.length 0 (by omega))

def marks (m : Int) : Nat → List Int
  | 0 => []
  | n + 1 => m :: marks (m + 1) n
theorem marks_length (n : Nat) : ∀ m, (marks m n).length = n := by
  induction n with
  | zero => intro m; rfl
  | succ n ih => intro m; simp [marks, ih]
theorem marks_get (n : Nat) : ∀ (m : Int) (i : Nat), i < n → (marks m n)[i]? = some (m + i) := by
  induction n with
  | zero => intro m i h; omega
  | succ n ih =>
    intro m i h
    cases i with
    | zero => simp [marks]
    | succ i => simp only [marks, List.getElem?_cons_succ]; rw [ih (m + 1) i (by omega)]; congr 1; omega
theorem markIntS_l0 (n : Nat) (m : Int) (h0 : 0 ≤ m) (hm : m + n ≤ 4611686018427387904) (d : Nat) : ∀ (i : Nat) (x : List Int), x.length = n → i + d = n → (∀ j, j < i → x[j]? = some (m + j)) →
    Ev (fun k => laws_markIntS.l0 k x (m + i) (i : Int)) (m + n, marks m n) := by
  induction d with
  | zero =>
    intro i x hx hi hj
    refine ev_succ ?_
    simp only [laws_markIntS.l0]
    refine ev_neg (by omega) (ev_some ?_)
    have : i = n := by omega
    subst this
    congr 1
    apply List.ext_getElem?
    intro j
    by_cases h : j < i
    · rw [hj j h, marks_get i m j h]
    · rw [List.getElem?_eq_none (by omega), List.getElem?_eq_none (by rw [marks_length]; omega)]
  | succ d ih =>
    intro i x hx hi hj
    refine ev_succ ?_
    simp only [laws_markIntS.l0, wr1 (show (0 : Int) ≤ (i : Int) by omega) (by omega), wr1 (show (0 : Int) ≤ m + (i : Int) by omega) (by omega)]
    refine ev_pos (by omega) (ev_pos (by omega) ?_)
    have := ih (i + 1) (x.set i (m + i)) (by simp [hx]) (by omega) (by
      intro j hj'
      rw [List.getElem?_set]
      by_cases e : i = j
      · subst e
        rw [if_pos rfl, if_pos (by omega)]
      · rw [if_neg e]; exact hj j (by omega))
    rw [Int.toNat_natCast, Int.add_assoc]
    exact this
theorem markIntS_ev (l : List Int) (m : Int) (h0 : 0 ≤ m) (hm : m + l.length ≤ 4611686018427387904) : Ev (fun k => laws_markIntS.f k l m) (m + l.length, marks m l.length) := by
  simp only [laws_markIntS.f]
  have := markIntS_l0 l.length m h0 hm l.length 0 l rfl (by omega) (by intro j hj; omega)
  simpa using this
theorem heldIntS_l0 (n : Nat) (m : Int) (h0 : 0 ≤ m) (hm : m + n ≤ 4611686018427387904) (d : Nat) : ∀ (i : Nat), i + d = n → 
    Ev (fun k => laws_heldIntS.l0 k (marks m n) (m + i) (i : Int)) (m + n) := by
  induction d with
  | zero =>
    intro i hi
    refine ev_succ ?_
    simp only [laws_heldIntS.l0, marks_length]
    refine ev_neg (by omega) (ev_some ?_)
    omega
  | succ d ih =>
    intro i hi
    refine ev_succ ?_
    simp only [laws_heldIntS.l0, marks_length, wr1 (show (0 : Int) ≤ (i : Int) by omega) (by omega), wr1 (show (0 : Int) ≤ m + (i : Int) by omega) (by omega)]
    refine ev_pos (by omega) (ev_pos (by omega) (ev_pos ?_ ?_))
    · have h := marks_get n m i (by omega)
      rw [rd_nat, List.getD_eq_getElem?_getD, h]; rfl
    · have := ih (i + 1) (by omega)
      rw [Int.add_assoc]
      exact this
theorem heldIntS_ev (m : Int) (n : Nat) (h0 : 0 ≤ m) (hm : m + n ≤ 4611686018427387904) : Ev (fun k => laws_heldIntS.f k (marks m n) m) (m + n) := by
  simp only [laws_heldIntS.f]
  have := heldIntS_l0 n m h0 hm n 0 (by omega)
  simpa using this

theorem l1In_eq (a b c : Int) : spec_l1In.f a b c = some (decide (b ≤ a ∧ a ≤ c)) := by
  unfold spec_l1In.f
  by_cases h : a ≥ b
  · rw [if_pos h]; simp [show b ≤ a from h]
  · rw [if_neg h]; simp [show ¬ b ≤ a from h]

def quo (x : Int) : Bool := decide (1 ≤ x ∧ x ≤ 9)
def areQ (l : List Int) : Bool := l.all quo && decide (1 ≤ (l.length : Int) ∧ (l.length : Int) ≤ 8)
theorem spec_AreQuotients_l0 (l : List Int) (hn : l.length ≤ 4611686018427387904) (d : Nat) : ∀ (i : Nat), i + d = l.length →
    Ev (fun k => spec_AreQuotients.l0 k l (i : Int)) ((l.drop i).all quo && decide (1 ≤ (l.length : Int) ∧ (l.length : Int) ≤ 8)) := by
  induction d with
  | zero =>
    intro i hi
    refine ev_succ ?_
    simp only [spec_AreQuotients.l0, l1In_eq]
    refine ev_neg (by omega) (ev_some ?_)
    rw [List.drop_of_length_le (by omega)]; rfl
  | succ d ih =>
    intro i hi
    refine ev_succ ?_
    simp only [spec_AreQuotients.l0, l1In_eq, wr1 (show (0 : Int) ≤ (i : Int) by omega) (by omega), Option.bind_some]
    refine ev_pos (by omega) (ev_pos (by omega) ?_)
    rw [drop_rd (by omega : i < l.length)]
    by_cases h : 1 ≤ rd l (i : Int) ∧ rd l (i : Int) ≤ 9
    · refine ev_pos (by simpa using h) (ev_eq (ih (i + 1) (by omega)) ?_)
      simp [quo, h]
    · refine ev_neg (by simpa using h) (ev_some ?_)
      simp only [List.all_cons, quo, decide_eq_false h, Bool.false_and]
theorem spec_AreQuotients_ev (l : List Int) (hn : l.length ≤ 4611686018427387904) : Ev (fun k => spec_AreQuotients.f k l) (areQ l) := by
  simp only [spec_AreQuotients.f]
  exact spec_AreQuotients_l0 l hn l.length 0 (by omega)
theorem impl_AreQuotients_l0 (l : List Int) (hn : l.length ≤ 4611686018427387904) (d : Nat) : ∀ (i : Nat), i + d = l.length →
    Ev (fun k => impl_AreQuotients.l0 k l (l.length : Int) (i : Int)) ((l.drop i).all quo) := by
  induction d with
  | zero =>
    intro i hi
    refine ev_succ ?_
    simp only [impl_AreQuotients.l0]
    refine ev_neg (by omega) (ev_some ?_)
    rw [List.drop_of_length_le (by omega)]; rfl
  | succ d ih =>
    intro i hi
    refine ev_succ ?_
    simp only [impl_AreQuotients.l0, wr1 (show (0 : Int) ≤ (i : Int) by omega) (by omega)]
    refine ev_pos (by omega) (ev_pos (by omega) (ev_pos (by omega) ?_))
    rw [drop_rd (by omega : i < l.length)]
    refine ev_ite (fun h => ev_some ?_) (fun h => ev_ite (fun h' => ev_some ?_) (fun h' => ev_eq (ih (i + 1) (by omega)) ?_))
    · simp only [List.all_cons, quo, decide_eq_false (show ¬ (1 ≤ rd l (i : Int) ∧ rd l (i : Int) ≤ 9) by omega), Bool.false_and]
    · simp only [List.all_cons, quo, decide_eq_false (show ¬ (1 ≤ rd l (i : Int) ∧ rd l (i : Int) ≤ 9) by omega), Bool.false_and]
    · simp only [List.all_cons, quo, decide_eq_true (show (1 ≤ rd l (i : Int) ∧ rd l (i : Int) ≤ 9) by omega), Bool.true_and]
theorem impl_AreQuotients_ev (l : List Int) (hn : l.length ≤ 4611686018427387904) : Ev (fun k => impl_AreQuotients.f k l) (areQ l) := by
  simp only [impl_AreQuotients.f]
  have no : ∀ (b : Bool), b = true → areQ l = false → Ev (fun k => impl_AreQuotients.j0 k l b) (areQ l) := by
    intro b hb h
    subst hb
    refine ev_succ ?_
    simp only [impl_AreQuotients.j0]
    exact ev_pos trivial (ev_some h.symm)
  refine ev_ite (fun h => no _ rfl ?_) (fun h => ?_)
  · simp only [areQ, decide_eq_false (show ¬ (1 ≤ (l.length : Int) ∧ (l.length : Int) ≤ 8) by omega), Bool.and_false]
  · by_cases h' : (l.length : Int) > 8
    · refine no _ (by simpa using h') ?_
      simp only [areQ, decide_eq_false (show ¬ (1 ≤ (l.length : Int) ∧ (l.length : Int) ≤ 8) by omega), Bool.and_false]
    · rw [decide_eq_false h']
      refine ev_succ ?_
      simp only [impl_AreQuotients.j0]
      refine ev_neg (by simp) (ev_eq (impl_AreQuotients_l0 l hn l.length 0 (by omega)) ?_)
      simp only [areQ, decide_eq_true (show (1 ≤ (l.length : Int) ∧ (l.length : Int) ≤ 8) by omega), Bool.and_true, List.drop_zero]

theorem tmod_nat (a b : Nat) : Int.tmod (a : Int) (b : Int) = ((a % b : Nat) : Int) := by
  rw [Int.tmod_eq_emod_of_nonneg (by omega)]; exact (Int.natCast_emod a b).symm
theorem tdiv_nat (a b : Nat) : Int.tdiv (a : Int) (b : Int) = ((a / b : Nat) : Int) := by
  rw [Int.tdiv_eq_ediv_of_nonneg (by omega)]; exact (Int.natCast_ediv a b).symm
theorem gcd_step (a b : Nat) (h : b ≠ 0) : Nat.gcd a b = Nat.gcd b (a % b) := by
  rw [Nat.gcd_comm a b, Nat.gcd_rec b a, Nat.gcd_comm]
theorem impl_gcd_l0 (n : Nat) : ∀ (a b : Nat), b ≤ n → Ev (fun k => impl_gcd.l0 k (a : Int) (b : Int)) ((Nat.gcd a b : Nat) : Int) := by
  induction n with
  | zero =>
    intro a b h
    obtain rfl : b = 0 := by omega
    refine ev_succ ?_
    simp only [impl_gcd.l0]
    exact ev_pos (by omega) (ev_some (by simp))
  | succ n ih =>
    intro a b h
    refine ev_succ ?_
    simp only [impl_gcd.l0, tmod_nat]
    refine ev_ite (fun h0 => ev_some ?_) (fun h0 => ?_)
    · obtain rfl : b = 0 := by omega
      simp
    · rw [gcd_step a b (by omega)]
      exact ih b (a % b) (by have := Nat.mod_lt a (show b > 0 by omega); omega)
theorem impl_gcd_ev (a b : Nat) : Ev (fun k => impl_gcd.f k (a : Int) (b : Int)) ((Nat.gcd a b : Nat) : Int) := by
  simp only [impl_gcd.f]; exact impl_gcd_l0 b a b (Nat.le_refl _)

theorem spec_l10Gcd_l0 (n : Nat) : ∀ (a b : Nat), b ≤ n → Ev (fun k => spec_l10Gcd.l0 k (a : Int) (b : Int)) ((Nat.gcd a b : Nat) : Int) := by
  induction n with
  | zero =>
    intro a b h
    obtain rfl : b = 0 := by omega
    refine ev_succ ?_
    simp only [spec_l10Gcd.l0]
    exact ev_neg (by omega) (ev_some (by simp))
  | succ n ih =>
    intro a b h
    refine ev_succ ?_
    simp only [spec_l10Gcd.l0, tmod_nat]
    refine ev_ite (fun h0 => ?_) (fun h0 => ev_some ?_)
    · refine ev_neg (by omega) ?_
      rw [gcd_step a b (by omega)]
      exact ih b (a % b) (by have := Nat.mod_lt a (show b > 0 by omega); omega)
    · obtain rfl : b = 0 := by omega
      simp
theorem spec_l10Gcd_ev (a b : Nat) : Ev (fun k => spec_l10Gcd.f k (a : Int) (b : Int)) ((Nat.gcd a b : Nat) : Int) := by
  simp only [spec_l10Gcd.f]; exact spec_l10Gcd_l0 b a b (Nat.le_refl _)

def quotL : Nat → Nat → Nat → List Int
  | 0, _, _ => []
  | n + 1, p, q => if p = 0 then [] else ((q / p : Nat) : Int) :: quotL n (q % p) p
theorem quotL_pos (n p q : Nat) (h : ¬ p = 0) : quotL (n + 1) p q = ((q / p : Nat) : Int) :: quotL n (q % p) p := by
  conv => lhs; unfold quotL
  rw [if_neg h]
def quotFin (l : List Int) : List Int × Bool := if areQ l = true then (l, true) else ([], false)
theorem spec_QuotientsOf_l0 (n : Nat) : ∀ (p q : Nat) (acc : List Int), p ≤ n → n ≤ 100000 → q ≤ 100000 → acc.length + n ≤ 100000 →
    Ev (fun k => spec_QuotientsOf.l0 k (p : Int) (q : Int) acc) (quotFin (acc ++ quotL (n + 1) p q)) := by
  induction n with
  | zero =>
    intro p q acc hp hn hq ha
    obtain rfl : p = 0 := by omega
    refine ev_succ ?_
    simp only [spec_QuotientsOf.l0]
    refine ev_neg (by omega) (ev_bind (spec_AreQuotients_ev acc (by omega)) ?_)
    simp only [quotL, if_true, List.append_nil, quotFin]
    refine ev_ite (fun h => ev_some (by rw [if_pos h])) (fun h => ev_some (by rw [if_neg h]))
  | succ n ih =>
    intro p q acc hp hn hq ha
    refine ev_succ ?_
    simp only [spec_QuotientsOf.l0, tmod_nat, tdiv_nat]
    by_cases h0 : p = 0
    · subst h0
      refine ev_neg (by omega) (ev_bind (spec_AreQuotients_ev acc (by omega)) ?_)
      simp only [quotL, if_true, List.append_nil, quotFin]
      refine ev_ite (fun h => ev_some (by rw [if_pos h])) (fun h => ev_some (by rw [if_neg h]))
    · have hlt := Nat.mod_lt q (show p > 0 by omega)
      have hd := Nat.div_le_self q p
      refine ev_pos (by omega) (ev_neg (by omega) (ev_pos (by omega) ?_))
      rw [wr_nat (show q / p ≤ 4611686018427387904 by omega)]
      refine ev_eq (ih (q % p) p (acc ++ [((q / p : Nat) : Int)]) (by omega) (by omega) (by omega) (by simp; omega)) ?_
      rw [quotL_pos (n + 1) p q h0]; simp
theorem impl_QuotientsOf_l0 (n : Nat) : ∀ (p q : Nat) (acc : List Int), p ≤ n → n ≤ 100000 → q ≤ 100000 → acc.length + n ≤ 100000 →
    Ev (fun k => impl_QuotientsOf.l0 k (p : Int) (q : Int) acc) (quotFin (acc ++ quotL (n + 1) p q)) := by
  induction n with
  | zero =>
    intro p q acc hp hn hq ha
    obtain rfl : p = 0 := by omega
    refine ev_succ ?_
    simp only [impl_QuotientsOf.l0]
    refine ev_neg (by omega) (ev_bind (impl_AreQuotients_ev acc (by omega)) ?_)
    simp only [quotL, if_true, List.append_nil, quotFin]
    refine ev_ite (fun h => ev_some (by rw [if_pos h])) (fun h => ev_some (by rw [if_neg h]))
  | succ n ih =>
    intro p q acc hp hn hq ha
    refine ev_succ ?_
    simp only [impl_QuotientsOf.l0, tmod_nat, tdiv_nat]
    by_cases h0 : p = 0
    · subst h0
      refine ev_neg (by omega) (ev_bind (impl_AreQuotients_ev acc (by omega)) ?_)
      simp only [quotL, if_true, List.append_nil, quotFin]
      refine ev_ite (fun h => ev_some (by rw [if_pos h])) (fun h => ev_some (by rw [if_neg h]))
    · have hlt := Nat.mod_lt q (show p > 0 by omega)
      have hd := Nat.div_le_self q p
      refine ev_pos (by omega) (ev_neg (by omega) (ev_pos (by omega) ?_))
      rw [wr_nat (show q / p ≤ 4611686018427387904 by omega)]
      refine ev_eq (ih (q % p) p (acc ++ [((q / p : Nat) : Int)]) (by omega) (by omega) (by omega) (by simp; omega)) ?_
      rw [quotL_pos (n + 1) p q h0]; simp
def quotOk (p q : Int) : Bool := decide ((1 ≤ q ∧ q ≤ 100000) ∧ (1 ≤ p ∧ p ≤ q)) && decide (Nat.gcd p.toNat q.toNat = 1)
def quotRes (p q : Int) : List Int × Bool := if quotOk p q = true then quotFin (quotL 100001 p.toNat q.toNat) else ([], false)
theorem quotL_more (n : Nat) : ∀ (m p q : Nat), p ≤ n → n ≤ m → quotL (n + 1) p q = quotL (m + 1) p q := by
  induction n with
  | zero => intro m p q hp hm; obtain rfl : p = 0 := by omega
            simp [quotL]
  | succ n ih =>
    intro m p q hp hm
    by_cases h0 : p = 0
    · subst h0; simp [quotL]
    · have hlt := Nat.mod_lt q (show p > 0 by omega)
      obtain ⟨m, rfl⟩ : ∃ m', m = m' + 1 := ⟨m - 1, by omega⟩
      have := ih m (q % p) p (by omega) (by omega)
      rw [quotL_pos _ _ _ h0, quotL_pos _ _ _ h0, this]
theorem quot_no (p q : Int) (h : ¬ ((1 ≤ q ∧ q ≤ 100000) ∧ (1 ≤ p ∧ p ≤ q))) : quotRes p q = ([], false) := by
  unfold quotRes quotOk
  rw [decide_eq_false h]; simp
theorem spec_QuotientsOf_ev (p q : Int) : Ev (fun k => spec_QuotientsOf.f k p q) (quotRes p q) := by
  simp only [spec_QuotientsOf.f, l1In_eq, Option.bind_some]
  have no : quotRes p q = ([], false) → Ev (fun k => spec_QuotientsOf.j0 k p q [] true) (quotRes p q) := by
    intro h
    refine ev_succ ?_
    simp only [spec_QuotientsOf.j0]
    exact ev_pos trivial (ev_some h.symm)
  by_cases h1 : 1 ≤ q ∧ q ≤ 100000
  · refine ev_pos (by simpa using h1) ?_
    by_cases h2 : 1 ≤ p ∧ p ≤ q
    · refine ev_pos (by simpa using h2) ?_
      obtain ⟨a, rfl⟩ := Int.eq_ofNat_of_zero_le (show 0 ≤ p by omega)
      obtain ⟨b, rfl⟩ := Int.eq_ofNat_of_zero_le (show 0 ≤ q by omega)
      refine ev_bind (spec_l10Gcd_ev a b) ?_
      by_cases h3 : Nat.gcd a b = 1
      · rw [h3]
        refine ev_succ ?_
        simp only [spec_QuotientsOf.j0]
        refine ev_neg (by simp) (ev_eq (spec_QuotientsOf_l0 a a b [] (by omega) (by omega) (by omega) (by simp; omega)) ?_)
        unfold quotRes quotOk
        rw [decide_eq_true ⟨h1, h2⟩, Int.toNat_natCast, Int.toNat_natCast, decide_eq_true h3]
        simp only [Bool.and_self, if_true, List.nil_append]
        rw [quotL_more a 100000 a b (by omega) (by omega)]
      · rw [show ((((Nat.gcd a b : Nat) : Int) != 1) = true) by simp; omega]
        refine no ?_
        unfold quotRes quotOk
        rw [Int.toNat_natCast, Int.toNat_natCast, decide_eq_false h3]; simp
    · exact ev_neg (by simpa using h2) (no (quot_no p q (by omega)))
  · exact ev_neg (by simpa using h1) (no (quot_no p q (by omega)))
theorem impl_QuotientsOf_ev (p q : Int) : Ev (fun k => impl_QuotientsOf.f k p q) (quotRes p q) := by
  simp only [impl_QuotientsOf.f]
  have no : quotRes p q = ([], false) → Ev (fun k => impl_QuotientsOf.j0 k p q true) (quotRes p q) := by
    intro h
    refine ev_succ ?_
    simp only [impl_QuotientsOf.j0]
    exact ev_pos trivial (ev_some h.symm)
  refine ev_ite (fun h => no (quot_no p q (by omega))) (fun h1 => ?_)
  refine ev_ite (fun h => no (quot_no p q (by omega))) (fun h2 => ?_)
  refine ev_ite (fun h => no (quot_no p q (by omega))) (fun h3 => ?_)
  refine ev_ite (fun h => no (quot_no p q (by omega))) (fun h4 => ?_)
  obtain ⟨a, rfl⟩ := Int.eq_ofNat_of_zero_le (show 0 ≤ p by omega)
  obtain ⟨b, rfl⟩ := Int.eq_ofNat_of_zero_le (show 0 ≤ q by omega)
  refine ev_bind (impl_gcd_ev a b) ?_
  by_cases h3 : Nat.gcd a b = 1
  · rw [h3]
    refine ev_succ ?_
    simp only [impl_QuotientsOf.j0]
    refine ev_neg (by simp) (ev_eq (impl_QuotientsOf_l0 a a b [] (by omega) (by omega) (by omega) (by simp; omega)) ?_)
    unfold quotRes quotOk
    rw [decide_eq_true ⟨⟨by omega, by omega⟩, ⟨by omega, by omega⟩⟩, Int.toNat_natCast, Int.toNat_natCast, decide_eq_true h3]
    simp only [Bool.and_self, if_true, List.nil_append]
    rw [quotL_more a 100000 a b (by omega) (by omega)]
  · rw [show ((((Nat.gcd a b : Nat) : Int) != 1) = true) by simp; omega]
    refine no ?_
    unfold quotRes quotOk
    rw [Int.toNat_natCast, Int.toNat_natCast, decide_eq_false h3]; simp
theorem quotRes_length (p q : Int) : (quotRes p q).1.length ≤ 8 := by
  unfold quotRes
  split
  · unfold quotFin
    split
    · rename_i h
      simp only [areQ, Bool.and_eq_true, decide_eq_true_eq] at h
      simp only; omega
    · simp
  · simp

-- SAY: For all numbers the program's QuotientsOf answers what the reference's answers, in memory of its own. No conditions beyond the given statement.
theorem FnExactQuotientsOf : laws_FnExactQuotientsOf.Pure := by
  intro p q hp hq
  refine Ev.rounds (g := fun k => laws_FnExactQuotientsOf.f k p q) ?_
  have hl := quotRes_length p q
  have hS := spec_QuotientsOf_ev p q
  have hI := impl_QuotientsOf_ev p q
  obtain ⟨l, b, hr⟩ : ∃ l b, quotRes p q = (l, b) := ⟨_, _, rfl⟩
  rw [hr] at hl hS hI
  simp only at hl
  simp only [laws_FnExactQuotientsOf.f]
  refine ev_bind hS (ev_bind hI ?_)
  refine ev_bind (eqIntS_ev l (by omega)) (ev_pos rfl (ev_succ ?_))
  simp only [laws_FnExactQuotientsOf.j0]
  refine ev_neg (by simp) ?_
  refine ev_bind (markIntS_ev l 1 (by omega) (by omega)) ?_
  refine ev_bind (heldIntS_ev 1 l.length (by omega) (by omega)) ?_
  refine ev_neg (by omega) (ev_pos rfl ?_)
  refine ev_bind hI (ev_bind (eqIntS_ev l (by omega)) (ev_pos rfl (ev_succ ?_)))
  simp only [laws_FnExactQuotientsOf.j1]
  refine ev_neg (by simp) ?_
  refine ev_bind (heldIntS_ev 1 l.length (by omega) (by omega)) ?_
  exact ev_neg (by omega) (ev_pos rfl (ev_some rfl))

end Go.Proofs.Ytihbelkchcedpaa.Pure
