/- For all numbers the program's UpperChristoffel answers what the reference's answers, in memory of its own. No conditions beyond the given statement. -/
import Derived.Test.YtihbelkchcedpaaPFnExactUpperChristoffelx3
set_option linter.unusedVariables false
set_option linter.unusedSimpArgs false
namespace Go.Proofs.Ytihbelkchcedpaa.Pure
open Go.RowKit Go.Proofs.Ytihbelkchcedpaa.PFnExactUpperChristoffel Go.Proofs.YtihbelkchcedpaaW.PrintWords Go.Proofs.YtihbelkchcedpaaW.PrintLast

theorem ev_succ {α : Type} {g : Nat → Option α} {r : α} (h : Ev (fun k => g (k + 1)) r) : Ev g r := Ev.step (fun _ => rfl) h
theorem ev_some {α : Type} {r r' : α} (h : r = r') : Ev (fun _ => some r) r' := by subst h; exact Ev.now r
theorem ev_pos {α : Type} {c : Prop} [Decidable c] {g f : Nat → Option α} {r : α} (hc : c) (h : Ev g r) : Ev (fun k => if c then g k else f k) r := by
  simp only [if_pos hc]; exact h
theorem ev_neg {α : Type} {c : Prop} [Decidable c] {g f : Nat → Option α} {r : α} (hc : ¬ c) (h : Ev f r) : Ev (fun k => if c then g k else f k) r := by
  simp only [if_neg hc]; exact h
theorem ev_ite {α : Type} {c : Prop} [Decidable c] {g f : Nat → Option α} {r : α} (h : c → Ev g r) (h' : ¬ c → Ev f r) : Ev (fun k => if c then g k else f k) r := by
  by_cases hc : c
  · exact ev_pos hc (h hc)
  · exact ev_neg hc (h' hc)
theorem ev_bind {α β : Type} {g : Nat → Option α} {f : Nat → α → Option β} {a : α} {r : β} (h : Ev g a) (k : Ev (fun n => f n a) r) : Ev (fun n => (g n).bind (f n)) r := Ev.bind h k
theorem ev_bind0 {α β : Type} {o : Option α} {f : Nat → α → Option β} {a : α} {r : β} (h : o = some a) (k : Ev (fun n => f n a) r) : Ev (fun n => o.bind (f n)) r := by
  subst h; exact k
theorem ev_eq {α : Type} {g : Nat → Option α} {r r' : α} (h : Ev g r) (e : r = r') : Ev g r' := e ▸ h
theorem ev_const {α : Type} {o : Option α} {r : α} (h : o = some r) : Ev (fun _ => o) r := by subst h; exact Ev.now r
theorem wr {n : Int} (h0 : -9223372036854775808 ≤ n) (h1 : n ≤ 9223372036854775807) : wrap64 n = n := by unfold wrap64; omega
theorem wr1 {i : Int} (h0 : 0 ≤ i) (h1 : i ≤ 4611686018427387904) : wrap64 (i + 1) = i + 1 := wr (by omega) (by omega)
theorem wr_nat {n : Nat} (h : n ≤ 4611686018427387904) : wrap64 (n : Int) = n := wr (by omega) (by omega)
theorem rd_nat (l : List Int) (i : Nat) : rd l (i : Int) = l.getD i 0 := by simp [rd]
theorem rd_get {l : List Int} {i : Nat} (h : i < l.length) : rd l (i : Int) = l[i] := by
  simp [rd, List.getD_eq_getElem?_getD, List.getElem?_eq_getElem h]
theorem drop_rd {l : List Int} {i : Nat} (h : i < l.length) : l.drop i = rd l (i : Int) :: l.drop (i + 1) := by
  rw [rd_get h]; exact List.drop_eq_getElem_cons h
theorem rd_mem {l : List Int} {i : Nat} (h : i < l.length) : rd l (i : Int) ∈ l := by rw [rd_get h]; exact List.getElem_mem h

theorem eqIntS_l0 (l : List Int) (hn : l.length ≤ 4611686018427387904) (d : Nat) : ∀ (i : Nat), i + d = l.length → Ev (fun k => laws_eqIntS.l0 k l l (i : Int)) true := by
  induction d with
  | zero =>
    intro i hi
    refine ev_succ ?_
    simp only [laws_eqIntS.l0]
    exact ev_neg (by omega) (ev_some rfl)
  | succ d ih =>
    intro i hi
    refine ev_succ ?_
    simp only [laws_eqIntS.l0, wr1 (show (0 : Int) ≤ (i : Int) by omega) (by omega)]
    exact ev_pos (by omega) (ev_pos (by omega) (ev_pos (by omega) (ev_pos trivial (ih (i + 1) (by omega)))))
theorem eqIntS_ev (l : List Int) (hn : l.length ≤ 4611686018427387904) : Ev (fun k => laws_eqIntS.f k l l) true := by
  simp only [laws_eqIntS.f]
  exact ev_pos trivial (eqIntS_l0 l hn l.length 0 (by omega))

def marks (m : Int) : Nat → List Int
  | 0 => []
  | n + 1 => m :: marks (m + 1) n
theorem marks_length (n : Nat) : ∀ m, (marks m n).length = n := by
  induction n with
  | zero => intro m; rfl
  | succ n ih => intro m; simp [marks, ih]
theorem marks_get (n : Nat) : ∀ (m : Int) (i : Nat), i < n → (marks m n)[i]? = some (m + i) := by
  induction n with
  | zero => intro m i h; omega
  | succ n ih =>
    intro m i h
    cases i with
    | zero => simp [marks]
    | succ i => simp only [marks, List.getElem?_cons_succ]; rw [ih (m + 1) i (by omega)]; congr 1; omega
theorem markIntS_l0 (n : Nat) (m : Int) (h0 : 0 ≤ m) (hm : m + n ≤ 4611686018427387904) (d : Nat) : ∀ (i : Nat) (x : List Int), x.length = n → i + d = n → (∀ j, j < i → x[j]? = some (m + j)) →
    Ev (fun k => laws_markIntS.l0 k x (m + i) (i : Int)) (m + n, marks m n) := by
  induction d with
  | zero =>
    intro i x hx hi hj
    refine ev_succ ?_
    simp only [laws_markIntS.l0]
    refine ev_neg (by omega) (ev_some ?_)
    have : i = n := by omega
    subst this
    congr 1
    apply List.ext_getElem?
    intro j
    by_cases h : j < i
    · rw [hj j h, marks_get i m j h]
    · rw [List.getElem?_eq_none (by omega), List.getElem?_eq_none (by rw [marks_length]; omega)]
  | succ d ih =>
    intro i x hx hi hj
    refine ev_succ ?_
    simp only [laws_markIntS.l0, wr1 (show (0 : Int) ≤ (i : Int) by omega) (by omega), wr1 (show (0 : Int) ≤ m + (i : Int) by omega) (by omega)]
    refine ev_pos (by omega) (ev_pos (by omega) ?_)
    have := ih (i + 1) (x.set i (m + i)) (by simp [hx]) (by omega) (by
      intro j hj'
      rw [List.getElem?_set]
      by_cases e : i = j
      · subst e
        rw [if_pos rfl, if_pos (by omega)]
      · rw [if_neg e]; exact hj j (by omega))
    rw [Int.toNat_natCast, Int.add_assoc]
    exact this
theorem markIntS_ev (l : List Int) (m : Int) (h0 : 0 ≤ m) (hm : m + l.length ≤ 4611686018427387904) : Ev (fun k => laws_markIntS.f k l m) (m + l.length, marks m l.length) := by
  simp only [laws_markIntS.f]
  have := markIntS_l0 l.length m h0 hm l.length 0 l rfl (by omega) (by intro j hj; omega)
  simpa using this
theorem heldIntS_l0 (n : Nat) (m : Int) (h0 : 0 ≤ m) (hm : m + n ≤ 4611686018427387904) (d : Nat) : ∀ (i : Nat), i + d = n → 
    Ev (fun k => laws_heldIntS.l0 k (marks m n) (m + i) (i : Int)) (m + n) := by
  induction d with
  | zero =>
    intro i hi
    refine ev_succ ?_
    simp only [laws_heldIntS.l0, marks_length]
    refine ev_neg (by omega) (ev_some ?_)
    omega
  | succ d ih =>
    intro i hi
    refine ev_succ ?_
    simp only [laws_heldIntS.l0, marks_length, wr1 (show (0 : Int) ≤ (i : Int) by omega) (by omega), wr1 (show (0 : Int) ≤ m + (i : Int) by omega) (by omega)]
    refine ev_pos (by omega) (ev_pos (by omega) (ev_pos ?_ ?_))
    · have h := marks_get n m i (by omega)
      rw [rd_nat, List.getD_eq_getElem?_getD, h]; rfl
    · have := ih (i + 1) (by omega)
      rw [Int.add_assoc]
      exact this
theorem heldIntS_ev (m : Int) (n : Nat) (h0 : 0 ≤ m) (hm : m + n ≤ 4611686018427387904) : Ev (fun k => laws_heldIntS.f k (marks m n) m) (m + n) := by
  simp only [laws_heldIntS.f]
  have := heldIntS_l0 n m h0 hm n 0 (by omega)
  simpa using this

theorem l1In_eq (a b c : Int) : spec_l1In.f a b c = some (decide (b ≤ a ∧ a ≤ c)) := by
  unfold spec_l1In.f
  by_cases h : a ≥ b
  · rw [if_pos h]; simp [show b ≤ a from h]
  · rw [if_neg h]; simp [show ¬ b ≤ a from h]

theorem tmod_nat (a b : Nat) : Int.tmod (a : Int) (b : Int) = ((a % b : Nat) : Int) := by
  rw [Int.tmod_eq_emod_of_nonneg (by omega)]; exact (Int.natCast_emod a b).symm
theorem tdiv_nat (a b : Nat) : Int.tdiv (a : Int) (b : Int) = ((a / b : Nat) : Int) := by
  rw [Int.tdiv_eq_ediv_of_nonneg (by omega)]; exact (Int.natCast_ediv a b).symm
theorem gcd_step (a b : Nat) (h : b ≠ 0) : Nat.gcd a b = Nat.gcd b (a % b) := by
  rw [Nat.gcd_comm a b, Nat.gcd_rec b a, Nat.gcd_comm]
theorem impl_gcd_l0 (n : Nat) : ∀ (a b : Nat), b ≤ n → Ev (fun k => impl_gcd.l0 k (a : Int) (b : Int)) ((Nat.gcd a b : Nat) : Int) := by
  induction n with
  | zero =>
    intro a b h
    obtain rfl : b = 0 := by omega
    refine ev_succ ?_
    simp only [impl_gcd.l0]
    exact ev_pos (by omega) (ev_some (by simp))
  | succ n ih =>
    intro a b h
    refine ev_succ ?_
    simp only [impl_gcd.l0, tmod_nat]
    refine ev_ite (fun h0 => ev_some ?_) (fun h0 => ?_)
    · obtain rfl : b = 0 := by omega
      simp
    · rw [gcd_step a b (by omega)]
      exact ih b (a % b) (by have := Nat.mod_lt a (show b > 0 by omega); omega)
theorem impl_gcd_ev (a b : Nat) : Ev (fun k => impl_gcd.f k (a : Int) (b : Int)) ((Nat.gcd a b : Nat) : Int) := by
  simp only [impl_gcd.f]; exact impl_gcd_l0 b a b (Nat.le_refl _)

theorem spec_l10Gcd_l0 (n : Nat) : ∀ (a b : Nat), b ≤ n → Ev (fun k => spec_l10Gcd.l0 k (a : Int) (b : Int)) ((Nat.gcd a b : Nat) : Int) := by
  induction n with
  | zero =>
    intro a b h
    obtain rfl : b = 0 := by omega
    refine ev_succ ?_
    simp only [spec_l10Gcd.l0]
    exact ev_neg (by omega) (ev_some (by simp))
  | succ n ih =>
    intro a b h
    refine ev_succ ?_
    simp only [spec_l10Gcd.l0, tmod_nat]
    refine ev_ite (fun h0 => ?_) (fun h0 => ev_some ?_)
    · refine ev_neg (by omega) ?_
      rw [gcd_step a b (by omega)]
      exact ih b (a % b) (by have := Nat.mod_lt a (show b > 0 by omega); omega)
    · obtain rfl : b = 0 := by omega
      simp
theorem spec_l10Gcd_ev (a b : Nat) : Ev (fun k => spec_l10Gcd.f k (a : Int) (b : Int)) ((Nat.gcd a b : Nat) : Int) := by
  simp only [spec_l10Gcd.f]; exact spec_l10Gcd_l0 b a b (Nat.le_refl _)

def chLet (p n i : Int) : Int := wrap64 ((wrap64 (Int.tdiv (wrap64 ((wrap64 (i + 1)) * p)) n)) - (wrap64 (Int.tdiv (wrap64 (i * p)) n)))
def chRaw (p n : Int) (m : Nat) : List Int := (List.range m).map fun (i : Nat) => chLet p n (i : Int)
theorem chRaw_succ (p n : Int) (i : Nat) : chRaw p n (i + 1) = chRaw p n i ++ [chLet p n (i : Int)] := by
  simp [chRaw, List.range_succ]
theorem chRaw_length (p n : Int) (i : Nat) : (chRaw p n i).length = i := by simp [chRaw]
def chOk (p q : Int) : Bool := decide ((0 ≤ p ∧ p ≤ 64) ∧ (0 ≤ q ∧ q ≤ 64) ∧ (1 ≤ p + q ∧ p + q ≤ 64)) && decide (Nat.gcd p.toNat q.toNat = 1)
def chRes (p q : Int) : List Int × Bool := if chOk p q = true then (chRaw p (p + q) (p + q).toNat, true) else ([], false)
theorem chRes_length (p q : Int) : (chRes p q).1.length ≤ 64 := by
  unfold chRes
  split
  · rename_i h
    simp only [chOk, Bool.and_eq_true, decide_eq_true_eq] at h
    rw [chRaw_length]; omega
  · simp
theorem spec_ChristoffelWord_l0 (p : Int) (n : Nat) (h1 : 1 ≤ n) (hn : n ≤ 64) (d : Nat) : ∀ (i : Nat), i + d = n →
    Ev (fun k => spec_ChristoffelWord.l0 k p (chRaw p n i) (n : Int) (i : Int)) (chRaw p n n, true) := by
  induction d with
  | zero =>
    intro i hi
    refine ev_succ ?_
    simp only [spec_ChristoffelWord.l0]
    refine ev_neg (by omega) (ev_some ?_)
    rw [show i = n by omega]
  | succ d ih =>
    intro i hi
    have := ih (i + 1) (by omega)
    rw [chRaw_succ] at this
    refine ev_succ ?_
    simp only [spec_ChristoffelWord.l0]
    refine ev_pos (by omega) (ev_neg (by omega) (ev_pos (by rw [chRaw_length]; omega) ?_))
    rw [wr1 (show (0 : Int) ≤ (i : Int) by omega) (by omega)]
    simp only [chLet, wr1 (show (0 : Int) ≤ (i : Int) by omega) (show (i : Int) ≤ 4611686018427387904 by omega)] at this
    exact this
theorem impl_christoffel_l0 (p q : Int) (n : Nat) (h1 : 1 ≤ n) (hn : n ≤ 64) (hpq : p + q = n) (d : Nat) : ∀ (i : Nat), i + d = n →
    Ev (fun k => impl_christoffel.l0 k p q (chRaw p n i) (n : Int) (i : Int)) (chRaw p n n) := by
  induction d with
  | zero =>
    intro i hi
    refine ev_succ ?_
    simp only [impl_christoffel.l0]
    refine ev_neg (by omega) (ev_some ?_)
    rw [show i = n by omega]
  | succ d ih =>
    intro i hi
    have := ih (i + 1) (by omega)
    rw [chRaw_succ] at this
    refine ev_succ ?_
    simp only [impl_christoffel.l0, wr1 (show (0 : Int) ≤ (i : Int) by omega) (show (i : Int) ≤ 4611686018427387904 by omega), hpq, wr_nat (show n ≤ 4611686018427387904 by omega)]
    refine ev_pos (by omega) (ev_neg (by omega) (ev_pos (by rw [chRaw_length]; omega) ?_))
    simp only [chLet, wr1 (show (0 : Int) ≤ (i : Int) by omega) (show (i : Int) ≤ 4611686018427387904 by omega)] at this
    exact this
theorem gcd_mxmn (a b : Nat) : Nat.gcd (max a b) (min a b) = Nat.gcd a b := by
  rcases Nat.le_total a b with h | h
  · rw [Nat.max_eq_right h, Nat.min_eq_left h, Nat.gcd_comm]
  · rw [Nat.max_eq_left h, Nat.min_eq_right h]
theorem spec_l24Fine_ev (p q : Int) : Ev (fun k => spec_l24Fine.f k p q) (chOk p q) := by
  simp only [spec_l24Fine.f, l1In_eq, Option.bind_some]
  have no : ¬ ((0 ≤ p ∧ p ≤ 64) ∧ (0 ≤ q ∧ q ≤ 64) ∧ (1 ≤ p + q ∧ p + q ≤ 64)) → Ev (fun _ => some false) (chOk p q) := by
    intro h
    refine ev_some ?_
    simp only [chOk, decide_eq_false h, Bool.false_and]
  by_cases h1 : 0 ≤ p ∧ p ≤ 64
  · refine ev_pos (by simpa using h1) ?_
    by_cases h2 : 0 ≤ q ∧ q ≤ 64
    · refine ev_pos (by simpa using h2) ?_
      rw [wr (by omega) (by omega)]
      by_cases h3 : 1 ≤ p + q ∧ p + q ≤ 64
      · refine ev_pos (by simpa using h3) ?_
        obtain ⟨a, rfl⟩ := Int.eq_ofNat_of_zero_le (show 0 ≤ p by omega)
        obtain ⟨b, rfl⟩ := Int.eq_ofNat_of_zero_le (show 0 ≤ q by omega)
        have e1 : mx (a : Int) (b : Int) = ((max a b : Nat) : Int) := by unfold mx; omega
        have e2 : mn (a : Int) (b : Int) = ((min a b : Nat) : Int) := by unfold mn; omega
        rw [e1, e2]
        refine ev_bind (spec_l10Gcd_ev _ _) (ev_some ?_)
        rw [gcd_mxmn]
        simp only [chOk, decide_eq_true (⟨h1, h2, h3⟩ : (0 ≤ (a : Int) ∧ (a : Int) ≤ 64) ∧ (0 ≤ (b : Int) ∧ (b : Int) ≤ 64) ∧ (1 ≤ (a : Int) + b ∧ (a : Int) + b ≤ 64)), Bool.true_and, Int.toNat_natCast]
        rw [Bool.eq_iff_iff]
        simp only [beq_iff_eq, decide_eq_true_eq]
        omega
      · exact ev_neg (by simpa using h3) (no (by omega))
    · exact ev_neg (by simpa using h2) (no (by omega))
  · exact ev_neg (by simpa using h1) (no (by omega))
theorem spec_ChristoffelWord_ev (p q : Int) : Ev (fun k => spec_ChristoffelWord.f k p q) (chRes p q) := by
  simp only [spec_ChristoffelWord.f]
  refine ev_bind (spec_l24Fine_ev p q) (ev_ite (fun h => ?_) (fun h => ev_some (by unfold chRes; rw [if_neg h])))
  have h' := h
  simp only [chOk, Bool.and_eq_true, decide_eq_true_eq] at h'
  obtain ⟨n, hn⟩ := Int.eq_ofNat_of_zero_le (show 0 ≤ p + q by omega)
  unfold chRes
  rw [if_pos h, hn, Int.toNat_natCast, wr_nat (by omega)]
  exact spec_ChristoffelWord_l0 p n (by omega) (by omega) n 0 (by omega)
theorem impl_ChristoffelWord_ev (p q : Int) : Ev (fun k => impl_ChristoffelWord.f k p q) (chRes p q) := by
  simp only [impl_ChristoffelWord.f]
  have no : ¬ ((0 ≤ p ∧ p ≤ 64) ∧ (0 ≤ q ∧ q ≤ 64) ∧ (1 ≤ p + q ∧ p + q ≤ 64)) → Ev (fun _ => some (([] : List Int), false)) (chRes p q) := by
    intro h
    refine ev_some ?_
    simp [chRes, chOk, decide_eq_false h]
  refine ev_ite (fun h => no (by omega)) (fun h1 => ?_)
  refine ev_ite (fun h => no (by omega)) (fun h2 => ?_)
  refine ev_ite (fun h => no (by omega)) (fun h3 => ?_)
  refine ev_ite (fun h => no (by omega)) (fun h4 => ?_)
  rw [wr (by omega) (by omega)]
  refine ev_ite (fun h => no (by omega)) (fun h5 => ?_)
  refine ev_ite (fun h => no (by omega)) (fun h6 => ?_)
  obtain ⟨a, rfl⟩ := Int.eq_ofNat_of_zero_le (show 0 ≤ p by omega)
  obtain ⟨b, rfl⟩ := Int.eq_ofNat_of_zero_le (show 0 ≤ q by omega)
  refine ev_bind (impl_gcd_ev a b) ?_
  have hg : 0 < Nat.gcd a b := by
    rcases Nat.eq_zero_or_pos a with h | h
    · exact Nat.gcd_pos_of_pos_right _ (by omega)
    · exact Nat.gcd_pos_of_pos_left _ h
  have hd : decide ((0 ≤ (a : Int) ∧ (a : Int) ≤ 64) ∧ (0 ≤ (b : Int) ∧ (b : Int) ≤ 64) ∧ (1 ≤ (a : Int) + b ∧ (a : Int) + b ≤ 64)) = true := decide_eq_true ⟨by omega, by omega, by omega⟩
  refine ev_ite (fun h => ev_some ?_) (fun h => ?_)
  · unfold chRes chOk
    rw [hd, Int.toNat_natCast, Int.toNat_natCast, decide_eq_false (by omega)]; rfl
  · unfold chRes chOk
    rw [hd, Int.toNat_natCast, Int.toNat_natCast, decide_eq_true (by omega)]
    simp only [Bool.and_self, if_true]
    simp only [impl_christoffel.f]
    rw [show (a : Int) + b = ((a + b : Nat) : Int) by omega, wr_nat (by omega), Int.toNat_natCast]
    exact ev_bind (impl_christoffel_l0 a b (a + b) (by omega) (by omega) (by omega) (a + b) 0 (by omega)) (ev_some rfl)

theorem slices_Reverse_l0 (l : List Int) (hn : l.length ≤ 4611686018427387904) (d : Nat) : ∀ (i : Nat) (x : List Int), l.length ≤ 2 * i + 2 * d → 2 * i ≤ l.length + 1 → x.length = l.length →
    (∀ t, t < l.length → x[t]? = if t < i ∨ l.length ≤ t + i then l[l.length - 1 - t]? else l[t]?) →
    Ev (fun k => slices_Reverse_int_int.l0 k x (i : Int) ((l.length : Int) - 1 - i)) l.reverse := by
  induction d with
  | zero =>
    intro i x hd hi hx hh
    refine ev_succ ?_
    simp only [slices_Reverse_int_int.l0]
    refine ev_neg (by omega) (ev_some ?_)
    apply List.ext_getElem?
    intro t
    by_cases ht : t < l.length
    · rw [List.getElem?_reverse ht, hh t ht]
      split
      · rfl
      · omega
    · rw [List.getElem?_eq_none (by omega), List.getElem?_eq_none (by simp; omega)]
  | succ d ih =>
    intro i x hd hi hx hh
    by_cases hlt : 2 * i < l.length - 1
    · refine ev_succ ?_
      simp only [slices_Reverse_int_int.l0]
      refine ev_pos (by omega) (ev_pos (by omega) (ev_pos (by omega) (ev_pos (by omega) (ev_pos (by omega) ?_))))
      obtain ⟨j, hj⟩ : ∃ j : Nat, (l.length : Int) - 1 - i = (j : Int) := ⟨l.length - 1 - i, by omega⟩
      rw [hj, wr1 (by omega) (by omega), wr (n := (j : Int) - 1) (by omega) (by omega), Int.toNat_natCast, Int.toNat_natCast]
      rw [show (j : Int) - 1 = (l.length : Int) - 1 - ((i + 1 : Nat) : Int) by omega]
      refine ih (i + 1) _ (by omega) (by omega) (by simp [hx]) ?_
      intro t ht
      have hij : i < j := by omega
      have hjl : j < l.length := by omega
      have hxi := hh i (by omega)
      have hxj := hh j (by omega)
      rw [if_neg (by omega)] at hxi hxj
      have hri : rd x (i : Int) = l[i] := by rw [rd_nat, List.getD_eq_getElem?_getD, hxi, List.getElem?_eq_getElem (by omega)]; rfl
      have hrj : rd x (j : Int) = l[j] := by rw [rd_nat, List.getD_eq_getElem?_getD, hxj, List.getElem?_eq_getElem (by omega)]; rfl
      rw [hri, hrj, List.getElem?_set, List.length_set, List.getElem?_set]
      by_cases e1 : j = t
      · subst e1
        rw [if_pos rfl, if_pos (by omega), if_pos (by omega), show l.length - 1 - j = i by omega, List.getElem?_eq_getElem]
      · rw [if_neg e1]
        by_cases e2 : i = t
        · subst e2
          rw [if_pos rfl, if_pos (by omega), if_pos (by omega), List.getElem?_eq_getElem (show l.length - 1 - i < l.length by omega)]
          congr 2; omega
        · rw [if_neg e2, hh t ht]
          by_cases e3 : t < i ∨ l.length ≤ t + i
          · rw [if_pos e3, if_pos (by omega)]
          · rw [if_neg e3, if_neg (by omega)]
    · refine ev_succ ?_
      simp only [slices_Reverse_int_int.l0]
      refine ev_neg (by omega) (ev_some ?_)
      apply List.ext_getElem?
      intro t
      by_cases ht : t < l.length
      · rw [List.getElem?_reverse ht, hh t ht]
        split
        · rfl
        · congr 1; omega
      · rw [List.getElem?_eq_none (by omega), List.getElem?_eq_none (by simp; omega)]
theorem slices_Reverse_ev (l : List Int) (hn : l.length ≤ 4611686018427387904) : Ev (fun k => slices_Reverse_int_int.f k l) l.reverse := by
  simp only [slices_Reverse_int_int.f]
  rw [wr (n := (l.length : Int) - 1) (by omega) (by omega)]
  have := slices_Reverse_l0 l hn l.length 0 l (by omega) (by omega) rfl (by intro t ht; rw [if_neg (by omega)])
  simpa using this

theorem impl_ReverseDigits_ev (l : List Int) (hn : l.length ≤ 10000000) : Ev (fun k => impl_ReverseDigits.f k l) l.reverse := by
  simp only [impl_ReverseDigits.f, Option.bind_some, List.nil_append]
  refine ev_pos (by simp only [List.length_nil]; omega) (ev_bind (slices_Reverse_ev l (by omega)) (ev_some rfl))
theorem impl_MirrorWord_ev (l : List Int) (hn : l.length ≤ 10000000) : Ev (fun k => impl_MirrorWord.f k l) l.reverse := by
  simp only [impl_MirrorWord.f]
  exact ev_bind (impl_ReverseDigits_ev l hn) (ev_some rfl)

theorem spec_ReverseDigits_l0 (l : List Int) (hn : l.length ≤ 10000000) : ∀ (i : Nat) (acc : List Int), i ≤ l.length → acc.length + i ≤ 10000000 →
    Ev (fun k => spec_ReverseDigits.l0 k l acc ((i : Int) - 1)) (acc ++ (l.take i).reverse) := by
  intro i
  induction i with
  | zero =>
    intro acc hi ha
    refine ev_succ ?_
    simp only [spec_ReverseDigits.l0]
    exact ev_neg (by omega) (ev_some (by simp))
  | succ i ih =>
    intro acc hi ha
    refine ev_succ ?_
    simp only [spec_ReverseDigits.l0]
    rw [show ((i + 1 : Nat) : Int) - 1 = (i : Int) by omega]
    refine ev_pos (by omega) (ev_pos (by omega) (ev_pos (by omega) (ev_pos (by omega) ?_)))
    rw [wr (n := (i : Int) - 1) (by omega) (by omega)]
    refine ev_eq (ih (acc ++ [rd l (i : Int)]) (by omega) (by simp; omega)) ?_
    have ht : l.take (i + 1) = l.take i ++ [rd l (i : Int)] := by
      rw [rd_get (show i < l.length by omega)]; exact List.take_succ_eq_append_getElem (by omega)
    rw [ht]; simp
theorem spec_ReverseDigits_ev (l : List Int) (hn : l.length ≤ 10000000) : Ev (fun k => spec_ReverseDigits.f k l) l.reverse := by
  simp only [spec_ReverseDigits.f]
  rw [wr (n := (l.length : Int) - 1) (by omega) (by omega)]
  exact ev_eq (spec_ReverseDigits_l0 l hn l.length [] (by omega) (by simp; omega)) (by simp)

def ucRes (p q : Int) : List Int × Bool := ((chRes p q).1.reverse, (chRes p q).2)
theorem ucRes_length (p q : Int) : (ucRes p q).1.length ≤ 64 := by
  have := chRes_length p q
  simpa [ucRes] using this
theorem spec_UpperChristoffel_ev (p q : Int) : Ev (fun k => spec_UpperChristoffel.f k p q) (ucRes p q) := by
  have hl := chRes_length p q
  simp only [spec_UpperChristoffel.f]
  refine ev_bind (spec_ChristoffelWord_ev p q) (ev_ite (fun h => ?_) (fun h => ev_some ?_))
  · refine ev_bind (spec_ReverseDigits_ev _ (by omega)) (ev_some ?_)
    unfold ucRes; rw [h]
  · unfold ucRes
    unfold chRes at h ⊢
    split
    · rename_i h'; rw [if_pos h'] at h; exact absurd rfl h
    · rfl
theorem impl_UpperChristoffel_ev (p q : Int) : Ev (fun k => impl_UpperChristoffel.f k p q) (ucRes p q) := by
  have hl := chRes_length p q
  simp only [impl_UpperChristoffel.f]
  refine ev_bind (impl_ChristoffelWord_ev p q) (ev_bind (impl_MirrorWord_ev _ (by omega)) (ev_some rfl))

-- SAY: For all numbers the program's UpperChristoffel answers what the reference's answers, in memory of its own. No conditions beyond the given statement.
theorem FnExactUpperChristoffel : laws_FnExactUpperChristoffel.Pure := by
  intro p q hp hq
  refine Ev.rounds (g := fun k => laws_FnExactUpperChristoffel.f k p q) ?_
  have hl := ucRes_length p q
  have hS := spec_UpperChristoffel_ev p q
  have hI := impl_UpperChristoffel_ev p q
  obtain ⟨l, b, hr⟩ : ∃ l b, ucRes p q = (l, b) := ⟨_, _, rfl⟩
  rw [hr] at hl hS hI
  simp only at hl
  simp only [laws_FnExactUpperChristoffel.f]
  refine ev_bind hS (ev_bind hI ?_)
  refine ev_bind (eqIntS_ev l (by omega)) (ev_pos rfl (ev_succ ?_))
  simp only [laws_FnExactUpperChristoffel.j0]
  refine ev_neg (by simp) ?_
  refine ev_bind (markIntS_ev l 1 (by omega) (by omega)) ?_
  refine ev_bind (heldIntS_ev 1 l.length (by omega) (by omega)) ?_
  refine ev_neg (by omega) (ev_pos rfl ?_)
  refine ev_bind hI (ev_bind (eqIntS_ev l (by omega)) (ev_pos rfl (ev_succ ?_)))
  simp only [laws_FnExactUpperChristoffel.j1]
  refine ev_neg (by simp) ?_
  refine ev_bind (heldIntS_ev 1 l.length (by omega) (by omega)) ?_
  exact ev_neg (by omega) (ev_pos rfl (ev_some rfl))

end Go.Proofs.Ytihbelkchcedpaa.Pure
