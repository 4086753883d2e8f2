/- For all two numbers the program's ChristoffelSplit answers what the reference's answers, in memory of its own. No conditions beyond the given statement. -/
import Derived.Test.YtpbooapanfajiaaPFnExactChristoffelSplitx6
set_option linter.unusedVariables false
set_option linter.unusedSimpArgs false
namespace Go.Proofs.Ytpbooapanfajiaa.Pure
open Go.RowKit Go.Proofs.Ytpbooapanfajiaa.PFnExactChristoffelSplit Go.Proofs.YtpbooapanfajiaaW.PrintWords Go.Proofs.YtpbooapanfajiaaW.PrintLast

theorem ev_succ {α : Type} {g : Nat → Option α} {r : α} (h : Ev (fun k => g (k + 1)) r) : Ev g r := Ev.step (fun _ => rfl) h
theorem ev_some {α : Type} {r r' : α} (h : r = r') : Ev (fun _ => some r) r' := by subst h; exact Ev.now r
theorem ev_pos {α : Type} {c : Prop} [Decidable c] {g f : Nat → Option α} {r : α} (hc : c) (h : Ev g r) : Ev (fun k => if c then g k else f k) r := by
  simp only [if_pos hc]; exact h
theorem ev_neg {α : Type} {c : Prop} [Decidable c] {g f : Nat → Option α} {r : α} (hc : ¬ c) (h : Ev f r) : Ev (fun k => if c then g k else f k) r := by
  simp only [if_neg hc]; exact h
theorem ev_ite {α : Type} {c : Prop} [Decidable c] {g f : Nat → Option α} {r : α} (h : c → Ev g r) (h' : ¬ c → Ev f r) : Ev (fun k => if c then g k else f k) r := by
  by_cases hc : c
  · exact ev_pos hc (h hc)
  · exact ev_neg hc (h' hc)
theorem ev_bind {α β : Type} {g : Nat → Option α} {f : Nat → α → Option β} {a : α} {r : β} (h : Ev g a) (k : Ev (fun n => f n a) r) : Ev (fun n => (g n).bind (f n)) r := Ev.bind h k
theorem ev_bind0 {α β : Type} {o : Option α} {f : Nat → α → Option β} {a : α} {r : β} (h : o = some a) (k : Ev (fun n => f n a) r) : Ev (fun n => o.bind (f n)) r := by
  subst h; exact k
theorem ev_eq {α : Type} {g : Nat → Option α} {r r' : α} (h : Ev g r) (e : r = r') : Ev g r' := e ▸ h
theorem ev_const {α : Type} {o : Option α} {r : α} (h : o = some r) : Ev (fun _ => o) r := by subst h; exact Ev.now r
theorem wr {n : Int} (h0 : -9223372036854775808 ≤ n) (h1 : n ≤ 9223372036854775807) : wrap64 n = n := by unfold wrap64; omega
theorem wr1 {i : Int} (h0 : 0 ≤ i) (h1 : i ≤ 4611686018427387904) : wrap64 (i + 1) = i + 1 := wr (by omega) (by omega)
theorem wr_nat {n : Nat} (h : n ≤ 4611686018427387904) : wrap64 (n : Int) = n := wr (by omega) (by omega)
theorem rd_nat (l : List Int) (i : Nat) : rd l (i : Int) = l.getD i 0 := by simp [rd]
theorem rd_get {l : List Int} {i : Nat} (h : i < l.length) : rd l (i : Int) = l[i] := by
  simp [rd, List.getD_eq_getElem?_getD, List.getElem?_eq_getElem h]
theorem drop_rd {l : List Int} {i : Nat} (h : i < l.length) : l.drop i = rd l (i : Int) :: l.drop (i + 1) := by
  rw [rd_get h]; exact List.drop_eq_getElem_cons h
theorem rd_mem {l : List Int} {i : Nat} (h : i < l.length) : rd l (i : Int) ∈ l := by rw [rd_get h]; exact List.getElem_mem h


theorem eqIntS_l0 (l : List Int) (hn : l.length ≤ 4611686018427387904) (d : Nat) : ∀ (i : Nat), i + d = l.length → Ev (fun k => laws_eqIntS.l0 k l l (i : Int)) true := by
  induction d with
  | zero =>
    intro i hi
    refine ev_succ ?_
    simp only [laws_eqIntS.l0]
    exact ev_neg (by omega) (ev_some rfl)
  | succ d ih =>
    intro i hi
    refine ev_succ ?_
    simp only [laws_eqIntS.l0, wr1 (show (0 : Int) ≤ (i : Int) by omega) (by omega)]
    exact ev_pos (by omega) (ev_pos (by omega) (ev_pos (by omega) (ev_pos trivial (ih (i + 1) (by omega)))))
theorem eqIntS_ev (l : List Int) (hn : l.length ≤ 4611686018427387904) : Ev (fun k => laws_eqIntS.f k l l) true := by
  simp only [laws_eqIntS.f]
  exact ev_pos trivial (eqIntS_l0 l hn l.length 0 (by omega))


def marks (m : Int) : Nat → List Int
  | 0 => []
  | n + 1 => m :: marks (m + 1) n
theorem marks_length (n : Nat) : ∀ m, (marks m n).length = n := by
  induction n with
  | zero => intro m; rfl
  | succ n ih => intro m; simp [marks, ih]
theorem marks_get (n : Nat) : ∀ (m : Int) (i : Nat), i < n → (marks m n)[i]? = some (m + i) := by
  induction n with
  | zero => intro m i h; omega
  | succ n ih =>
    intro m i h
    cases i with
    | zero => simp [marks]
    | succ i => simp only [marks, List.getElem?_cons_succ]; rw [ih (m + 1) i (by omega)]; congr 1; omega
theorem markIntS_l0 (n : Nat) (m : Int) (h0 : 0 ≤ m) (hm : m + n ≤ 4611686018427387904) (d : Nat) : ∀ (i : Nat) (x : List Int), x.length = n → i + d = n → (∀ j, j < i → x[j]? = some (m + j)) →
    Ev (fun k => laws_markIntS.l0 k x (m + i) (i : Int)) (m + n, marks m n) := by
  induction d with
  | zero =>
    intro i x hx hi hj
    refine ev_succ ?_
    simp only [laws_markIntS.l0]
    refine ev_neg (by omega) (ev_some ?_)
    have : i = n := by omega
    subst this
    congr 1
    apply List.ext_getElem?
    intro j
    by_cases h : j < i
    · rw [hj j h, marks_get i m j h]
    · rw [List.getElem?_eq_none (by omega), List.getElem?_eq_none (by rw [marks_length]; omega)]
  | succ d ih =>
    intro i x hx hi hj
    refine ev_succ ?_
    simp only [laws_markIntS.l0, wr1 (show (0 : Int) ≤ (i : Int) by omega) (by omega), wr1 (show (0 : Int) ≤ m + (i : Int) by omega) (by omega)]
    refine ev_pos (by omega) (ev_pos (by omega) ?_)
    have := ih (i + 1) (x.set i (m + i)) (by simp [hx]) (by omega) (by
      intro j hj'
      rw [List.getElem?_set]
      by_cases e : i = j
      · subst e
        rw [if_pos rfl, if_pos (by omega)]
      · rw [if_neg e]; exact hj j (by omega))
    rw [Int.toNat_natCast, Int.add_assoc]
    exact this
theorem markIntS_ev (l : List Int) (m : Int) (h0 : 0 ≤ m) (hm : m + l.length ≤ 4611686018427387904) : Ev (fun k => laws_markIntS.f k l m) (m + l.length, marks m l.length) := by
  simp only [laws_markIntS.f]
  have := markIntS_l0 l.length m h0 hm l.length 0 l rfl (by omega) (by intro j hj; omega)
  simpa using this
theorem heldIntS_l0 (n : Nat) (m : Int) (h0 : 0 ≤ m) (hm : m + n ≤ 4611686018427387904) (d : Nat) : ∀ (i : Nat), i + d = n → 
    Ev (fun k => laws_heldIntS.l0 k (marks m n) (m + i) (i : Int)) (m + n) := by
  induction d with
  | zero =>
    intro i hi
    refine ev_succ ?_
    simp only [laws_heldIntS.l0, marks_length]
    refine ev_neg (by omega) (ev_some ?_)
    omega
  | succ d ih =>
    intro i hi
    refine ev_succ ?_
    simp only [laws_heldIntS.l0, marks_length, wr1 (show (0 : Int) ≤ (i : Int) by omega) (by omega), wr1 (show (0 : Int) ≤ m + (i : Int) by omega) (by omega)]
    refine ev_pos (by omega) (ev_pos (by omega) (ev_pos ?_ ?_))
    · have h := marks_get n m i (by omega)
      rw [rd_nat, List.getD_eq_getElem?_getD, h]; rfl
    · have := ih (i + 1) (by omega)
      rw [Int.add_assoc]
      exact this
theorem heldIntS_ev (m : Int) (n : Nat) (h0 : 0 ≤ m) (hm : m + n ≤ 4611686018427387904) : Ev (fun k => laws_heldIntS.f k (marks m n) m) (m + n) := by
  simp only [laws_heldIntS.f]
  have := heldIntS_l0 n m h0 hm n 0 (by omega)
  simpa using this


def cnt (a : Int) : List Int → Int
  | [] => 0
  | x :: l => (if x = a then 1 else 0) + cnt a l
theorem cnt_bd (a : Int) (l : List Int) : 0 ≤ cnt a l ∧ cnt a l ≤ l.length := by
  induction l with
  | nil => exact ⟨by simp [cnt], by simp [cnt]⟩
  | cons x l ih =>
    simp only [cnt, List.length_cons]
    split <;> omega
theorem spec_CountLetters_l0 (l : List Int) (a : Int) (hn : l.length ≤ 4611686018427387904) (d : Nat) : ∀ (i : Nat) (s : Int), i + d = l.length → 0 ≤ s → s ≤ i →
    Ev (fun k => spec_CountLetters.l0 k l a s (i : Int)) (s + cnt a (l.drop i)) := by
  induction d with
  | zero =>
    intro i s hi h0 h1
    refine ev_succ ?_
    simp only [spec_CountLetters.l0]
    refine ev_neg (by omega) (ev_some ?_)
    rw [List.drop_of_length_le (by omega)]; simp [cnt]
  | succ d ih =>
    intro i s hi h0 h1
    refine ev_succ ?_
    simp only [spec_CountLetters.l0, wr1 (show (0 : Int) ≤ (i : Int) by omega) (by omega), wr1 h0 (by omega)]
    refine ev_pos (by omega) (ev_pos (by omega) ?_)
    rw [drop_rd (by omega : i < l.length)]
    refine ev_ite (fun h => ev_eq (ih (i + 1) (s + 1) (by omega) (by omega) (by omega)) ?_) (fun h => ev_eq (ih (i + 1) s (by omega) (by omega) (by omega)) ?_)
    · simp only [cnt, if_pos h]; omega
    · simp only [cnt, if_neg h]; omega
theorem spec_CountLetters_ev (l : List Int) (a : Int) (hn : l.length ≤ 4611686018427387904) : Ev (fun k => spec_CountLetters.f k l a) (cnt a l) := by
  simp only [spec_CountLetters.f]
  exact ev_eq (spec_CountLetters_l0 l a hn l.length 0 0 (by omega) (by omega) (by omega)) (by simp)
theorem oneIf_eq (b : Bool) : impl_oneIf.f b = some (if b = true then 1 else 0) := by
  unfold impl_oneIf.f
  cases b <;> rfl
theorem impl_CountLetters_l0 (l : List Int) (a : Int) (hn : l.length ≤ 4611686018427387904) (d : Nat) : ∀ (i : Nat) (s : Int), i + d = l.length → 0 ≤ s → s ≤ i →
    Ev (fun k => impl_CountLetters.l0 k a s l (l.length : Int) (i : Int)) (s + cnt a (l.drop i)) := by
  induction d with
  | zero =>
    intro i s hi h0 h1
    refine ev_succ ?_
    simp only [impl_CountLetters.l0]
    refine ev_neg (by omega) (ev_some ?_)
    rw [List.drop_of_length_le (by omega)]; simp [cnt]
  | succ d ih =>
    intro i s hi h0 h1
    refine ev_succ ?_
    simp only [impl_CountLetters.l0, wr1 (show (0 : Int) ≤ (i : Int) by omega) (by omega), oneIf_eq, Option.bind_some, beq_iff_eq]
    refine ev_pos (by omega) (ev_pos (by omega) (ev_pos (by omega) ?_))
    rw [drop_rd (by omega : i < l.length)]
    by_cases h : rd l (i : Int) = a
    · simp only [if_pos h]
      rw [wr1 h0 (by omega)]
      refine ev_eq (ih (i + 1) (s + 1) (by omega) (by omega) (by omega)) ?_
      simp only [cnt, if_pos h]; omega
    · simp only [if_neg h]
      rw [wr (by omega) (by omega), Int.add_zero]
      refine ev_eq (ih (i + 1) s (by omega) (by omega) (by omega)) ?_
      simp only [cnt, if_neg h]; omega
theorem impl_CountLetters_ev (l : List Int) (a : Int) (hn : l.length ≤ 4611686018427387904) : Ev (fun k => impl_CountLetters.f k l a) (cnt a l) := by
  simp only [impl_CountLetters.f]
  exact ev_eq (impl_CountLetters_l0 l a hn l.length 0 0 (by omega) (by omega) (by omega)) (by simp)


theorem spec_SlopeOf_ev (l : List Int) (hn : l.length ≤ 4611686018427387904) : Ev (fun k => spec_SlopeOf.f k l) (cnt 1 l, cnt 0 l) := by
  simp only [spec_SlopeOf.f]
  refine ev_bind (spec_CountLetters_ev l 1 hn) (ev_bind (spec_CountLetters_ev l 0 hn) (ev_some rfl))
theorem impl_SlopeOf_ev (l : List Int) (hn : l.length ≤ 4611686018427387904) : Ev (fun k => impl_SlopeOf.f k l) (cnt 1 l, cnt 0 l) := by
  simp only [impl_SlopeOf.f]
  refine ev_bind (impl_CountLetters_ev l 1 hn) (ev_bind (impl_CountLetters_ev l 0 hn) (ev_some rfl))


theorem l1In_eq (a b c : Int) : spec_l1In.f a b c = some (decide (b ≤ a ∧ a ≤ c)) := by
  unfold spec_l1In.f
  by_cases h : a ≥ b
  · rw [if_pos h]; simp [show b ≤ a from h]
  · rw [if_neg h]; simp [show ¬ b ≤ a from h]


theorem tmod_nat (a b : Nat) : Int.tmod (a : Int) (b : Int) = ((a % b : Nat) : Int) := by
  rw [Int.tmod_eq_emod_of_nonneg (by omega)]; exact (Int.natCast_emod a b).symm
theorem tdiv_nat (a b : Nat) : Int.tdiv (a : Int) (b : Int) = ((a / b : Nat) : Int) := by
  rw [Int.tdiv_eq_ediv_of_nonneg (by omega)]; exact (Int.natCast_ediv a b).symm
theorem gcd_step (a b : Nat) (h : b ≠ 0) : Nat.gcd a b = Nat.gcd b (a % b) := by
  rw [Nat.gcd_comm a b, Nat.gcd_rec b a, Nat.gcd_comm]
theorem impl_gcd_l0 (n : Nat) : ∀ (a b : Nat), b ≤ n → Ev (fun k => impl_gcd.l0 k (a : Int) (b : Int)) ((Nat.gcd a b : Nat) : Int) := by
  induction n with
  | zero =>
    intro a b h
    obtain rfl : b = 0 := by omega
    refine ev_succ ?_
    simp only [impl_gcd.l0]
    exact ev_pos (by omega) (ev_some (by simp))
  | succ n ih =>
    intro a b h
    refine ev_succ ?_
    simp only [impl_gcd.l0, tmod_nat]
    refine ev_ite (fun h0 => ev_some ?_) (fun h0 => ?_)
    · obtain rfl : b = 0 := by omega
      simp
    · rw [gcd_step a b (by omega)]
      exact ih b (a % b) (by have := Nat.mod_lt a (show b > 0 by omega); omega)
theorem impl_gcd_ev (a b : Nat) : Ev (fun k => impl_gcd.f k (a : Int) (b : Int)) ((Nat.gcd a b : Nat) : Int) := by
  simp only [impl_gcd.f]; exact impl_gcd_l0 b a b (Nat.le_refl _)


theorem spec_l10Gcd_l0 (n : Nat) : ∀ (a b : Nat), b ≤ n → Ev (fun k => spec_l10Gcd.l0 k (a : Int) (b : Int)) ((Nat.gcd a b : Nat) : Int) := by
  induction n with
  | zero =>
    intro a b h
    obtain rfl : b = 0 := by omega
    refine ev_succ ?_
    simp only [spec_l10Gcd.l0]
    exact ev_neg (by omega) (ev_some (by simp))
  | succ n ih =>
    intro a b h
    refine ev_succ ?_
    simp only [spec_l10Gcd.l0, tmod_nat]
    refine ev_ite (fun h0 => ?_) (fun h0 => ev_some ?_)
    · refine ev_neg (by omega) ?_
      rw [gcd_step a b (by omega)]
      exact ih b (a % b) (by have := Nat.mod_lt a (show b > 0 by omega); omega)
    · obtain rfl : b = 0 := by omega
      simp
theorem spec_l10Gcd_ev (a b : Nat) : Ev (fun k => spec_l10Gcd.f k (a : Int) (b : Int)) ((Nat.gcd a b : Nat) : Int) := by
  simp only [spec_l10Gcd.f]; exact spec_l10Gcd_l0 b a b (Nat.le_refl _)


def chLet (p n i : Int) : Int := wrap64 ((wrap64 (Int.tdiv (wrap64 ((wrap64 (i + 1)) * p)) n)) - (wrap64 (Int.tdiv (wrap64 (i * p)) n)))
def chRaw (p n : Int) (m : Nat) : List Int := (List.range m).map fun (i : Nat) => chLet p n (i : Int)
theorem chRaw_succ (p n : Int) (i : Nat) : chRaw p n (i + 1) = chRaw p n i ++ [chLet p n (i : Int)] := by
  simp [chRaw, List.range_succ]
theorem chRaw_length (p n : Int) (i : Nat) : (chRaw p n i).length = i := by simp [chRaw]
def chOk (p q : Int) : Bool := decide ((0 ≤ p ∧ p ≤ 64) ∧ (0 ≤ q ∧ q ≤ 64) ∧ (1 ≤ p + q ∧ p + q ≤ 64)) && decide (Nat.gcd p.toNat q.toNat = 1)
def chRes (p q : Int) : List Int × Bool := if chOk p q = true then (chRaw p (p + q) (p + q).toNat, true) else ([], false)
theorem chRes_length (p q : Int) : (chRes p q).1.length ≤ 64 := by
  unfold chRes
  split
  · rename_i h
    simp only [chOk, Bool.and_eq_true, decide_eq_true_eq] at h
    rw [chRaw_length]; omega
  · simp
theorem spec_ChristoffelWord_l0 (p : Int) (n : Nat) (h1 : 1 ≤ n) (hn : n ≤ 64) (d : Nat) : ∀ (i : Nat), i + d = n →
    Ev (fun k => spec_ChristoffelWord.l0 k p (chRaw p n i) (n : Int) (i : Int)) (chRaw p n n, true) := by
  induction d with
  | zero =>
    intro i hi
    refine ev_succ ?_
    simp only [spec_ChristoffelWord.l0]
    refine ev_neg (by omega) (ev_some ?_)
    rw [show i = n by omega]
  | succ d ih =>
    intro i hi
    have := ih (i + 1) (by omega)
    rw [chRaw_succ] at this
    refine ev_succ ?_
    simp only [spec_ChristoffelWord.l0]
    refine ev_pos (by omega) (ev_neg (by omega) (ev_pos (by rw [chRaw_length]; omega) ?_))
    rw [wr1 (show (0 : Int) ≤ (i : Int) by omega) (by omega)]
    simp only [chLet, wr1 (show (0 : Int) ≤ (i : Int) by omega) (show (i : Int) ≤ 4611686018427387904 by omega)] at this
    exact this
theorem impl_christoffel_l0 (p q : Int) (n : Nat) (h1 : 1 ≤ n) (hn : n ≤ 64) (hpq : p + q = n) (d : Nat) : ∀ (i : Nat), i + d = n →
    Ev (fun k => impl_christoffel.l0 k p q (chRaw p n i) (n : Int) (i : Int)) (chRaw p n n) := by
  induction d with
  | zero =>
    intro i hi
    refine ev_succ ?_
    simp only [impl_christoffel.l0]
    refine ev_neg (by omega) (ev_some ?_)
    rw [show i = n by omega]
  | succ d ih =>
    intro i hi
    have := ih (i + 1) (by omega)
    rw [chRaw_succ] at this
    refine ev_succ ?_
    simp only [impl_christoffel.l0, wr1 (show (0 : Int) ≤ (i : Int) by omega) (show (i : Int) ≤ 4611686018427387904 by omega), hpq, wr_nat (show n ≤ 4611686018427387904 by omega)]
    refine ev_pos (by omega) (ev_neg (by omega) (ev_pos (by rw [chRaw_length]; omega) ?_))
    simp only [chLet, wr1 (show (0 : Int) ≤ (i : Int) by omega) (show (i : Int) ≤ 4611686018427387904 by omega)] at this
    exact this
theorem gcd_mxmn (a b : Nat) : Nat.gcd (max a b) (min a b) = Nat.gcd a b := by
  rcases Nat.le_total a b with h | h
  · rw [Nat.max_eq_right h, Nat.min_eq_left h, Nat.gcd_comm]
  · rw [Nat.max_eq_left h, Nat.min_eq_right h]
theorem spec_l24Fine_ev (p q : Int) : Ev (fun k => spec_l24Fine.f k p q) (chOk p q) := by
  simp only [spec_l24Fine.f, l1In_eq, Option.bind_some]
  have no : ¬ ((0 ≤ p ∧ p ≤ 64) ∧ (0 ≤ q ∧ q ≤ 64) ∧ (1 ≤ p + q ∧ p + q ≤ 64)) → Ev (fun _ => some false) (chOk p q) := by
    intro h
    refine ev_some ?_
    simp only [chOk, decide_eq_false h, Bool.false_and]
  by_cases h1 : 0 ≤ p ∧ p ≤ 64
  · refine ev_pos (by simpa using h1) ?_
    by_cases h2 : 0 ≤ q ∧ q ≤ 64
    · refine ev_pos (by simpa using h2) ?_
      rw [wr (by omega) (by omega)]
      by_cases h3 : 1 ≤ p + q ∧ p + q ≤ 64
      · refine ev_pos (by simpa using h3) ?_
        obtain ⟨a, rfl⟩ := Int.eq_ofNat_of_zero_le (show 0 ≤ p by omega)
        obtain ⟨b, rfl⟩ := Int.eq_ofNat_of_zero_le (show 0 ≤ q by omega)
        have e1 : mx (a : Int) (b : Int) = ((max a b : Nat) : Int) := by unfold mx; omega
        have e2 : mn (a : Int) (b : Int) = ((min a b : Nat) : Int) := by unfold mn; omega
        rw [e1, e2]
        refine ev_bind (spec_l10Gcd_ev _ _) (ev_some ?_)
        rw [gcd_mxmn]
        simp only [chOk, decide_eq_true (⟨h1, h2, h3⟩ : (0 ≤ (a : Int) ∧ (a : Int) ≤ 64) ∧ (0 ≤ (b : Int) ∧ (b : Int) ≤ 64) ∧ (1 ≤ (a : Int) + b ∧ (a : Int) + b ≤ 64)), Bool.true_and, Int.toNat_natCast]
        rw [Bool.eq_iff_iff]
        simp only [beq_iff_eq, decide_eq_true_eq]
        omega
      · exact ev_neg (by simpa using h3) (no (by omega))
    · exact ev_neg (by simpa using h2) (no (by omega))
  · exact ev_neg (by simpa using h1) (no (by omega))
theorem spec_ChristoffelWord_ev (p q : Int) : Ev (fun k => spec_ChristoffelWord.f k p q) (chRes p q) := by
  simp only [spec_ChristoffelWord.f]
  refine ev_bind (spec_l24Fine_ev p q) (ev_ite (fun h => ?_) (fun h => ev_some (by unfold chRes; rw [if_neg h])))
  have h' := h
  simp only [chOk, Bool.and_eq_true, decide_eq_true_eq] at h'
  obtain ⟨n, hn⟩ := Int.eq_ofNat_of_zero_le (show 0 ≤ p + q by omega)
  unfold chRes
  rw [if_pos h, hn, Int.toNat_natCast, wr_nat (by omega)]
  exact spec_ChristoffelWord_l0 p n (by omega) (by omega) n 0 (by omega)
theorem impl_ChristoffelWord_ev (p q : Int) : Ev (fun k => impl_ChristoffelWord.f k p q) (chRes p q) := by
  simp only [impl_ChristoffelWord.f]
  have no : ¬ ((0 ≤ p ∧ p ≤ 64) ∧ (0 ≤ q ∧ q ≤ 64) ∧ (1 ≤ p + q ∧ p + q ≤ 64)) → Ev (fun _ => some (([] : List Int), false)) (chRes p q) := by
    intro h
    refine ev_some ?_
    simp [chRes, chOk, decide_eq_false h]
  refine ev_ite (fun h => no (by omega)) (fun h1 => ?_)
  refine ev_ite (fun h => no (by omega)) (fun h2 => ?_)
  refine ev_ite (fun h => no (by omega)) (fun h3 => ?_)
  refine ev_ite (fun h => no (by omega)) (fun h4 => ?_)
  rw [wr (by omega) (by omega)]
  refine ev_ite (fun h => no (by omega)) (fun h5 => ?_)
  refine ev_ite (fun h => no (by omega)) (fun h6 => ?_)
  obtain ⟨a, rfl⟩ := Int.eq_ofNat_of_zero_le (show 0 ≤ p by omega)
  obtain ⟨b, rfl⟩ := Int.eq_ofNat_of_zero_le (show 0 ≤ q by omega)
  refine ev_bind (impl_gcd_ev a b) ?_
  have hg : 0 < Nat.gcd a b := by
    rcases Nat.eq_zero_or_pos a with h | h
    · exact Nat.gcd_pos_of_pos_right _ (by omega)
    · exact Nat.gcd_pos_of_pos_left _ h
  have hd : decide ((0 ≤ (a : Int) ∧ (a : Int) ≤ 64) ∧ (0 ≤ (b : Int) ∧ (b : Int) ≤ 64) ∧ (1 ≤ (a : Int) + b ∧ (a : Int) + b ≤ 64)) = true := decide_eq_true ⟨by omega, by omega, by omega⟩
  refine ev_ite (fun h => ev_some ?_) (fun h => ?_)
  · unfold chRes chOk
    rw [hd, Int.toNat_natCast, Int.toNat_natCast, decide_eq_false (by omega)]; rfl
  · unfold chRes chOk
    rw [hd, Int.toNat_natCast, Int.toNat_natCast, decide_eq_true (by omega)]
    simp only [Bool.and_self, if_true]
    simp only [impl_christoffel.f]
    rw [show (a : Int) + b = ((a + b : Nat) : Int) by omega, wr_nat (by omega), Int.toNat_natCast]
    exact ev_bind (impl_christoffel_l0 a b (a + b) (by omega) (by omega) (by omega) (a + b) 0 (by omega)) (ev_some rfl)


def cmpW : List Int → List Int → Int
  | [], [] => 0
  | [], _ :: _ => -1
  | _ :: _, [] => 1
  | x :: a, y :: b => if x < y then -1 else if x > y then 1 else cmpW a b
theorem cmpW_zero : ∀ (a b : List Int), cmpW a b = 0 ↔ a = b := by
  intro a
  induction a with
  | nil => intro b; cases b <;> simp [cmpW]
  | cons x a ih =>
    intro b
    cases b with
    | nil => simp [cmpW]
    | cons y b =>
      simp only [cmpW]
      split
      · simp; omega
      · split
        · simp; omega
        · rw [ih]; simp; omega
theorem cmp_Compare_eq (a b : Int) : cmp_Compare_int.f a b = some (if a < b then -1 else if a > b then 1 else 0) := by
  simp only [cmp_Compare_int.f, cmp_isNaN_int.f, Option.bind_some]
  simp only [bne_self_eq_false, Bool.false_eq_true, if_false]
  split
  · rfl
  · split <;> rfl
theorem slices_Compare_l0 (a b : List Int) (hn : a.length ≤ 4611686018427387904) (d : Nat) : ∀ (i : Nat), i + d = a.length → i ≤ b.length →
    Ev (fun k => slices_Compare_int_int.l0 k a b a (a.length : Int) (i : Int)) (cmpW (a.drop i) (b.drop i)) := by
  induction d with
  | zero =>
    intro i hi hb
    refine ev_succ ?_
    simp only [slices_Compare_int_int.l0]
    refine ev_neg (by omega) ?_
    rw [List.drop_of_length_le (by omega)]
    refine ev_ite (fun h => ev_some ?_) (fun h => ev_some ?_)
    · rw [drop_rd (by omega : i < b.length)]; rfl
    · rw [List.drop_of_length_le (by omega)]; rfl
  | succ d ih =>
    intro i hi hb
    refine ev_succ ?_
    simp only [slices_Compare_int_int.l0, wr1 (show (0 : Int) ≤ (i : Int) by omega) (by omega), cmp_Compare_eq, Option.bind_some]
    rw [drop_rd (by omega : i < a.length)]
    refine ev_pos (by omega) (ev_pos (by omega) (ev_pos (by omega) (ev_ite (fun h => ev_some ?_) (fun h => ev_pos (by omega) ?_))))
    · rw [show b.drop i = [] from List.drop_of_length_le (by omega)]; rfl
    · rw [drop_rd (by omega : i < b.length)]
      simp only [cmpW]
      by_cases h1 : rd a (i : Int) < rd b (i : Int)
      · simp only [if_pos h1]; exact ev_neg (by omega) (ev_some rfl)
      · by_cases h2 : rd a (i : Int) > rd b (i : Int)
        · simp only [if_neg h1, if_pos h2]; exact ev_neg (by omega) (ev_some rfl)
        · simp only [if_neg h1, if_neg h2]; exact ev_pos trivial (ih (i + 1) (by omega) (by omega))
theorem slices_Compare_ev (a b : List Int) (hn : a.length ≤ 4611686018427387904) : Ev (fun k => slices_Compare_int_int.f k a b) (cmpW a b) := by
  simp only [slices_Compare_int_int.f]
  exact ev_eq (slices_Compare_l0 a b hn a.length 0 (by omega) (by omega)) (by simp)
theorem impl_CompareWords_ev (a b : List Int) (hn : a.length ≤ 4611686018427387904) : Ev (fun k => impl_CompareWords.f k a b) (cmpW a b) := by
  simp only [impl_CompareWords.f]
  exact ev_bind (slices_Compare_ev a b hn) (ev_some rfl)


theorem spec_l3Same_l0 (a b : List Int) (hl : a.length = b.length) (hn : a.length ≤ 4611686018427387904) (d : Nat) : ∀ (i : Nat), i + d = a.length → Ev (fun k => spec_l3Same.l0 k a b (i : Int)) (decide (a.drop i = b.drop i)) := by
  induction d with
  | zero =>
    intro i hi
    refine ev_succ ?_
    simp only [spec_l3Same.l0]
    refine ev_neg (by omega) (ev_some ?_)
    rw [List.drop_of_length_le (by omega), List.drop_of_length_le (by omega)]; rfl
  | succ d ih =>
    intro i hi
    refine ev_succ ?_
    simp only [spec_l3Same.l0, wr1 (show (0 : Int) ≤ (i : Int) by omega) (by omega)]
    rw [drop_rd (by omega : i < a.length), drop_rd (by omega : i < b.length)]
    refine ev_pos (by omega) (ev_pos (by omega) (ev_pos (by omega) (ev_ite (fun h => ev_eq (ih (i + 1) (by omega)) ?_) (fun h => ev_some ?_))))
    · rw [h]; simp
    · simp [h]
theorem spec_l3Same_ev (a b : List Int) (hn : a.length ≤ 4611686018427387904) : Ev (fun k => spec_l3Same.f k a b) (decide (a = b)) := by
  simp only [spec_l3Same.f]
  refine ev_ite (fun h => ev_eq (spec_l3Same_l0 a b (by omega) hn a.length 0 (by omega)) (by simp)) (fun h => ev_some ?_)
  symm
  simp only [decide_eq_false_iff_not]
  rintro rfl
  exact h rfl


def isChr (l : List Int) : Bool := (chRes (cnt 1 l) (cnt 0 l)).2 && decide ((chRes (cnt 1 l) (cnt 0 l)).1 = l)
theorem spec_IsChristoffel_ev (l : List Int) (hn : l.length ≤ 4611686018427387904) : Ev (fun k => spec_IsChristoffel.f k l) (isChr l) := by
  simp only [spec_IsChristoffel.f]
  have hl := chRes_length (cnt 1 l) (cnt 0 l)
  refine ev_bind (spec_SlopeOf_ev l hn) (ev_bind (spec_ChristoffelWord_ev (cnt 1 l) (cnt 0 l)) (ev_ite (fun h => ev_bind (spec_l3Same_ev (chRes (cnt 1 l) (cnt 0 l)).1 l (by omega)) (ev_some ?_)) (fun h => ev_some ?_)))
  · unfold isChr; rw [h]; rfl
  · unfold isChr; rw [Bool.not_eq_true] at h; rw [h]; rfl
theorem impl_IsChristoffel_ev (l : List Int) (hn : l.length ≤ 4611686018427387904) : Ev (fun k => impl_IsChristoffel.f k l) (isChr l) := by
  simp only [impl_IsChristoffel.f]
  have hl := chRes_length (cnt 1 l) (cnt 0 l)
  refine ev_bind (impl_SlopeOf_ev l hn) (ev_bind (impl_ChristoffelWord_ev (cnt 1 l) (cnt 0 l)) (ev_ite (fun h => ev_bind (impl_CompareWords_ev (chRes (cnt 1 l) (cnt 0 l)).1 l (by omega)) (ev_some ?_)) (fun h => ev_some ?_)))
  · unfold isChr; rw [h]
    rw [Bool.eq_iff_iff]
    simp [cmpW_zero]
  · unfold isChr; rw [Bool.not_eq_true] at h; rw [h]; rfl


def spl (l : List Int) : Nat → Nat → List Int × List Int × Bool
  | 0, _ => ([], [], false)
  | d + 1, i => if isChr (l.take i) = true ∧ isChr (l.drop i) = true then (l.take i, l.drop i, true) else spl l d (i + 1)
theorem spec_split_l0 (l : List Int) (hl : l.length ≤ 64) (d : Nat) : ∀ (i : Nat), i + d = l.length → Ev (fun k => spec_ChristoffelSplit.l0 k l (i : Int)) (spl l d i) := by
  induction d with
  | zero =>
    intro i hi
    refine ev_succ ?_
    simp only [spec_ChristoffelSplit.l0]
    exact ev_neg (by omega) (ev_some rfl)
  | succ d ih =>
    intro i hi
    have hn := ih (i + 1) (by omega)
    refine ev_succ ?_
    simp only [spec_ChristoffelSplit.l0]
    rw [wr1 (show (0 : Int) ≤ (i : Int) by omega) (by omega), show ((i : Int) + 1) = ((i + 1 : Nat) : Int) by omega, Int.toNat_natCast]
    unfold spl
    refine ev_pos (by omega) (ev_pos (by omega) (ev_pos (by omega) ?_))
    refine ev_bind (spec_IsChristoffel_ev _ (by simp; omega)) (ev_ite (fun h1 => ?_) (fun h1 => ?_))
    · refine ev_bind (spec_IsChristoffel_ev _ (by simp; omega)) (ev_ite (fun h2 => ?_) (fun h2 => ?_))
      · rw [if_pos (And.intro h1 h2)]
        refine ev_bind (ev_some rfl) (ev_bind (ev_some rfl) (ev_pos (by simp; omega) (ev_bind (ev_some rfl) (ev_bind (ev_some rfl) (ev_pos (by simp; omega) (ev_some ?_))))))
        simp
      · rw [if_neg (fun e => h2 e.2)]; exact hn
    · rw [if_neg (fun e => h1 e.1)]; exact hn
theorem impl_split_l0 (l : List Int) (hl : l.length ≤ 64) (d : Nat) : ∀ (i : Nat), i + d = l.length → Ev (fun k => impl_ChristoffelSplit.l0 k l (i : Int)) (spl l d i) := by
  induction d with
  | zero =>
    intro i hi
    refine ev_succ ?_
    simp only [impl_ChristoffelSplit.l0]
    exact ev_neg (by omega) (ev_some rfl)
  | succ d ih =>
    intro i hi
    have hn := ih (i + 1) (by omega)
    refine ev_succ ?_
    simp only [impl_ChristoffelSplit.l0]
    rw [wr1 (show (0 : Int) ≤ (i : Int) by omega) (by omega), show ((i : Int) + 1) = ((i + 1 : Nat) : Int) by omega, Int.toNat_natCast]
    unfold spl
    refine ev_pos (by omega) (ev_pos (by omega) (ev_pos (by omega) ?_))
    refine ev_bind (impl_IsChristoffel_ev _ (by simp; omega)) (ev_ite (fun h1 => ?_) (fun h1 => ?_))
    · refine ev_bind (impl_IsChristoffel_ev _ (by simp; omega)) (ev_ite (fun h2 => ?_) (fun h2 => ?_))
      · rw [if_pos (And.intro h1 h2)]
        refine ev_bind (ev_some rfl) (ev_bind (ev_some rfl) (ev_pos (by simp; omega) (ev_bind (ev_some rfl) (ev_bind (ev_some rfl) (ev_pos (by simp; omega) (ev_some ?_))))))
        simp
      · rw [if_neg (fun e => h2 e.2)]; exact hn
    · rw [if_neg (fun e => h1 e.1)]; exact hn
def splRes (p q : Int) : List Int × List Int × Bool := if (chRes p q).2 = true then spl (chRes p q).1 ((chRes p q).1.length - 1) 1 else ([], [], false)
theorem spl_len (l : List Int) : ∀ (d i : Nat), (spl l d i).1.length ≤ l.length ∧ (spl l d i).2.1.length ≤ l.length
  | 0, i => by simp [spl]
  | d + 1, i => by
    unfold spl
    split
    · simp; omega
    · exact spl_len l d (i + 1)
theorem splRes_len (p q : Int) : (splRes p q).1.length ≤ 64 ∧ (splRes p q).2.1.length ≤ 64 := by
  have h1 := chRes_length p q
  unfold splRes
  split
  · have := spl_len (chRes p q).1 ((chRes p q).1.length - 1) 1; omega
  · simp
theorem impl_ChristoffelSplit_ev (p q : Int) : Ev (fun k => impl_ChristoffelSplit.f k p q) (splRes p q) := by
  simp only [impl_ChristoffelSplit.f]
  have hl := chRes_length p q
  unfold splRes
  refine ev_bind (impl_ChristoffelWord_ev p q) (ev_ite (fun h => ?_) (fun h => ev_some (by rw [if_neg h])))
  rw [if_pos h]
  by_cases h0 : (chRes p q).1.length = 0
  · rw [h0]
    refine ev_succ ?_
    simp only [impl_ChristoffelSplit.l0]
    exact ev_neg (by omega) (ev_some rfl)
  · exact impl_split_l0 (chRes p q).1 hl _ 1 (by omega)
theorem spec_ChristoffelSplit_ev (p q : Int) : Ev (fun k => spec_ChristoffelSplit.f k p q) (splRes p q) := by
  simp only [spec_ChristoffelSplit.f]
  have hl := chRes_length p q
  have no : ∀ b : Bool, b = true → splRes p q = ([], [], false) → Ev (fun k => spec_ChristoffelSplit.j0 k (chRes p q).1 b) (splRes p q) := by
    intro b hb h
    subst hb
    refine ev_succ ?_
    simp only [spec_ChristoffelSplit.j0]
    exact ev_pos trivial (ev_some h.symm)
  refine ev_bind (spec_ChristoffelWord_ev p q) (ev_ite (fun h => ?_) (fun h => no _ rfl (by unfold splRes; rw [if_neg h])))
  by_cases h2 : (chRes p q).1.length < 2
  · refine no _ (decide_eq_true (by omega)) ?_
    unfold splRes
    rw [if_pos h, show (chRes p q).1.length - 1 = 0 by omega]; rfl
  · rw [decide_eq_false (show ¬ ((chRes p q).1.length : Int) < 2 by omega)]
    refine ev_succ ?_
    simp only [spec_ChristoffelSplit.j0]
    refine ev_neg (by simp) ?_
    unfold splRes
    rw [if_pos h]
    exact spec_split_l0 (chRes p q).1 hl _ 1 (by omega)


-- SAY: For all two numbers the program's ChristoffelSplit answers what the reference's answers, in memory of its own. No conditions beyond the given statement.
theorem FnExactChristoffelSplit : laws_FnExactChristoffelSplit.Pure := by
  intro p q _ _
  refine Ev.rounds (g := fun k => laws_FnExactChristoffelSplit.f k p q) ?_
  simp only [laws_FnExactChristoffelSplit.f]
  have hl := splRes_len p q
  have hS := spec_ChristoffelSplit_ev p q
  have hI := impl_ChristoffelSplit_ev p q
  obtain ⟨u, v, b, hr⟩ : ∃ u v b, splRes p q = (u, v, b) := ⟨_, _, _, rfl⟩
  rw [hr] at hl hS hI
  simp only at hl
  refine ev_bind hS (ev_bind hI ?_)
  refine ev_bind (eqIntS_ev u (by omega)) (ev_pos rfl (ev_bind (eqIntS_ev v (by omega)) (ev_pos rfl (ev_succ ?_))))
  simp only [laws_FnExactChristoffelSplit.j0]
  refine ev_neg (by simp) ?_
  refine ev_bind (markIntS_ev u 1 (by omega) (by omega)) (ev_bind (markIntS_ev v (1 + u.length) (by omega) (by omega)) ?_)
  refine ev_bind (heldIntS_ev 1 u.length (by omega) (by omega)) (ev_neg (by omega) ?_)
  refine ev_bind (heldIntS_ev (1 + u.length) v.length (by omega) (by omega)) (ev_neg (by omega) (ev_pos rfl ?_))
  refine ev_bind hI ?_
  refine ev_bind (eqIntS_ev u (by omega)) (ev_pos rfl (ev_bind (eqIntS_ev v (by omega)) (ev_pos rfl (ev_succ ?_))))
  simp only [laws_FnExactChristoffelSplit.j1]
  refine ev_neg (by simp) ?_
  refine ev_bind (heldIntS_ev 1 u.length (by omega) (by omega)) (ev_neg (by omega) ?_)
  exact ev_bind (heldIntS_ev (1 + u.length) v.length (by omega) (by omega)) (ev_neg (by omega) (ev_pos rfl (ev_some rfl)))


end Go.Proofs.Ytpbooapanfajiaa.Pure
