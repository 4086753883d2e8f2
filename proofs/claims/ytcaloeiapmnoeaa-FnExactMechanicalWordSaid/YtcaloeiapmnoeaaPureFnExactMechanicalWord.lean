/- For all numbers the program's MechanicalWord answers what the reference's answers, in memory of its own. No conditions beyond the given statement. -/
import Derived.Test.YtcaloeiapmnoeaaPFnExactMechanicalWordx3
set_option linter.unusedVariables false
set_option linter.unusedSimpArgs false
namespace Go.Proofs.Ytcaloeiapmnoeaa.Pure
open Go.RowKit Go.Proofs.Ytcaloeiapmnoeaa.PFnExactMechanicalWord Go.Proofs.YtcaloeiapmnoeaaW.PrintWords Go.Proofs.YtcaloeiapmnoeaaW.PrintLast

theorem ev_succ {α : Type} {g : Nat → Option α} {r : α} (h : Ev (fun k => g (k + 1)) r) : Ev g r := Ev.step (fun _ => rfl) h
theorem ev_some {α : Type} {r r' : α} (h : r = r') : Ev (fun _ => some r) r' := by subst h; exact Ev.now r
theorem ev_pos {α : Type} {c : Prop} [Decidable c] {g f : Nat → Option α} {r : α} (hc : c) (h : Ev g r) : Ev (fun k => if c then g k else f k) r := by
  simp only [if_pos hc]; exact h
theorem ev_neg {α : Type} {c : Prop} [Decidable c] {g f : Nat → Option α} {r : α} (hc : ¬ c) (h : Ev f r) : Ev (fun k => if c then g k else f k) r := by
  simp only [if_neg hc]; exact h
theorem ev_ite {α : Type} {c : Prop} [Decidable c] {g f : Nat → Option α} {r : α} (h : c → Ev g r) (h' : ¬ c → Ev f r) : Ev (fun k => if c then g k else f k) r := by
  by_cases hc : c
  · exact ev_pos hc (h hc)
  · exact ev_neg hc (h' hc)
theorem ev_bind {α β : Type} {g : Nat → Option α} {f : Nat → α → Option β} {a : α} {r : β} (h : Ev g a) (k : Ev (fun n => f n a) r) : Ev (fun n => (g n).bind (f n)) r := Ev.bind h k
theorem ev_bind0 {α β : Type} {o : Option α} {f : Nat → α → Option β} {a : α} {r : β} (h : o = some a) (k : Ev (fun n => f n a) r) : Ev (fun n => o.bind (f n)) r := by
  subst h; exact k
theorem ev_eq {α : Type} {g : Nat → Option α} {r r' : α} (h : Ev g r) (e : r = r') : Ev g r' := e ▸ h
theorem ev_const {α : Type} {o : Option α} {r : α} (h : o = some r) : Ev (fun _ => o) r := by subst h; exact Ev.now r
theorem wr {n : Int} (h0 : -9223372036854775808 ≤ n) (h1 : n ≤ 9223372036854775807) : wrap64 n = n := by unfold wrap64; omega
theorem wr1 {i : Int} (h0 : 0 ≤ i) (h1 : i ≤ 4611686018427387904) : wrap64 (i + 1) = i + 1 := wr (by omega) (by omega)
theorem rd_nat (l : List Int) (i : Nat) : rd l (i : Int) = l.getD i 0 := by simp [rd]
theorem rd_get {l : List Int} {i : Nat} (h : i < l.length) : rd l (i : Int) = l[i] := by
  simp [rd, List.getD_eq_getElem?_getD, List.getElem?_eq_getElem h]
theorem drop_rd {l : List Int} {i : Nat} (h : i < l.length) : l.drop i = rd l (i : Int) :: l.drop (i + 1) := by
  rw [rd_get h]; exact List.drop_eq_getElem_cons h
theorem rd_mem {l : List Int} {i : Nat} (h : i < l.length) : rd l (i : Int) ∈ l := by rw [rd_get h]; exact List.getElem_mem h

theorem eqIntS_l0 (l : List Int) (hn : l.length ≤ 4611686018427387904) (d : Nat) : ∀ (i : Nat), i + d = l.length → Ev (fun k => laws_eqIntS.l0 k l l (i : Int)) true := by
  induction d with
  | zero =>
    intro i hi
    refine ev_succ ?_
    simp only [laws_eqIntS.l0]
    exact ev_neg (by omega) (ev_some rfl)
  | succ d ih =>
    intro i hi
    refine ev_succ ?_
    simp only [laws_eqIntS.l0, wr1 (show (0 : Int) ≤ (i : Int) by omega) (by omega)]
    exact ev_pos (by omega) (ev_pos (by omega) (ev_pos (by omega) (ev_pos trivial (ih (i + 1) (by omega)))))
theorem eqIntS_ev (l : List Int) (hn : l.length ≤ 4611686018427387904) : Ev (fun k => laws_eqIntS.f k l l) true := by
  simp only [laws_eqIntS.f]
  exact ev_pos trivial (eqIntS_l0 l hn l.length 0 (by omega))

def marks (m : Int) : Nat → List Int
  | 0 => []
  | n + 1 => m :: marks (m + 1) n
theorem marks_length (n : Nat) : ∀ m, (marks m n).length = n := by
  induction n with
  | zero => intro m; rfl
  | succ n ih => intro m; simp [marks, ih]
theorem marks_get (n : Nat) : ∀ (m : Int) (i : Nat), i < n → (marks m n)[i]? = some (m + i) := by
  induction n with
  | zero => intro m i h; omega
  | succ n ih =>
    intro m i h
    cases i with
    | zero => simp [marks]
    | succ i => simp only [marks, List.getElem?_cons_succ]; rw [ih (m + 1) i (by omega)]; congr 1; omega
theorem markIntS_l0 (n : Nat) (m : Int) (h0 : 0 ≤ m) (hm : m + n ≤ 4611686018427387904) (d : Nat) : ∀ (i : Nat) (x : List Int), x.length = n → i + d = n → (∀ j, j < i → x[j]? = some (m + j)) →
    Ev (fun k => laws_markIntS.l0 k x (m + i) (i : Int)) (m + n, marks m n) := by
  induction d with
  | zero =>
    intro i x hx hi hj
    refine ev_succ ?_
    simp only [laws_markIntS.l0]
    refine ev_neg (by omega) (ev_some ?_)
    have : i = n := by omega
    subst this
    congr 1
    apply List.ext_getElem?
    intro j
    by_cases h : j < i
    · rw [hj j h, marks_get i m j h]
    · rw [List.getElem?_eq_none (by omega), List.getElem?_eq_none (by rw [marks_length]; omega)]
  | succ d ih =>
    intro i x hx hi hj
    refine ev_succ ?_
    simp only [laws_markIntS.l0, wr1 (show (0 : Int) ≤ (i : Int) by omega) (by omega), wr1 (show (0 : Int) ≤ m + (i : Int) by omega) (by omega)]
    refine ev_pos (by omega) (ev_pos (by omega) ?_)
    have := ih (i + 1) (x.set i (m + i)) (by simp [hx]) (by omega) (by
      intro j hj'
      rw [List.getElem?_set]
      by_cases e : i = j
      · subst e
        rw [if_pos rfl, if_pos (by omega)]
      · rw [if_neg e]; exact hj j (by omega))
    rw [Int.toNat_natCast, Int.add_assoc]
    exact this
theorem markIntS_ev (l : List Int) (m : Int) (h0 : 0 ≤ m) (hm : m + l.length ≤ 4611686018427387904) : Ev (fun k => laws_markIntS.f k l m) (m + l.length, marks m l.length) := by
  simp only [laws_markIntS.f]
  have := markIntS_l0 l.length m h0 hm l.length 0 l rfl (by omega) (by intro j hj; omega)
  simpa using this
theorem heldIntS_l0 (n : Nat) (m : Int) (h0 : 0 ≤ m) (hm : m + n ≤ 4611686018427387904) (d : Nat) : ∀ (i : Nat), i + d = n → 
    Ev (fun k => laws_heldIntS.l0 k (marks m n) (m + i) (i : Int)) (m + n) := by
  induction d with
  | zero =>
    intro i hi
    refine ev_succ ?_
    simp only [laws_heldIntS.l0, marks_length]
    refine ev_neg (by omega) (ev_some ?_)
    omega
  | succ d ih =>
    intro i hi
    refine ev_succ ?_
    simp only [laws_heldIntS.l0, marks_length, wr1 (show (0 : Int) ≤ (i : Int) by omega) (by omega), wr1 (show (0 : Int) ≤ m + (i : Int) by omega) (by omega)]
    refine ev_pos (by omega) (ev_pos (by omega) (ev_pos ?_ ?_))
    · have h := marks_get n m i (by omega)
      rw [rd_nat, List.getD_eq_getElem?_getD, h]; rfl
    · have := ih (i + 1) (by omega)
      rw [Int.add_assoc]
      exact this
theorem heldIntS_ev (m : Int) (n : Nat) (h0 : 0 ≤ m) (hm : m + n ≤ 4611686018427387904) : Ev (fun k => laws_heldIntS.f k (marks m n) m) (m + n) := by
  simp only [laws_heldIntS.f]
  have := heldIntS_l0 n m h0 hm n 0 (by omega)
  simpa using this

theorem l1In_eq (a b c : Int) : spec_l1In.f a b c = some (decide (b ≤ a ∧ a ≤ c)) := by
  unfold spec_l1In.f
  by_cases h : a ≥ b
  · rw [if_pos h]; simp [show b ≤ a from h]
  · rw [if_neg h]; simp [show ¬ b ≤ a from h]

def mwLet (p q s : Int) (i : Int) : Int := wrap64 ((wrap64 (Int.tdiv (wrap64 ((wrap64 ((wrap64 (i + 1)) * p)) + s)) q)) - (wrap64 (Int.tdiv (wrap64 ((wrap64 (i * p)) + s)) q)))
def mwRaw (p q s : Int) (n : Nat) : List Int := (List.range n).map fun (i : Nat) => mwLet p q s (i : Int)
theorem mwRaw_succ (p q s : Int) (i : Nat) : mwRaw p q s (i + 1) = mwRaw p q s i ++ [mwLet p q s (i : Int)] := by
  simp [mwRaw, List.range_succ]
theorem mwRaw_length (p q s : Int) (i : Nat) : (mwRaw p q s i).length = i := by simp [mwRaw]
def mwOk (p q s n : Int) : Bool := decide ((1 ≤ q ∧ q ≤ 1000) ∧ (0 ≤ p ∧ p ≤ q) ∧ (0 ≤ s ∧ s < q) ∧ (0 ≤ n ∧ n ≤ 256))
def mwRes (p q s n : Int) : List Int × Bool := if mwOk p q s n = true then (mwRaw p q s n.toNat, true) else ([], false)
theorem spec_MechanicalWord_l0 (p q s : Int) (n : Nat) (hq : q ≠ 0) (hn : n ≤ 1000) (d : Nat) : ∀ (i : Nat), i + d = n →
    Ev (fun k => spec_MechanicalWord.l0 k p q s (n : Int) (mwRaw p q s i) (i : Int)) (mwRaw p q s n, true) := by
  induction d with
  | zero =>
    intro i hi
    refine ev_succ ?_
    simp only [spec_MechanicalWord.l0]
    refine ev_neg (by omega) (ev_some ?_)
    rw [show i = n by omega]
  | succ d ih =>
    intro i hi
    have := ih (i + 1) (by omega)
    rw [mwRaw_succ] at this
    refine ev_succ ?_
    simp only [spec_MechanicalWord.l0]
    refine ev_pos (by omega) (ev_neg hq (ev_pos (by rw [mwRaw_length]; omega) ?_))
    rw [wr1 (show (0 : Int) ≤ (i : Int) by omega) (by omega)]
    simp only [mwLet, wr1 (show (0 : Int) ≤ (i : Int) by omega) (show (i : Int) ≤ 4611686018427387904 by omega)] at this
    exact this
theorem impl_MechanicalWord_l0 (p q s : Int) (n : Nat) (hq : q ≠ 0) (hn : n ≤ 1000) (d : Nat) : ∀ (i : Nat), i + d = n →
    Ev (fun k => impl_MechanicalWord.l0 k p q s (mwRaw p q s i) (n : Int) (i : Int)) (mwRaw p q s n, true) := by
  induction d with
  | zero =>
    intro i hi
    refine ev_succ ?_
    simp only [impl_MechanicalWord.l0]
    refine ev_neg (by omega) (ev_some ?_)
    rw [show i = n by omega]
  | succ d ih =>
    intro i hi
    have := ih (i + 1) (by omega)
    rw [mwRaw_succ] at this
    refine ev_succ ?_
    simp only [impl_MechanicalWord.l0]
    refine ev_pos (by omega) (ev_neg hq (ev_pos (by rw [mwRaw_length]; omega) ?_))
    rw [wr1 (show (0 : Int) ≤ (i : Int) by omega) (by omega)]
    simp only [mwLet, wr1 (show (0 : Int) ≤ (i : Int) by omega) (show (i : Int) ≤ 4611686018427387904 by omega)] at this
    exact this
theorem spec_MechanicalWord_ev (p q s n : Int) (hp : -9223372036854775808 ≤ q) : Ev (fun k => spec_MechanicalWord.f k p q s n) (mwRes p q s n) := by
  simp only [spec_MechanicalWord.f, l1In_eq, Option.bind_some]
  have no : mwOk p q s n = false → Ev (fun k => spec_MechanicalWord.j0 k p q s n true) (mwRes p q s n) := by
    intro h
    refine ev_succ ?_
    simp only [spec_MechanicalWord.j0]
    exact ev_pos trivial (ev_some (by simp [mwRes, h]))
  by_cases h1 : 1 ≤ q ∧ q ≤ 1000
  · refine ev_pos (by simpa using h1) ?_
    by_cases h2 : 0 ≤ p ∧ p ≤ q
    · refine ev_pos (by simpa using h2) ?_
      rw [wr (by omega) (by omega)]
      by_cases h3 : 0 ≤ s ∧ s ≤ q - 1
      · refine ev_pos (by simpa using h3) ?_
        by_cases h4 : 0 ≤ n ∧ n ≤ 256
        · rw [decide_eq_true h4]
          refine ev_succ ?_
          simp only [spec_MechanicalWord.j0]
          refine ev_neg (by simp) ?_
          obtain ⟨m, rfl⟩ := Int.eq_ofNat_of_zero_le h4.1
          have := spec_MechanicalWord_l0 p q s m (by omega) (by omega) m 0 (by omega)
          refine ev_eq this ?_
          rw [mwRes, if_pos (by simp only [mwOk, decide_eq_true_eq]; omega)]; simp
        · rw [decide_eq_false h4]
          exact no (by simp only [mwOk, decide_eq_false_iff_not]; omega)
      · refine ev_neg (by simpa using h3) (no (by simp only [mwOk, decide_eq_false_iff_not]; omega))
    · refine ev_neg (by simpa using h2) (no (by simp only [mwOk, decide_eq_false_iff_not]; omega))
  · refine ev_neg (by simpa using h1) (no (by simp only [mwOk, decide_eq_false_iff_not]; omega))
theorem impl_MechanicalWord_ev (p q s n : Int) : Ev (fun k => impl_MechanicalWord.f k p q s n) (mwRes p q s n) := by
  simp only [impl_MechanicalWord.f]
  have no : mwOk p q s n = false → Ev (fun k => impl_MechanicalWord.j0 k p q s n true) (mwRes p q s n) := by
    intro h
    refine ev_succ ?_
    simp only [impl_MechanicalWord.j0]
    exact ev_pos trivial (ev_some (by simp [mwRes, h]))
  refine ev_ite (fun h => no (by simp only [mwOk, decide_eq_false_iff_not]; omega)) (fun h1 => ?_)
  refine ev_ite (fun h => no (by simp only [mwOk, decide_eq_false_iff_not]; omega)) (fun h2 => ?_)
  refine ev_ite (fun h => no (by simp only [mwOk, decide_eq_false_iff_not]; omega)) (fun h3 => ?_)
  refine ev_ite (fun h => no (by simp only [mwOk, decide_eq_false_iff_not]; omega)) (fun h4 => ?_)
  refine ev_ite (fun h => no (by simp only [mwOk, decide_eq_false_iff_not]; omega)) (fun h5 => ?_)
  refine ev_ite (fun h => no (by simp only [mwOk, decide_eq_false_iff_not]; omega)) (fun h6 => ?_)
  refine ev_ite (fun h => no (by simp only [mwOk, decide_eq_false_iff_not]; omega)) (fun h7 => ?_)
  by_cases h8 : n > 256
  · rw [decide_eq_true h8]
    exact no (by simp only [mwOk, decide_eq_false_iff_not]; omega)
  · rw [decide_eq_false h8]
    refine ev_succ ?_
    simp only [impl_MechanicalWord.j0]
    refine ev_neg (by simp) ?_
    obtain ⟨m, rfl⟩ := Int.eq_ofNat_of_zero_le (show 0 ≤ n by omega)
    have := impl_MechanicalWord_l0 p q s m (by omega) (by omega) m 0 (by omega)
    refine ev_eq this ?_
    rw [mwRes, if_pos (by simp only [mwOk, decide_eq_true_eq]; omega)]; simp
theorem mwRes_length (p q s n : Int) : (mwRes p q s n).1.length ≤ 256 := by
  unfold mwRes
  split
  · rename_i h
    simp only [mwOk, decide_eq_true_eq] at h
    rw [mwRaw_length]; omega
  · simp

-- SAY: For all numbers the program's MechanicalWord answers what the reference's answers, in memory of its own. No conditions beyond the given statement.
theorem FnExactMechanicalWord : laws_FnExactMechanicalWord.Pure := by
  intro p q s n hp hq hs hn
  have hq' : -9223372036854775808 ≤ q := by
    simp [Lit.wf, IntKind.min, IntKind.max, IntKind.signed, IntKind.bits] at hq; omega
  refine Ev.rounds (g := fun k => laws_FnExactMechanicalWord.f k p q s n) ?_
  have hl := mwRes_length p q s n
  have hS := spec_MechanicalWord_ev p q s n hq'
  have hI := impl_MechanicalWord_ev p q s n
  obtain ⟨l, b, hr⟩ : ∃ l b, mwRes p q s n = (l, b) := ⟨_, _, rfl⟩
  rw [hr] at hl hS hI
  simp only at hl
  simp only [laws_FnExactMechanicalWord.f]
  refine ev_bind hS (ev_bind hI ?_)
  refine ev_bind (eqIntS_ev l (by omega)) (ev_pos rfl (ev_succ ?_))
  simp only [laws_FnExactMechanicalWord.j0]
  refine ev_neg (by simp) ?_
  refine ev_bind (markIntS_ev l 1 (by omega) (by omega)) ?_
  refine ev_bind (heldIntS_ev 1 l.length (by omega) (by omega)) ?_
  refine ev_neg (by omega) (ev_pos rfl ?_)
  refine ev_bind hI (ev_bind (eqIntS_ev l (by omega)) (ev_pos rfl (ev_succ ?_)))
  simp only [laws_FnExactMechanicalWord.j1]
  refine ev_neg (by simp) ?_
  refine ev_bind (heldIntS_ev 1 l.length (by omega) (by omega)) ?_
  exact ev_neg (by omega) (ev_pos rfl (ev_some rfl))

end Go.Proofs.Ytcaloeiapmnoeaa.Pure
