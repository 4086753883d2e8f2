/- For every number the program's FibonacciPrefix answers what the reference's answers, in memory of its own. No conditions beyond the given statement. -/
import Derived.Test.YtdcakddfibnllaaPFnExactFibonacciPrefixx4
set_option linter.unusedVariables false
set_option linter.unusedSimpArgs false
namespace Go.Proofs.Ytdcakddfibnllaa.Pure
open Go.RowKit Go.Proofs.Ytdcakddfibnllaa.PFnExactFibonacciPrefix Go.Proofs.YtdcakddfibnllaaW.PrintWords Go.Proofs.YtdcakddfibnllaaW.PrintLast

theorem ev_succ {α : Type} {g : Nat → Option α} {r : α} (h : Ev (fun k => g (k + 1)) r) : Ev g r := Ev.step (fun _ => rfl) h
theorem ev_some {α : Type} {r r' : α} (h : r = r') : Ev (fun _ => some r) r' := by subst h; exact Ev.now r
theorem ev_pos {α : Type} {c : Prop} [Decidable c] {g f : Nat → Option α} {r : α} (hc : c) (h : Ev g r) : Ev (fun k => if c then g k else f k) r := by
  simp only [if_pos hc]; exact h
theorem ev_neg {α : Type} {c : Prop} [Decidable c] {g f : Nat → Option α} {r : α} (hc : ¬ c) (h : Ev f r) : Ev (fun k => if c then g k else f k) r := by
  simp only [if_neg hc]; exact h
theorem ev_ite {α : Type} {c : Prop} [Decidable c] {g f : Nat → Option α} {r : α} (h : c → Ev g r) (h' : ¬ c → Ev f r) : Ev (fun k => if c then g k else f k) r := by
  by_cases hc : c
  · exact ev_pos hc (h hc)
  · exact ev_neg hc (h' hc)
theorem ev_bind {α β : Type} {g : Nat → Option α} {f : Nat → α → Option β} {a : α} {r : β} (h : Ev g a) (k : Ev (fun n => f n a) r) : Ev (fun n => (g n).bind (f n)) r := Ev.bind h k
theorem ev_bind0 {α β : Type} {o : Option α} {f : Nat → α → Option β} {a : α} {r : β} (h : o = some a) (k : Ev (fun n => f n a) r) : Ev (fun n => o.bind (f n)) r := by
  subst h; exact k
theorem ev_eq {α : Type} {g : Nat → Option α} {r r' : α} (h : Ev g r) (e : r = r') : Ev g r' := e ▸ h
theorem ev_const {α : Type} {o : Option α} {r : α} (h : o = some r) : Ev (fun _ => o) r := by subst h; exact Ev.now r
theorem wr {n : Int} (h0 : -9223372036854775808 ≤ n) (h1 : n ≤ 9223372036854775807) : wrap64 n = n := by unfold wrap64; omega
theorem wr1 {i : Int} (h0 : 0 ≤ i) (h1 : i ≤ 4611686018427387904) : wrap64 (i + 1) = i + 1 := wr (by omega) (by omega)
theorem wr_nat {n : Nat} (h : n ≤ 4611686018427387904) : wrap64 (n : Int) = n := wr (by omega) (by omega)
theorem rd_nat (l : List Int) (i : Nat) : rd l (i : Int) = l.getD i 0 := by simp [rd]
theorem rd_get {l : List Int} {i : Nat} (h : i < l.length) : rd l (i : Int) = l[i] := by
  simp [rd, List.getD_eq_getElem?_getD, List.getElem?_eq_getElem h]
theorem drop_rd {l : List Int} {i : Nat} (h : i < l.length) : l.drop i = rd l (i : Int) :: l.drop (i + 1) := by
  rw [rd_get h]; exact List.drop_eq_getElem_cons h
theorem rd_mem {l : List Int} {i : Nat} (h : i < l.length) : rd l (i : Int) ∈ l := by rw [rd_get h]; exact List.getElem_mem h



theorem eqIntS_l0 (l : List Int) (hn : l.length ≤ 4611686018427387904) (d : Nat) : ∀ (i : Nat), i + d = l.length → Ev (fun k => laws_eqIntS.l0 k l l (i : Int)) true := by
  induction d with
  | zero =>
    intro i hi
    refine ev_succ ?_
    simp only [laws_eqIntS.l0]
    exact ev_neg (by omega) (ev_some rfl)
  | succ d ih =>
    intro i hi
    refine ev_succ ?_
    simp only [laws_eqIntS.l0, wr1 (show (0 : Int) ≤ (i : Int) by omega) (by omega)]
    exact ev_pos (by omega) (ev_pos (by omega) (ev_pos (by omega) (ev_pos trivial (ih (i + 1) (by omega)))))
theorem eqIntS_ev (l : List Int) (hn : l.length ≤ 4611686018427387904) : Ev (fun k => laws_eqIntS.f k l l) true := by
  simp only [laws_eqIntS.f]
  exact ev_pos trivial (eqIntS_l0 l hn l.length 0 (by omega))


def marks (m : Int) : Nat → List Int
  | 0 => []
  | n + 1 => m :: marks (m + 1) n
theorem marks_length (n : Nat) : ∀ m, (marks m n).length = n := by
  induction n with
  | zero => intro m; rfl
  | succ n ih => intro m; simp [marks, ih]
theorem marks_get (n : Nat) : ∀ (m : Int) (i : Nat), i < n → (marks m n)[i]? = some (m + i) := by
  induction n with
  | zero => intro m i h; omega
  | succ n ih =>
    intro m i h
    cases i with
    | zero => simp [marks]
    | succ i => simp only [marks, List.getElem?_cons_succ]; rw [ih (m + 1) i (by omega)]; congr 1; omega
theorem markIntS_l0 (n : Nat) (m : Int) (h0 : 0 ≤ m) (hm : m + n ≤ 4611686018427387904) (d : Nat) : ∀ (i : Nat) (x : List Int), x.length = n → i + d = n → (∀ j, j < i → x[j]? = some (m + j)) →
    Ev (fun k => laws_markIntS.l0 k x (m + i) (i : Int)) (m + n, marks m n) := by
  induction d with
  | zero =>
    intro i x hx hi hj
    refine ev_succ ?_
    simp only [laws_markIntS.l0]
    refine ev_neg (by omega) (ev_some ?_)
    have : i = n := by omega
    subst this
    congr 1
    apply List.ext_getElem?
    intro j
    by_cases h : j < i
    · rw [hj j h, marks_get i m j h]
    · rw [List.getElem?_eq_none (by omega), List.getElem?_eq_none (by rw [marks_length]; omega)]
  | succ d ih =>
    intro i x hx hi hj
    refine ev_succ ?_
    simp only [laws_markIntS.l0, wr1 (show (0 : Int) ≤ (i : Int) by omega) (by omega), wr1 (show (0 : Int) ≤ m + (i : Int) by omega) (by omega)]
    refine ev_pos (by omega) (ev_pos (by omega) ?_)
    have := ih (i + 1) (x.set i (m + i)) (by simp [hx]) (by omega) (by
      intro j hj'
      rw [List.getElem?_set]
      by_cases e : i = j
      · subst e
        rw [if_pos rfl, if_pos (by omega)]
      · rw [if_neg e]; exact hj j (by omega))
    rw [Int.toNat_natCast, Int.add_assoc]
    exact this
theorem markIntS_ev (l : List Int) (m : Int) (h0 : 0 ≤ m) (hm : m + l.length ≤ 4611686018427387904) : Ev (fun k => laws_markIntS.f k l m) (m + l.length, marks m l.length) := by
  simp only [laws_markIntS.f]
  have := markIntS_l0 l.length m h0 hm l.length 0 l rfl (by omega) (by intro j hj; omega)
  simpa using this
theorem heldIntS_l0 (n : Nat) (m : Int) (h0 : 0 ≤ m) (hm : m + n ≤ 4611686018427387904) (d : Nat) : ∀ (i : Nat), i + d = n → 
    Ev (fun k => laws_heldIntS.l0 k (marks m n) (m + i) (i : Int)) (m + n) := by
  induction d with
  | zero =>
    intro i hi
    refine ev_succ ?_
    simp only [laws_heldIntS.l0, marks_length]
    refine ev_neg (by omega) (ev_some ?_)
    omega
  | succ d ih =>
    intro i hi
    refine ev_succ ?_
    simp only [laws_heldIntS.l0, marks_length, wr1 (show (0 : Int) ≤ (i : Int) by omega) (by omega), wr1 (show (0 : Int) ≤ m + (i : Int) by omega) (by omega)]
    refine ev_pos (by omega) (ev_pos (by omega) (ev_pos ?_ ?_))
    · have h := marks_get n m i (by omega)
      rw [rd_nat, List.getD_eq_getElem?_getD, h]; rfl
    · have := ih (i + 1) (by omega)
      rw [Int.add_assoc]
      exact this
theorem heldIntS_ev (m : Int) (n : Nat) (h0 : 0 ≤ m) (hm : m + n ≤ 4611686018427387904) : Ev (fun k => laws_heldIntS.f k (marks m n) m) (m + n) := by
  simp only [laws_heldIntS.f]
  have := heldIntS_l0 n m h0 hm n 0 (by omega)
  simpa using this


def areL (m : Int) (l : List Int) : Bool := l.all fun x => decide (0 ≤ x ∧ x < m)
theorem impl_areLetters_l0 (l : List Int) (m : Int) (hn : l.length ≤ 4611686018427387904) (d : Nat) : ∀ (i : Nat), i + d = l.length →
    Ev (fun k => impl_areLetters.l0 k m l (l.length : Int) (i : Int)) (areL m (l.drop i)) := by
  induction d with
  | zero =>
    intro i hi
    refine ev_succ ?_
    simp only [impl_areLetters.l0]
    refine ev_neg (by omega) (ev_some ?_)
    rw [List.drop_of_length_le (by omega)]; rfl
  | succ d ih =>
    intro i hi
    refine ev_succ ?_
    simp only [impl_areLetters.l0, wr1 (show (0 : Int) ≤ (i : Int) by omega) (by omega)]
    refine ev_pos (by omega) (ev_pos (by omega) (ev_pos (by omega) ?_))
    rw [drop_rd (by omega : i < l.length)]
    refine ev_ite (fun h => ev_some ?_) (fun h => ev_ite (fun h' => ev_some ?_) (fun h' => ev_eq (ih (i + 1) (by omega)) ?_))
    · simp only [areL, List.all_cons, decide_eq_false (show ¬ (0 ≤ rd l (i : Int) ∧ rd l (i : Int) < m) by omega), Bool.false_and]
    · simp only [areL, List.all_cons, decide_eq_false (show ¬ (0 ≤ rd l (i : Int) ∧ rd l (i : Int) < m) by omega), Bool.false_and]
    · simp only [areL, List.all_cons, decide_eq_true (show (0 ≤ rd l (i : Int) ∧ rd l (i : Int) < m) by omega), Bool.true_and]
theorem impl_areLetters_ev (l : List Int) (m : Int) (hn : l.length ≤ 4611686018427387904) : Ev (fun k => impl_areLetters.f k l m) (areL m l) := by
  simp only [impl_areLetters.f]
  exact impl_areLetters_l0 l m hn l.length 0 (by omega)


def fibL : List Int := [0, 1, 0, 0, 1, 0, 1, 0, 0, 1, 0, 0, 1, 0, 1, 0, 0, 1, 0, 1, 0, 0, 1, 0, 0, 1, 0, 1, 0, 0, 1, 0, 0, 1, 0, 1, 0, 0, 1, 0, 1, 0, 0, 1, 0, 0, 1, 0, 1, 0, 0, 1, 0, 1, 0, 0, 1, 0, 0, 1, 0, 1, 0, 0, 1, 0, 0, 1, 0, 1, 0, 0, 1, 0, 1, 0, 0, 1, 0, 0, 1, 0, 1, 0, 0, 1, 0, 0, 1, 0, 1, 0, 0, 1, 0, 1, 0, 0, 1, 0, 0, 1, 0, 1, 0, 0, 1, 0, 1, 0, 0, 1, 0, 0, 1, 0, 1, 0, 0, 1, 0, 0, 1, 0, 1, 0, 0, 1, 0, 1, 0, 0, 1, 0, 0, 1, 0, 1, 0, 0, 1, 0, 1, 0, 0, 1, 0, 0, 1, 0, 1, 0, 0, 1, 0, 0, 1, 0, 1, 0, 0, 1, 0, 1, 0, 0, 1, 0, 0, 1, 0, 1, 0, 0, 1, 0, 0, 1, 0, 1, 0, 0, 1, 0, 1, 0, 0, 1, 0, 0, 1, 0, 1, 0, 0, 1, 0, 1, 0, 0, 1, 0, 0, 1, 0, 1, 0, 0, 1, 0, 0, 1, 0, 1, 0, 0, 1, 0, 1, 0, 0, 1, 0, 0, 1, 0, 1, 0, 0, 1, 0, 0, 1, 0, 1, 0, 0, 1, 0, 1, 0, 0, 1, 0, 0, 1, 0, 1, 0, 0, 1, 0, 1, 0, 0, 1]
def fimg (x : Int) : List Int := if x = 0 then [0, 1] else [0]
def fs : Nat → List Int
  | 0 => [0, 1]
  | k + 1 => fs k ++ fimg (rd (fs k) ((k + 1 : Nat) : Int))
def fsOk (k : Nat) : Bool := decide (k + 1 < (fs k).length) && (decide (rd (fs k) ((k + 1 : Nat) : Int) = 0) || decide (rd (fs k) ((k + 1 : Nat) : Int) = 1)) && decide ((fs k).take 256 = fibL.take (fs k).length) && decide ((fs k).length ≤ 400)
theorem fs_all : ∀ k : Fin 160, fsOk k.val = true := by decide +kernel
theorem fs_last : 256 ≤ (fs 159).length := by decide +kernel
theorem fs_at {k : Nat} (h : k < 160) : k + 1 < (fs k).length ∧ (rd (fs k) ((k + 1 : Nat) : Int) = 0 ∨ rd (fs k) ((k + 1 : Nat) : Int) = 1) ∧ (fs k).take 256 = fibL.take (fs k).length ∧ (fs k).length ≤ 400 := by
  have := fs_all ⟨k, h⟩
  simp only [fsOk, Bool.and_eq_true, Bool.or_eq_true, decide_eq_true_eq] at this
  exact ⟨this.1.1.1, this.1.1.2, this.1.2, this.2⟩
def fibM : List (List Int) := [[0, 1], [0]]
theorem fib_morph : Ev (fun k => impl_IsMorphism.f k fibM) true := by
  simp only [impl_IsMorphism.f]
  refine ev_neg (by decide) (ev_succ ?_)
  simp only [impl_IsMorphism.j0]
  refine ev_neg (by decide) (ev_succ ?_)
  simp only [impl_IsMorphism.l0]
  refine ev_pos (by decide) (ev_pos (by omega) (ev_pos (by decide) (ev_neg (by decide) (ev_bind (ev_eq (impl_areLetters_ev _ _ (by decide)) (by decide : _ = true)) (ev_pos rfl (ev_succ ?_))))))
  rw [show wrap64 (0 + 1) = 1 from wr (by omega) (by omega)]
  simp only [impl_IsMorphism.l0]
  refine ev_pos (by decide) (ev_pos (by omega) (ev_pos (by decide) (ev_neg (by decide) (ev_bind (ev_eq (impl_areLetters_ev _ _ (by decide)) (by decide : _ = true)) (ev_pos rfl (ev_succ ?_))))))
  rw [show wrap64 (1 + 1) = 2 from wr (by omega) (by omega)]
  simp only [impl_IsMorphism.l0]
  exact ev_neg (by decide) (ev_some rfl)
theorem fib_grows : Ev (fun k => impl_IsGrowing.f k fibM 0) true := by
  simp only [impl_IsGrowing.f]
  refine ev_bind fib_morph (ev_pos rfl (ev_neg (by omega) (ev_neg (by decide) (ev_neg (by decide) (ev_pos (by decide) ?_)))))
  exact ev_const (by decide +kernel)
theorem fixed_l0 (n : Nat) (hn : n ≤ 256) (d : Nat) : ∀ j, j + d = 159 → Ev (fun k => impl_FixedPrefix.l0 k (n : Int) (fs j) ((j + 1 : Nat) : Int) fibM) (fibL.take n, true) := by
  have stop : ∀ j, j < 160 → ¬ ((fs j).length : Int) < (n : Int) → Ev (fun k => impl_FixedPrefix.l0 k (n : Int) (fs j) ((j + 1 : Nat) : Int) fibM) (fibL.take n, true) := by
    intro j hj hc
    obtain ⟨h1, h2, h3, h4⟩ := fs_at hj
    refine ev_succ ?_
    simp only [impl_FixedPrefix.l0]
    refine ev_neg hc (ev_bind (ev_some rfl) (ev_pos (by omega) (ev_pos (by omega) (ev_bind (ev_some rfl) (ev_pos ?_ (ev_some ?_))))))
    · simp only [List.length_nil, List.length_take]; omega
    · rw [Int.toNat_natCast, List.nil_append]
      have : (fs j).take n = fibL.take n := by
        have h5 := congrArg (List.take n) h3
        rw [List.take_take, List.take_take] at h5
        rwa [Nat.min_eq_left hn, Nat.min_eq_left (by omega)] at h5
      rw [this]
  induction d with
  | zero =>
    intro j hj
    obtain rfl : j = 159 := by omega
    have := fs_last
    exact stop 159 (by omega) (by omega)
  | succ d ih =>
    intro j hj
    by_cases hc : ((fs j).length : Int) < (n : Int)
    · obtain ⟨h1, h2, h3, h4⟩ := fs_at (show j < 160 by omega)
      refine ev_succ ?_
      simp only [impl_FixedPrefix.l0]
      have hi : rd_L1 fibM (rd (fs j) ((j + 1 : Nat) : Int)) = fimg (rd (fs j) ((j + 1 : Nat) : Int)) := by rcases h2 with e | e <;> rw [e] <;> rfl
      have hl : (fimg (rd (fs j) ((j + 1 : Nat) : Int))).length ≤ 2 := by unfold fimg; split <;> simp
      have hM : (fibM.length : Int) = 2 := rfl
      rw [hi, wr1 (by omega) (by omega), show (((j + 1 : Nat) : Int) + 1) = ((j + 1 + 1 : Nat) : Int) by omega]
      exact ev_pos hc (ev_pos (by omega) (ev_pos (by omega) (ev_pos (by omega) (ev_pos (by omega) (ev_pos (by omega) (ih (j + 1) (by omega)))))))
    · exact stop j (by omega) hc
theorem impl_fibonacciWord_ev (n : Nat) (hn : n ≤ 256) : Ev (fun k => impl_fibonacciWord.f k (n : Int)) (fibL.take n) := by
  simp only [impl_fibonacciWord.f, impl_FixedPrefix.f]
  refine ev_bind (a := (fibL.take n, true)) ?_ (ev_some rfl)
  refine ev_bind fib_grows (ev_pos rfl (ev_neg (by omega) (ev_succ ?_)))
  rw [decide_eq_false (show ¬ (n : Int) > 256 by omega)]
  simp only [impl_FixedPrefix.j0]
  refine ev_neg (by simp) (ev_pos (by omega) (ev_pos (by decide) ?_))
  refine ev_bind0 (a := fs 0) (by decide) ?_
  exact fixed_l0 n hn 159 0 (by omega)


theorem l1In_eq (a b c : Int) : spec_l1In.f a b c = some (decide (b ≤ a ∧ a ≤ c)) := by
  unfold spec_l1In.f
  by_cases h : a ≥ b
  · rw [if_pos h]; simp [show b ≤ a from h]
  · rw [if_neg h]; simp [show ¬ b ≤ a from h]


def fp : Nat → Int × Int
  | 0 => (1, 2)
  | n + 1 => ((fp n).2, (fp n).1 + (fp n).2)
def fibs : List Int := [1, 2, 3, 5, 8, 13, 21, 34, 55, 89, 144, 233, 377, 610, 987, 1597, 2584, 4181, 6765, 10946, 17711, 28657, 46368, 75025, 121393, 196418, 317811, 514229, 832040, 1346269, 2178309, 3524578, 5702887, 9227465, 14930352, 24157817, 39088169, 63245986, 102334155, 165580141, 267914296]
theorem fibs_all : ∀ k : Fin 41, rd fibs ((k.val : Nat) : Int) = (fp k.val).1 := by decide +kernel
theorem fibs_at {k : Nat} (h : k < 41) : rd fibs (k : Int) = (fp k).1 := fibs_all ⟨k, h⟩
theorem fp_all : ∀ k : Fin 41, 0 < (fp k.val).1 ∧ (fp k.val).1 < 1000000000 ∧ 0 < (fp k.val).2 ∧ (fp k.val).2 < 1000000000 := by decide +kernel
theorem fp_bound {k : Nat} (h : k < 41) : 0 < (fp k).1 ∧ (fp k).1 < 1000000000 ∧ 0 < (fp k).2 ∧ (fp k).2 < 1000000000 := fp_all ⟨k, h⟩
theorem fp_40 : (fp 40).1 = 267914296 := by decide +kernel
theorem spec_FibonacciNumber_l0 (k : Nat) (hk : k ≤ 40) (d : Nat) : ∀ (i : Nat), i + d = k → Ev (fun m => spec_FibonacciNumber.l0 m (k : Int) (fp i).1 (fp i).2 (i : Int)) (fp k).1 := by
  induction d with
  | zero =>
    intro i hi
    obtain rfl : i = k := by omega
    refine ev_succ ?_
    simp only [spec_FibonacciNumber.l0]
    exact ev_neg (by omega) (ev_some rfl)
  | succ d ih =>
    intro i hi
    have hb := fp_bound (k := i) (by omega)
    refine ev_succ ?_
    simp only [spec_FibonacciNumber.l0]
    rw [wr1 (by omega) (by omega), wr (show -9223372036854775808 ≤ (fp i).1 + (fp i).2 by omega) (by omega), show ((i : Int) + 1) = ((i + 1 : Nat) : Int) by omega]
    exact ev_pos (by omega) (ih (i + 1) (by omega))
theorem spec_FibonacciNumber_ev (k : Nat) (hk : k ≤ 40) : Ev (fun m => spec_FibonacciNumber.f m (k : Int)) (fp k).1 := by
  simp only [spec_FibonacciNumber.f, l1In_eq, Option.bind_some]
  exact ev_pos (by simp; omega) (spec_FibonacciNumber_l0 k hk k 0 (by omega))
def zk : Nat → Int → List Int → List Int
  | 0, _, acc => acc
  | j + 1, n, acc => if (fp j).1 ≤ n then zk j (n - (fp j).1) (acc ++ [1]) else if 0 < acc.length then zk j n (acc ++ [0]) else zk j n acc
theorem zk_bits : ∀ (j : Nat) (n : Int) (acc : List Int), (∀ x ∈ acc, x = 0 ∨ x = 1) → ∀ x ∈ zk j n acc, x = 0 ∨ x = 1
  | 0, _, _, h => h
  | j + 1, n, acc, h => by
    unfold zk
    split
    · exact zk_bits j _ _ (by intro x hx; rcases List.mem_append.1 hx with h1 | h1; exact h x h1; simp at h1; exact .inr h1)
    · split
      · exact zk_bits j _ _ (by intro x hx; rcases List.mem_append.1 hx with h1 | h1; exact h x h1; simp at h1; exact .inl h1)
      · exact zk_bits j _ _ h
theorem zk_length : ∀ (j : Nat) (n : Int) (acc : List Int), (zk j n acc).length ≤ acc.length + j
  | 0, _, _ => by simp [zk]
  | j + 1, n, acc => by
    unfold zk
    split
    · have := zk_length j (n - (fp j).1) (acc ++ [1]); simp at this; omega
    · split
      · have := zk_length j n (acc ++ [0]); simp at this; omega
      · have := zk_length j n acc; omega
theorem spec_ZeckendorfOf_l0 (j : Nat) : ∀ (n : Int) (acc : List Int), j ≤ 40 → 0 ≤ n → n ≤ 1000000000 → acc.length + j ≤ 100 → Ev (fun m => spec_ZeckendorfOf.l0 m n acc ((j : Int) - 1)) (zk j n acc) := by
  induction j with
  | zero =>
    intro n acc _ _ _ _
    refine ev_succ ?_
    simp only [spec_ZeckendorfOf.l0]
    exact ev_neg (by omega) (ev_some (by simp [zk]))
  | succ j ih =>
    intro n acc hj h0 h1 ha
    have hb := fp_bound (k := j) (by omega)
    have he : ((j + 1 : Nat) : Int) - 1 = (j : Int) := by omega
    have hw : wrap64 ((j : Int) - 1) = (j : Int) - 1 := wr (by omega) (by omega)
    refine ev_succ ?_
    simp only [spec_ZeckendorfOf.l0, he, hw]
    refine ev_pos (by omega) (ev_bind (spec_FibonacciNumber_ev j (by omega)) ?_)
    unfold zk
    by_cases h : (fp j).1 ≤ n
    · rw [if_pos h]
      refine ev_pos h (ev_bind (spec_FibonacciNumber_ev j (by omega)) (ev_pos (by omega) ?_))
      rw [wr (show -9223372036854775808 ≤ n - (fp j).1 by omega) (by omega)]
      exact ih _ _ (by omega) (by omega) (by omega) (by simp; omega)
    · rw [if_neg h]
      refine ev_neg h ?_
      by_cases h2 : 0 < acc.length
      · rw [if_pos h2]
        exact ev_pos (by omega) (ev_pos (by omega) (ih _ _ (by omega) h0 h1 (by simp; omega)))
      · rw [if_neg h2]
        exact ev_neg (by omega) (ih _ _ (by omega) h0 h1 (by omega))
def zeckRes (n : Int) : List Int := if 0 ≤ n ∧ n < 267914296 then zk 40 n [] else []
theorem spec_ZeckendorfOf_ev (n : Int) : Ev (fun m => spec_ZeckendorfOf.f m n) (zeckRes n) := by
  simp only [spec_ZeckendorfOf.f, Option.bind_some]
  have no : ¬ (0 ≤ n ∧ n < 267914296) → Ev (fun m => spec_ZeckendorfOf.j0 m n [] true) (zeckRes n) := by
    intro h
    refine ev_succ ?_
    simp only [spec_ZeckendorfOf.j0]
    exact ev_pos trivial (ev_some (by unfold zeckRes; rw [if_neg h]))
  refine ev_ite (fun h => no (by omega)) (fun h => ev_bind (spec_FibonacciNumber_ev 40 (by omega)) ?_)
  rw [fp_40]
  by_cases h2 : n ≥ 267914296
  · rw [decide_eq_true h2]; exact no (by omega)
  · rw [decide_eq_false h2]
    refine ev_succ ?_
    simp only [spec_ZeckendorfOf.j0]
    refine ev_neg (by simp) ?_
    unfold zeckRes
    rw [if_pos ⟨by omega, by omega⟩]
    exact spec_ZeckendorfOf_l0 40 n [] (by omega) (by omega) (by omega) (by simp)
theorem zeckRes_length (n : Int) : (zeckRes n).length ≤ 40 := by
  unfold zeckRes
  split
  · have := zk_length 40 n []; simpa using this
  · simp
theorem zeckRes_bits (n : Int) : ∀ x ∈ zeckRes n, x = 0 ∨ x = 1 := by
  unfold zeckRes
  split
  · exact zk_bits 40 n [] (by simp)
  · simp


def fibLet (n : Int) : Int := if 0 ≤ n ∧ n < 267914296 then (if (zeckRes n).length = 0 then 0 else rd (zeckRes n) (((zeckRes n).length - 1 : Nat) : Int)) else -1
theorem spec_FibonacciLetter_ev (n : Int) : Ev (fun k => spec_FibonacciLetter.f k n) (fibLet n) := by
  simp only [spec_FibonacciLetter.f]
  have no : ¬ (0 ≤ n ∧ n < 267914296) → Ev (fun m => spec_FibonacciLetter.j0 m n true) (fibLet n) := by
    intro h
    refine ev_succ ?_
    simp only [spec_FibonacciLetter.j0]
    exact ev_pos trivial (ev_some (by unfold fibLet; rw [if_neg h]))
  refine ev_ite (fun h => no (by omega)) (fun h => ev_bind (spec_FibonacciNumber_ev 40 (by omega)) ?_)
  rw [fp_40]
  by_cases h2 : n ≥ 267914296
  · rw [decide_eq_true h2]; exact no (by omega)
  · rw [decide_eq_false h2]
    refine ev_succ ?_
    simp only [spec_FibonacciLetter.j0]
    refine ev_neg (by simp) (ev_bind (spec_ZeckendorfOf_ev n) ?_)
    have hl := zeckRes_length n
    unfold fibLet
    rw [if_pos (show 0 ≤ n ∧ n < 267914296 from ⟨by omega, by omega⟩)]
    by_cases h3 : (zeckRes n).length = 0
    · rw [if_pos h3]; exact ev_neg (by omega) (ev_some rfl)
    · rw [if_neg h3]
      have hw : wrap64 (((zeckRes n).length : Int) - 1) = (((zeckRes n).length - 1 : Nat) : Int) := by rw [wr (by omega) (by omega)]; omega
      rw [hw]
      have hbit := zeckRes_bits n _ (rd_mem (l := zeckRes n) (i := (zeckRes n).length - 1) (by omega))
      refine ev_pos (by omega) (ev_pos (by omega) (ev_pos (by omega) (ev_ite (fun h4 => ev_some h4.symm) (fun h4 => ev_some ?_))))
      rcases hbit with e | e
      · exact e.symm
      · exact absurd e h4

theorem letters_all : ∀ i : Fin 256, fibLet ((i.val : Nat) : Int) = rd fibL ((i.val : Nat) : Int) := by decide +kernel
theorem spec_letter (i : Nat) (h : i < 256) : Ev (fun k => spec_FibonacciLetter.f k (i : Int)) (rd fibL (i : Int)) := ev_eq (spec_FibonacciLetter_ev (i : Int)) (letters_all ⟨i, h⟩)
theorem fibL_len : fibL.length = 256 := by decide +kernel
theorem fibL_bits : ∀ i : Fin 256, rd fibL ((i.val : Nat) : Int) = 0 ∨ rd fibL ((i.val : Nat) : Int) = 1 := by decide +kernel


def fpRes (n : Int) : List Int := if 1 ≤ n ∧ n ≤ 256 then fibL.take n.toNat else []
theorem spec_fp_l0 (n : Nat) (hn : n ≤ 256) (d : Nat) : ∀ (i : Nat), i + d = n → Ev (fun k => spec_FibonacciPrefix.l0 k (n : Int) (fibL.take i) (i : Int)) (fibL.take n) := by
  have hl := fibL_len
  induction d with
  | zero =>
    intro i hi
    obtain rfl : i = n := by omega
    refine ev_succ ?_
    simp only [spec_FibonacciPrefix.l0]
    exact ev_neg (by omega) (ev_some rfl)
  | succ d ih =>
    intro i hi
    refine ev_succ ?_
    simp only [spec_FibonacciPrefix.l0]
    rw [wr1 (by omega) (by omega), show ((i : Int) + 1) = ((i + 1 : Nat) : Int) by omega]
    refine ev_pos (by omega) (ev_pos (by omega) (ev_bind (spec_letter i (by omega)) (ev_pos (by simp; omega) ?_)))
    have : fibL.take i ++ [rd fibL (i : Int)] = fibL.take (i + 1) := by rw [rd_get (by omega), List.take_append_getElem (by omega)]
    rw [this]
    exact ih (i + 1) (by omega)
theorem spec_FibonacciPrefix_ev (n : Int) : Ev (fun k => spec_FibonacciPrefix.f k n) (fpRes n) := by
  simp only [spec_FibonacciPrefix.f]
  unfold fpRes
  by_cases h : 1 ≤ n ∧ n ≤ 256
  · rw [if_pos h]
    obtain ⟨m, rfl⟩ := Int.eq_ofNat_of_zero_le (show 0 ≤ n by omega)
    exact spec_fp_l0 m (by omega) m 0 (by omega)
  · rw [if_neg h]
    refine ev_succ ?_
    simp only [spec_FibonacciPrefix.l0]
    exact ev_ite (fun h1 => ev_neg (by omega) (ev_some rfl)) (fun h1 => ev_some rfl)
theorem impl_FibonacciPrefix_ev (n : Int) : Ev (fun k => impl_FibonacciPrefix.f k n) (fpRes n) := by
  simp only [impl_FibonacciPrefix.f]
  unfold fpRes
  by_cases h : 1 ≤ n ∧ n ≤ 256
  · rw [if_pos h]
    obtain ⟨m, rfl⟩ := Int.eq_ofNat_of_zero_le (show 0 ≤ n by omega)
    exact ev_neg (by omega) (ev_neg (by omega) (ev_bind (impl_fibonacciWord_ev m (by omega)) (ev_some rfl)))
  · rw [if_neg h]
    exact ev_ite (fun h1 => ev_some rfl) (fun h1 => ev_pos (by omega) (ev_some rfl))
theorem fpRes_length (n : Int) : (fpRes n).length ≤ 256 := by
  unfold fpRes
  split
  · have := fibL_len; simp [this]; omega
  · simp


-- SAY: For every number the program's FibonacciPrefix answers what the reference's answers, in memory of its own. No conditions beyond the given statement.
theorem FnExactFibonacciPrefix : laws_FnExactFibonacciPrefix.Pure := by
  intro n _
  refine Ev.rounds (g := fun k => laws_FnExactFibonacciPrefix.f k n) ?_
  simp only [laws_FnExactFibonacciPrefix.f]
  have hl := fpRes_length n
  have hS := spec_FibonacciPrefix_ev n
  have hI := impl_FibonacciPrefix_ev n
  generalize fpRes n = l at *
  refine ev_bind hS (ev_bind hI ?_)
  refine ev_bind (eqIntS_ev l (by omega)) (ev_pos rfl ?_)
  refine ev_bind (markIntS_ev l 1 (by omega) (by omega)) ?_
  refine ev_bind (heldIntS_ev 1 l.length (by omega) (by omega)) ?_
  refine ev_neg (by omega) (ev_pos rfl ?_)
  refine ev_bind hI (ev_bind (eqIntS_ev l (by omega)) (ev_pos rfl ?_))
  refine ev_bind (heldIntS_ev 1 l.length (by omega) (by omega)) ?_
  exact ev_neg (by omega) (ev_pos rfl (ev_some rfl))


end Go.Proofs.Ytdcakddfibnllaa.Pure
