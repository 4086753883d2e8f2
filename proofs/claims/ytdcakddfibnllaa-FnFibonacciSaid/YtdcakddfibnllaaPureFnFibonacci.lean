/- For every code the law of the Fibonacci word holds: prefixes, Fibonacci words, the fixed point of its morphism, Wythoff pairs, cold pairs and letter counts are what the reference says. No conditions beyond the given statement. -/
import Derived.Test.YtdcakddfibnllaaPFnFibonaccix18
import Derived.Test.YtdcakddfibnllaaWSized
import Derived.Test.YtdcakddfibnllaaWSized
import Derived.Test.YtdcakddfibnllaaWSized
set_option linter.unusedVariables false
set_option linter.unusedSimpArgs false
namespace Go.Proofs.Ytdcakddfibnllaa.Pure
open Go.RowKit Go.Proofs.Ytdcakddfibnllaa.PFnFibonacci Go.Proofs.YtdcakddfibnllaaW.PrintWords Go.Proofs.YtdcakddfibnllaaW.PrintLast

theorem ev_succ {α : Type} {g : Nat → Option α} {r : α} (h : Ev (fun k => g (k + 1)) r) : Ev g r := Ev.step (fun _ => rfl) h
theorem ev_some {α : Type} {r r' : α} (h : r = r') : Ev (fun _ => some r) r' := by subst h; exact Ev.now r
theorem ev_pos {α : Type} {c : Prop} [Decidable c] {g f : Nat → Option α} {r : α} (hc : c) (h : Ev g r) : Ev (fun k => if c then g k else f k) r := by
  simp only [if_pos hc]; exact h
theorem ev_neg {α : Type} {c : Prop} [Decidable c] {g f : Nat → Option α} {r : α} (hc : ¬ c) (h : Ev f r) : Ev (fun k => if c then g k else f k) r := by
  simp only [if_neg hc]; exact h
theorem ev_ite {α : Type} {c : Prop} [Decidable c] {g f : Nat → Option α} {r : α} (h : c → Ev g r) (h' : ¬ c → Ev f r) : Ev (fun k => if c then g k else f k) r := by
  by_cases hc : c
  · exact ev_pos hc (h hc)
  · exact ev_neg hc (h' hc)
theorem ev_bind {α β : Type} {g : Nat → Option α} {f : Nat → α → Option β} {a : α} {r : β} (h : Ev g a) (k : Ev (fun n => f n a) r) : Ev (fun n => (g n).bind (f n)) r := Ev.bind h k
theorem ev_bind0 {α β : Type} {o : Option α} {f : Nat → α → Option β} {a : α} {r : β} (h : o = some a) (k : Ev (fun n => f n a) r) : Ev (fun n => o.bind (f n)) r := by
  subst h; exact k
theorem ev_eq {α : Type} {g : Nat → Option α} {r r' : α} (h : Ev g r) (e : r = r') : Ev g r' := e ▸ h
theorem ev_const {α : Type} {o : Option α} {r : α} (h : o = some r) : Ev (fun _ => o) r := by subst h; exact Ev.now r
theorem wr {n : Int} (h0 : -9223372036854775808 ≤ n) (h1 : n ≤ 9223372036854775807) : wrap64 n = n := by unfold wrap64; omega
theorem wr1 {i : Int} (h0 : 0 ≤ i) (h1 : i ≤ 4611686018427387904) : wrap64 (i + 1) = i + 1 := wr (by omega) (by omega)
theorem wr_nat {n : Nat} (h : n ≤ 4611686018427387904) : wrap64 (n : Int) = n := wr (by omega) (by omega)
theorem rd_nat (l : List Int) (i : Nat) : rd l (i : Int) = l.getD i 0 := by simp [rd]
theorem rd_get {l : List Int} {i : Nat} (h : i < l.length) : rd l (i : Int) = l[i] := by
  simp [rd, List.getD_eq_getElem?_getD, List.getElem?_eq_getElem h]
theorem drop_rd {l : List Int} {i : Nat} (h : i < l.length) : l.drop i = rd l (i : Int) :: l.drop (i + 1) := by
  rw [rd_get h]; exact List.drop_eq_getElem_cons h
theorem rd_mem {l : List Int} {i : Nat} (h : i < l.length) : rd l (i : Int) ∈ l := by rw [rd_get h]; exact List.getElem_mem h


theorem big_eq (l : List Int) : laws_big.f l = some (decide ((l.length : Int) > 1048576)) := by simp only [laws_big.f]


theorem laws_sameInts_l0 (a b : List Int) (hl : a.length = b.length) (hn : a.length ≤ 4611686018427387904) (d : Nat) : ∀ (i : Nat), i + d = a.length → Ev (fun k => laws_sameInts.l0 k a b (i : Int)) (decide (a.drop i = b.drop i)) := by
  induction d with
  | zero =>
    intro i hi
    refine ev_succ ?_
    simp only [laws_sameInts.l0]
    refine ev_neg (by omega) (ev_some ?_)
    rw [List.drop_of_length_le (by omega), List.drop_of_length_le (by omega)]; rfl
  | succ d ih =>
    intro i hi
    refine ev_succ ?_
    simp only [laws_sameInts.l0, wr1 (show (0 : Int) ≤ (i : Int) by omega) (by omega)]
    rw [drop_rd (by omega : i < a.length), drop_rd (by omega : i < b.length)]
    refine ev_pos (by omega) (ev_pos (by omega) (ev_pos (by omega) (ev_ite (fun h => ev_eq (ih (i + 1) (by omega)) ?_) (fun h => ev_some ?_))))
    · rw [h]; simp
    · simp [h]
theorem laws_sameInts_ev (a b : List Int) (hn : a.length ≤ 4611686018427387904) : Ev (fun k => laws_sameInts.f k a b) (decide (a = b)) := by
  simp only [laws_sameInts.f]
  refine ev_ite (fun h => ev_eq (laws_sameInts_l0 a b (by omega) hn a.length 0 (by omega)) (by simp)) (fun h => ev_some ?_)
  symm
  simp only [decide_eq_false_iff_not]
  rintro rfl
  exact h rfl
theorem sameInts_refl (a : List Int) (hn : a.length ≤ 4611686018427387904) : Ev (fun k => laws_sameInts.f k a a) true := ev_eq (laws_sameInts_ev a a hn) (by simp)


def cnt (a : Int) : List Int → Int
  | [] => 0
  | x :: l => (if x = a then 1 else 0) + cnt a l
theorem spec_CountLetters_l0 (l : List Int) (a : Int) (hn : l.length ≤ 4611686018427387904) (d : Nat) : ∀ (i : Nat) (s : Int), i + d = l.length → 0 ≤ s → s ≤ i →
    Ev (fun k => spec_CountLetters.l0 k l a s (i : Int)) (s + cnt a (l.drop i)) := by
  induction d with
  | zero =>
    intro i s hi h0 h1
    refine ev_succ ?_
    simp only [spec_CountLetters.l0]
    refine ev_neg (by omega) (ev_some ?_)
    rw [List.drop_of_length_le (by omega)]; simp [cnt]
  | succ d ih =>
    intro i s hi h0 h1
    refine ev_succ ?_
    simp only [spec_CountLetters.l0, wr1 (show (0 : Int) ≤ (i : Int) by omega) (by omega), wr1 h0 (by omega)]
    refine ev_pos (by omega) (ev_pos (by omega) ?_)
    rw [drop_rd (by omega : i < l.length)]
    refine ev_ite (fun h => ev_eq (ih (i + 1) (s + 1) (by omega) (by omega) (by omega)) ?_) (fun h => ev_eq (ih (i + 1) s (by omega) (by omega) (by omega)) ?_)
    · simp only [cnt, if_pos h]; omega
    · simp only [cnt, if_neg h]; omega
theorem spec_CountLetters_ev (l : List Int) (a : Int) (hn : l.length ≤ 4611686018427387904) : Ev (fun k => spec_CountLetters.f k l a) (cnt a l) := by
  simp only [spec_CountLetters.f]
  exact ev_eq (spec_CountLetters_l0 l a hn l.length 0 0 (by omega) (by omega) (by omega)) (by simp)
theorem oneIf_eq (b : Bool) : impl_oneIf.f b = some (if b = true then 1 else 0) := by
  unfold impl_oneIf.f
  cases b <;> rfl
theorem impl_CountLetters_l0 (l : List Int) (a : Int) (hn : l.length ≤ 4611686018427387904) (d : Nat) : ∀ (i : Nat) (s : Int), i + d = l.length → 0 ≤ s → s ≤ i →
    Ev (fun k => impl_CountLetters.l0 k a s l (l.length : Int) (i : Int)) (s + cnt a (l.drop i)) := by
  induction d with
  | zero =>
    intro i s hi h0 h1
    refine ev_succ ?_
    simp only [impl_CountLetters.l0]
    refine ev_neg (by omega) (ev_some ?_)
    rw [List.drop_of_length_le (by omega)]; simp [cnt]
  | succ d ih =>
    intro i s hi h0 h1
    refine ev_succ ?_
    simp only [impl_CountLetters.l0, wr1 (show (0 : Int) ≤ (i : Int) by omega) (by omega), oneIf_eq, Option.bind_some, beq_iff_eq]
    refine ev_pos (by omega) (ev_pos (by omega) (ev_pos (by omega) ?_))
    rw [drop_rd (by omega : i < l.length)]
    by_cases h : rd l (i : Int) = a
    · simp only [if_pos h]
      rw [wr1 h0 (by omega)]
      refine ev_eq (ih (i + 1) (s + 1) (by omega) (by omega) (by omega)) ?_
      simp only [cnt, if_pos h]; omega
    · simp only [if_neg h]
      rw [wr (by omega) (by omega), Int.add_zero]
      refine ev_eq (ih (i + 1) s (by omega) (by omega) (by omega)) ?_
      simp only [cnt, if_neg h]; omega
theorem impl_CountLetters_ev (l : List Int) (a : Int) (hn : l.length ≤ 4611686018427387904) : Ev (fun k => impl_CountLetters.f k l a) (cnt a l) := by
  simp only [impl_CountLetters.f]
  exact ev_eq (impl_CountLetters_l0 l a hn l.length 0 0 (by omega) (by omega) (by omega)) (by simp)


theorem l1In_eq (a b c : Int) : spec_l1In.f a b c = some (decide (b ≤ a ∧ a ≤ c)) := by
  unfold spec_l1In.f
  by_cases h : a ≥ b
  · rw [if_pos h]; simp [show b ≤ a from h]
  · rw [if_neg h]; simp [show ¬ b ≤ a from h]


/-- g tells some answer of which P is known -/
def Tot {α : Type} (g : Nat → Option α) (P : α → Prop) : Prop := ∃ r, Ev g r ∧ P r
theorem tot_of {α : Type} {g : Nat → Option α} {P : α → Prop} {r : α} (h : Ev g r) (hp : P r) : Tot g P := ⟨r, h, hp⟩
theorem tot_some {α : Type} {r : α} {P : α → Prop} (h : P r) : Tot (fun _ => some r) P := ⟨r, Ev.now r, h⟩
theorem tot_bind {α β : Type} {g : Nat → Option α} {f : Nat → α → Option β} {P : α → Prop} {Q : β → Prop} (h : Tot g P) (k : ∀ a, P a → Tot (fun n => f n a) Q) : Tot (fun n => (g n).bind (f n)) Q := by
  obtain ⟨a, ha, hp⟩ := h
  obtain ⟨r, hr, hq⟩ := k a hp
  exact ⟨r, Ev.bind ha hr, hq⟩
theorem tot_bind0 {α β : Type} {o : Option α} {f : Nat → α → Option β} {P : α → Prop} {Q : β → Prop} (h : ∃ a, o = some a ∧ P a) (k : ∀ a, P a → Tot (fun n => f n a) Q) : Tot (fun n => o.bind (f n)) Q := by
  obtain ⟨a, ha, hp⟩ := h
  subst ha
  exact k a hp
theorem tot_pos {α : Type} {c : Prop} [Decidable c] {g f : Nat → Option α} {P : α → Prop} (hc : c) (h : Tot g P) : Tot (fun k => if c then g k else f k) P := by
  simp only [if_pos hc]; exact h
theorem tot_neg {α : Type} {c : Prop} [Decidable c] {g f : Nat → Option α} {P : α → Prop} (hc : ¬ c) (h : Tot f P) : Tot (fun k => if c then g k else f k) P := by
  simp only [if_neg hc]; exact h
theorem tot_ite {α : Type} {c : Prop} [Decidable c] {g f : Nat → Option α} {P : α → Prop} (h : c → Tot g P) (h' : ¬ c → Tot f P) : Tot (fun k => if c then g k else f k) P := by
  by_cases hc : c
  · exact tot_pos hc (h hc)
  · exact tot_neg hc (h' hc)
theorem tot_succ {α : Type} {g : Nat → Option α} {P : α → Prop} (h : Tot (fun k => g (k + 1)) P) : Tot g P := by
  obtain ⟨r, hr, hp⟩ := h
  exact ⟨r, ev_succ hr, hp⟩
theorem tot_mono {α : Type} {g : Nat → Option α} {P Q : α → Prop} (h : Tot g P) (k : ∀ a, P a → Q a) : Tot g Q := by
  obtain ⟨r, hr, hp⟩ := h
  exact ⟨r, hr, k r hp⟩
theorem bits_and_le (x : Int) (m : Nat) (hm : m < 4611686018427387904) : 0 ≤ Go.bits .and .i64 x (m : Int) ∧ Go.bits .and .i64 x (m : Int) ≤ m := by
  have h : ∀ n : Nat, n ≤ m → IntKind.i64.wrap (n : Int) = n := by
    intro n hn
    simp only [IntKind.wrap, IntKind.bits, IntKind.signed, Bool.true_and, decide_eq_true_eq]
    split
    · rename_i h
      have e : (2 : Int) ^ (64 - 1) = 9223372036854775808 := by decide
      have h2 : (n : Int) % 2 ^ 64 ≥ 2 ^ (64 - 1) := of_decide_eq_true h
      rw [e] at h2
      omega
    · omega
  simp only [Go.bits]
  have hb : (BitVec.ofInt IntKind.i64.bits (m : Int)).toNat = m := by
    simp only [BitVec.ofInt_natCast, BitVec.toNat_ofNat, IntKind.bits]
    exact Nat.mod_eq_of_lt (by omega)
  have hle : ((BitVec.ofInt IntKind.i64.bits x) &&& (BitVec.ofInt IntKind.i64.bits (m : Int))).toNat ≤ m := by
    rw [BitVec.toNat_and, hb]; exact Nat.and_le_right
  rw [h _ hle]
  omega
/-- a cursor's place and hash: the place is no negative number -/
def curOk (b : List Int) (i : Int) : Prop := 0 ≤ i ∧ b.length ≤ 1048576
theorem l1Byte_tot (b : List Int) (i h : Int) (hc : curOk b i) : ∃ r, spec_l1Byte.f b i h = some r ∧ 0 ≤ r.1 ∧ r.1 ≤ 255 ∧ curOk b r.2.1 := by
  obtain ⟨h0, hb⟩ := hc
  unfold spec_l1Byte.f
  by_cases hi : i < (b.length : Int)
  · rw [if_pos hi, if_pos h0]
    have := bits_and_le ((wrap64 ((Go.bits .and .i64 (Go.bits .xor .i64 ((wrap64 ((wrap64 (h * 6364136223846793005)) + 1442695040888963407)) / 8589934592) ((wrap64 ((wrap64 (h * 6364136223846793005)) + 1442695040888963407)) / 35184372088832)) 255) + (wrap64 (rd b i))))) 255 (by omega)
    refine ⟨_, rfl, this.1, this.2, ?_, hb⟩
    simp only
    rw [wr1 h0 (by omega)]; omega
  · rw [if_neg hi]
    have := bits_and_le (Go.bits .xor .i64 ((wrap64 ((wrap64 (h * 6364136223846793005)) + 1442695040888963407)) / 8589934592) ((wrap64 ((wrap64 (h * 6364136223846793005)) + 1442695040888963407)) / 35184372088832)) 255 (by omega)
    exact ⟨_, rfl, this.1, this.2, h0, hb⟩
theorem l1Below_tot (b : List Int) (i h n : Int) (hc : curOk b i) (h1 : 1 ≤ n) (h2 : n ≤ 256) : ∃ r, spec_l1Below.f b i h n = some r ∧ (0 ≤ r.1 ∧ r.1 < n) ∧ curOk b r.2.1 := by
  unfold spec_l1Below.f
  rw [if_neg (by omega), if_pos h2]
  obtain ⟨⟨x, i', h'⟩, e, hx0, hx1, hc'⟩ := l1Byte_tot b i h hc
  rw [e]
  simp only [Option.bind_some] at *
  rw [if_neg (by omega)]
  refine ⟨_, rfl, ?_, hc'⟩
  simp only
  rw [Int.tmod_eq_emod_of_nonneg hx0]
  exact ⟨Int.emod_nonneg _ (by omega), Int.emod_lt_of_pos _ (by omega)⟩
theorem l1PickInt_tot (b : List Int) (i h : Int) (l : List Int) (hc : curOk b i) (h1 : 1 ≤ l.length) (h2 : l.length ≤ 256) : ∃ r, spec_l1PickInt.f b i h l = some r ∧ r.1 ∈ l ∧ curOk b r.2.1 := by
  unfold spec_l1PickInt.f
  obtain ⟨⟨x, i', h'⟩, e, ⟨hx0, hx1⟩, hc'⟩ := l1Below_tot b i h (l.length : Int) hc (by omega) (by omega)
  rw [e]
  simp only [Option.bind_some] at *
  rw [if_pos hx0, if_pos hx1]
  refine ⟨_, rfl, ?_, hc'⟩
  simp only
  obtain ⟨n, rfl⟩ := Int.eq_ofNat_of_zero_le hx0
  exact rd_mem (by omega)
theorem l1New_l0 (l : List Int) (hn : l.length ≤ 1048576) (d : Nat) : ∀ (i : Nat) (h : Int), i + d = l.length → Tot (fun k => spec_l1New.l0 k l h (i : Int)) (fun r => r.1 = l ∧ r.2.1 = 0) := by
  induction d with
  | zero =>
    intro i h hi
    refine tot_succ ?_
    simp only [spec_l1New.l0]
    exact tot_neg (by omega) (tot_some ⟨rfl, rfl⟩)
  | succ d ih =>
    intro i h hi
    refine tot_succ ?_
    simp only [spec_l1New.l0, wr1 (show (0 : Int) ≤ (i : Int) by omega) (by omega)]
    exact tot_pos (by omega) (tot_ite (fun _ => tot_pos (by omega) (ih (i + 1) _ (by omega))) (fun _ => tot_some ⟨rfl, rfl⟩))
theorem l1New_tot (l : List Int) (hn : l.length ≤ 1048576) : Tot (fun k => spec_l1New.f k l) (fun r => r.1 = l ∧ r.2.1 = 0) := by
  simp only [spec_l1New.f]
  exact l1New_l0 l hn l.length 0 _ (by omega)


def fp : Nat → Int × Int
  | 0 => (1, 2)
  | n + 1 => ((fp n).2, (fp n).1 + (fp n).2)
def fibs : List Int := [1, 2, 3, 5, 8, 13, 21, 34, 55, 89, 144, 233, 377, 610, 987, 1597, 2584, 4181, 6765, 10946, 17711, 28657, 46368, 75025, 121393, 196418, 317811, 514229, 832040, 1346269, 2178309, 3524578, 5702887, 9227465, 14930352, 24157817, 39088169, 63245986, 102334155, 165580141, 267914296]
theorem fibs_all : ∀ k : Fin 41, rd fibs ((k.val : Nat) : Int) = (fp k.val).1 := by decide +kernel
theorem fibs_at {k : Nat} (h : k < 41) : rd fibs (k : Int) = (fp k).1 := fibs_all ⟨k, h⟩
theorem fp_all : ∀ k : Fin 41, 0 < (fp k.val).1 ∧ (fp k.val).1 < 1000000000 ∧ 0 < (fp k.val).2 ∧ (fp k.val).2 < 1000000000 := by decide +kernel
theorem fp_bound {k : Nat} (h : k < 41) : 0 < (fp k).1 ∧ (fp k).1 < 1000000000 ∧ 0 < (fp k).2 ∧ (fp k).2 < 1000000000 := fp_all ⟨k, h⟩
theorem fp_40 : (fp 40).1 = 267914296 := by decide +kernel
theorem spec_FibonacciNumber_l0 (k : Nat) (hk : k ≤ 40) (d : Nat) : ∀ (i : Nat), i + d = k → Ev (fun m => spec_FibonacciNumber.l0 m (k : Int) (fp i).1 (fp i).2 (i : Int)) (fp k).1 := by
  induction d with
  | zero =>
    intro i hi
    obtain rfl : i = k := by omega
    refine ev_succ ?_
    simp only [spec_FibonacciNumber.l0]
    exact ev_neg (by omega) (ev_some rfl)
  | succ d ih =>
    intro i hi
    have hb := fp_bound (k := i) (by omega)
    refine ev_succ ?_
    simp only [spec_FibonacciNumber.l0]
    rw [wr1 (by omega) (by omega), wr (show -9223372036854775808 ≤ (fp i).1 + (fp i).2 by omega) (by omega), show ((i : Int) + 1) = ((i + 1 : Nat) : Int) by omega]
    exact ev_pos (by omega) (ih (i + 1) (by omega))
theorem spec_FibonacciNumber_ev (k : Nat) (hk : k ≤ 40) : Ev (fun m => spec_FibonacciNumber.f m (k : Int)) (fp k).1 := by
  simp only [spec_FibonacciNumber.f, l1In_eq, Option.bind_some]
  exact ev_pos (by simp; omega) (spec_FibonacciNumber_l0 k hk k 0 (by omega))
def zk : Nat → Int → List Int → List Int
  | 0, _, acc => acc
  | j + 1, n, acc => if (fp j).1 ≤ n then zk j (n - (fp j).1) (acc ++ [1]) else if 0 < acc.length then zk j n (acc ++ [0]) else zk j n acc
theorem zk_bits : ∀ (j : Nat) (n : Int) (acc : List Int), (∀ x ∈ acc, x = 0 ∨ x = 1) → ∀ x ∈ zk j n acc, x = 0 ∨ x = 1
  | 0, _, _, h => h
  | j + 1, n, acc, h => by
    unfold zk
    split
    · exact zk_bits j _ _ (by intro x hx; rcases List.mem_append.1 hx with h1 | h1; exact h x h1; simp at h1; exact .inr h1)
    · split
      · exact zk_bits j _ _ (by intro x hx; rcases List.mem_append.1 hx with h1 | h1; exact h x h1; simp at h1; exact .inl h1)
      · exact zk_bits j _ _ h
theorem zk_length : ∀ (j : Nat) (n : Int) (acc : List Int), (zk j n acc).length ≤ acc.length + j
  | 0, _, _ => by simp [zk]
  | j + 1, n, acc => by
    unfold zk
    split
    · have := zk_length j (n - (fp j).1) (acc ++ [1]); simp at this; omega
    · split
      · have := zk_length j n (acc ++ [0]); simp at this; omega
      · have := zk_length j n acc; omega
theorem spec_ZeckendorfOf_l0 (j : Nat) : ∀ (n : Int) (acc : List Int), j ≤ 40 → 0 ≤ n → n ≤ 1000000000 → acc.length + j ≤ 100 → Ev (fun m => spec_ZeckendorfOf.l0 m n acc ((j : Int) - 1)) (zk j n acc) := by
  induction j with
  | zero =>
    intro n acc _ _ _ _
    refine ev_succ ?_
    simp only [spec_ZeckendorfOf.l0]
    exact ev_neg (by omega) (ev_some (by simp [zk]))
  | succ j ih =>
    intro n acc hj h0 h1 ha
    have hb := fp_bound (k := j) (by omega)
    have he : ((j + 1 : Nat) : Int) - 1 = (j : Int) := by omega
    have hw : wrap64 ((j : Int) - 1) = (j : Int) - 1 := wr (by omega) (by omega)
    refine ev_succ ?_
    simp only [spec_ZeckendorfOf.l0, he, hw]
    refine ev_pos (by omega) (ev_bind (spec_FibonacciNumber_ev j (by omega)) ?_)
    unfold zk
    by_cases h : (fp j).1 ≤ n
    · rw [if_pos h]
      refine ev_pos h (ev_bind (spec_FibonacciNumber_ev j (by omega)) (ev_pos (by omega) ?_))
      rw [wr (show -9223372036854775808 ≤ n - (fp j).1 by omega) (by omega)]
      exact ih _ _ (by omega) (by omega) (by omega) (by simp; omega)
    · rw [if_neg h]
      refine ev_neg h ?_
      by_cases h2 : 0 < acc.length
      · rw [if_pos h2]
        exact ev_pos (by omega) (ev_pos (by omega) (ih _ _ (by omega) h0 h1 (by simp; omega)))
      · rw [if_neg h2]
        exact ev_neg (by omega) (ih _ _ (by omega) h0 h1 (by omega))
theorem impl_ZeckendorfOf_l0 (j : Nat) : ∀ (n : Int) (acc : List Int), j ≤ 40 → 0 ≤ n → n ≤ 1000000000 → acc.length + j ≤ 100 → Ev (fun m => impl_ZeckendorfOf.l0 m n acc fibs ((j : Int) - 1)) (zk j n acc) := by
  have hfl : fibs.length = 41 := rfl
  induction j with
  | zero =>
    intro n acc _ _ _ _
    refine ev_succ ?_
    simp only [impl_ZeckendorfOf.l0]
    exact ev_neg (by omega) (ev_some (by simp [zk]))
  | succ j ih =>
    intro n acc hj h0 h1 ha
    have hb := fp_bound (k := j) (by omega)
    have he : ((j + 1 : Nat) : Int) - 1 = (j : Int) := by omega
    have hw : wrap64 ((j : Int) - 1) = (j : Int) - 1 := wr (by omega) (by omega)
    refine ev_succ ?_
    simp only [impl_ZeckendorfOf.l0, he, hw, fibs_at (show j < 41 by omega)]
    refine ev_pos (by omega) (ev_pos (by omega) (ev_pos (by omega) ?_))
    unfold zk
    by_cases h : (fp j).1 ≤ n
    · rw [if_pos h]
      refine ev_pos h (ev_pos (by omega) ?_)
      rw [wr (show -9223372036854775808 ≤ n - (fp j).1 by omega) (by omega)]
      exact ih _ _ (by omega) (by omega) (by omega) (by simp; omega)
    · rw [if_neg h]
      refine ev_neg h ?_
      by_cases h2 : 0 < acc.length
      · rw [if_pos h2]
        exact ev_pos (by omega) (ev_pos (by omega) (ih _ _ (by omega) h0 h1 (by simp; omega)))
      · rw [if_neg h2]
        exact ev_neg (by omega) (ih _ _ (by omega) h0 h1 (by omega))
def zeckRes (n : Int) : List Int := if 0 ≤ n ∧ n < 267914296 then zk 40 n [] else []
theorem impl_hasForm_eq (n : Int) : impl_hasForm.f n = some (decide (0 ≤ n ∧ n < 267914296)) := by
  unfold impl_hasForm.f
  by_cases h : n ≥ 0
  · rw [if_pos h, show impl_FibonacciNumber.f 40 = some 267914296 by decide +kernel]
    simp [show 0 ≤ n from h]
  · rw [if_neg h]; simp [show ¬ 0 ≤ n from h]
theorem spec_ZeckendorfOf_ev (n : Int) : Ev (fun m => spec_ZeckendorfOf.f m n) (zeckRes n) := by
  simp only [spec_ZeckendorfOf.f, Option.bind_some]
  have no : ¬ (0 ≤ n ∧ n < 267914296) → Ev (fun m => spec_ZeckendorfOf.j0 m n [] true) (zeckRes n) := by
    intro h
    refine ev_succ ?_
    simp only [spec_ZeckendorfOf.j0]
    exact ev_pos trivial (ev_some (by unfold zeckRes; rw [if_neg h]))
  refine ev_ite (fun h => no (by omega)) (fun h => ev_bind (spec_FibonacciNumber_ev 40 (by omega)) ?_)
  rw [fp_40]
  by_cases h2 : n ≥ 267914296
  · rw [decide_eq_true h2]; exact no (by omega)
  · rw [decide_eq_false h2]
    refine ev_succ ?_
    simp only [spec_ZeckendorfOf.j0]
    refine ev_neg (by simp) ?_
    unfold zeckRes
    rw [if_pos ⟨by omega, by omega⟩]
    exact spec_ZeckendorfOf_l0 40 n [] (by omega) (by omega) (by omega) (by simp)
theorem impl_ZeckendorfOf_ev (n : Int) : Ev (fun m => impl_ZeckendorfOf.f m n) (zeckRes n) := by
  simp only [impl_ZeckendorfOf.f, Option.bind_some, impl_hasForm_eq]
  unfold zeckRes
  by_cases h : 0 ≤ n ∧ n < 267914296
  · rw [if_pos h]
    refine ev_pos (by simpa using h) ?_
    exact impl_ZeckendorfOf_l0 40 n [] (by omega) (by omega) (by omega) (by simp)
  · rw [if_neg h]
    exact ev_neg (by simpa using h) (ev_some rfl)
theorem zeckRes_length (n : Int) : (zeckRes n).length ≤ 40 := by
  unfold zeckRes
  split
  · have := zk_length 40 n []; simpa using this
  · simp
theorem zeckRes_bits (n : Int) : ∀ x ∈ zeckRes n, x = 0 ∨ x = 1 := by
  unfold zeckRes
  split
  · exact zk_bits 40 n [] (by simp)
  · simp


theorem l1Once_tot (b : List Int) (i h n : Int) (hc : curOk b i) (h1 : 1 ≤ n) (h2 : n ≤ 256) : ∃ a, spec_l1Once.f b i h n = some a ∧ curOk b a.2.1 := by
  unfold spec_l1Once.f
  obtain ⟨r, e, _, hc⟩ := l1Below_tot b i h n hc h1 h2
  rw [e]
  exact ⟨_, rfl, hc⟩
theorem l21Number_tot (b : List Int) (i h : Int) (hc : curOk b i) : ∃ a, spec_l21Number.f b i h = some a ∧ curOk b a.2.1 := by
  unfold spec_l21Number.f
  obtain ⟨r, e, hr⟩ := l1Once_tot b i h 10 hc (by omega) (by omega)
  rw [e]
  simp only [Option.bind_some]
  split
  · obtain ⟨r2, e2, _, hr2⟩ := l1PickInt_tot b r.2.1 r.2.2 [-1, 267914295, 267914296, 165580141, 165580140, 9223372036854775807] hr (by decide) (by decide)
    rw [e2]
    exact ⟨_, rfl, hr2⟩
  · obtain ⟨r2, e2, _, hr2⟩ := l1Below_tot b r.2.1 r.2.2 200 hr (by omega) (by omega)
    rw [e2]
    exact ⟨_, rfl, hr2⟩
theorem curAt0 {b : List Int} (h : b.length ≤ 1048576) : curOk b 0 := ⟨by omega, h⟩



theorem rdLL_at {l : List (List Int)} {i : Nat} (h : i < l.length) : rd_L1 l (i : Int) = l[i] := by
  simp [rd_L1, List.getD_eq_getElem?_getD, List.getElem?_eq_getElem h]
theorem rdLL_mem {l : List (List Int)} {i : Nat} (h : i < l.length) : rd_L1 l (i : Int) ∈ l := by rw [rdLL_at h]; exact List.getElem_mem h
/-- all rows are short -/
def fit1 (l : List Int) : Prop := l.length ≤ 1048576
def fit2 (l : List (List Int)) : Prop := l.length ≤ 1048576 ∧ ∀ r ∈ l, fit1 r
theorem all_rd_true {p : Int → Bool} {l : List Int} (h : l.all p = true) {i : Nat} (hi : i < l.length) : p (rd l (i : Int)) = true := List.all_eq_true.1 h _ (rd_mem hi)

def inR (m x : Int) : Bool := decide (0 ≤ x ∧ x < m)
def seqRow (b m : Int) (r : List Int) : Bool := decide ((r.length : Int) = b) && r.all (inR m)
def outOk (x : Int) : Bool := decide (0 ≤ x ∧ x ≤ 3)
def isSeq (b : Int) (next : List (List Int)) (out : List Int) : Bool :=
  decide (2 ≤ b ∧ b ≤ 4) && decide (1 ≤ next.length ∧ next.length ≤ 16) && decide (out.length = next.length) && next.all (seqRow b next.length) && out.all outOk
theorem spec_seq_l2 (b : Int) (next : List (List Int)) (out : List Int) (h2 : fit1 out) (hr : next.all (seqRow b next.length) = true) (d : Nat) : ∀ i : Nat, i + d = out.length → (out.take i).all outOk = true →
    Ev (fun k => spec_IsSequence.l2 k (i : Int) b next out) (isSeq b next out) := by
  unfold fit1 at h2
  induction d with
  | zero =>
    intro i hi ht
    refine ev_succ ?_
    simp only [spec_IsSequence.l2, l1In_eq, Option.bind_some]
    rw [List.take_of_length_le (by omega)] at ht
    refine ev_neg (by omega) ?_
    unfold isSeq
    rw [hr, ht]
    by_cases hb : 2 ≤ b ∧ b ≤ 4
    · rw [decide_eq_true hb]
      refine ev_pos (by simp) ?_
      by_cases hm : 1 ≤ next.length ∧ next.length ≤ 16
      · rw [decide_eq_true hm]
        refine ev_pos (by simp; omega) (ev_some ?_)
        simp only [Bool.true_and, Bool.and_true]
        rw [Bool.eq_iff_iff]; simp; omega
      · rw [decide_eq_false hm]
        exact ev_neg (by simp; omega) (ev_some (by simp))
    · rw [decide_eq_false hb]
      exact ev_neg (by simp) (ev_some (by simp))
  | succ d ih =>
    intro i hi ht
    refine ev_succ ?_
    simp only [spec_IsSequence.l2, l1In_eq, Option.bind_some, wr1 (show (0 : Int) ≤ (i : Int) by omega) (by omega)]
    refine ev_pos (by omega) (ev_pos (by omega) (ev_ite (fun h => ih (i + 1) (by omega) ?_) (fun h => ev_some ?_)))
    · rw [List.take_succ_eq_append_getElem (by omega), ← rd_get (by omega), List.all_append, ht]; simpa [outOk] using h
    · symm
      unfold isSeq
      have : out.all outOk = false := by
        rw [Bool.eq_false_iff]
        intro hall
        exact h (by simpa [outOk] using all_rd_true hall (show i < out.length by omega))
      rw [this]; simp
theorem spec_seq_l1 (b : Int) (next : List (List Int)) (out : List Int) (hf : fit2 next) (a : Nat) (ha : a < next.length) (r : List Int) (hr : r = rd_L1 next (a : Int)) (R : Bool)
    (H : r.all (inR next.length) = true → Ev (fun k => spec_IsSequence.l0 k ((a + 1 : Nat) : Int) b next out) R) (H2 : r.all (inR next.length) = false → R = false) (d : Nat) : ∀ j : Nat, j + d = r.length → (r.take j).all (inR next.length) = true →
    Ev (fun k => spec_IsSequence.l1 k (a : Int) (j : Int) b next out) R := by
  have h1 := hf.1
  have h2 := hf.2 _ (rdLL_mem ha)
  rw [← hr] at h2
  unfold fit1 at h2
  induction d with
  | zero =>
    intro j hj ht
    refine ev_succ ?_
    simp only [spec_IsSequence.l1]
    rw [← hr, wr1 (show (0 : Int) ≤ (a : Int) by omega) (by omega)]
    rw [List.take_of_length_le (by omega)] at ht
    exact ev_pos (by omega) (ev_pos (by omega) (ev_neg (by omega) (H ht)))
  | succ d ih =>
    intro j hj ht
    refine ev_succ ?_
    simp only [spec_IsSequence.l1, wr1 (show (0 : Int) ≤ (j : Int) by omega) (by omega)]
    rw [← hr]
    have nope : ¬ (0 ≤ rd r (j : Int) ∧ rd r (j : Int) < (next.length : Int)) → R = false := by
      intro h
      refine H2 ?_
      rw [Bool.eq_false_iff]
      intro hall
      have := all_rd_true hall (show j < r.length by omega)
      simp only [inR, decide_eq_true_eq] at this
      exact h this
    refine ev_pos (by omega) (ev_pos (by omega) (ev_pos (by omega) (ev_pos (by omega) (ev_ite (fun h => ev_some (nope (by omega)).symm) (fun h => ev_ite (fun h' => ev_some (nope (by omega)).symm) (fun h' => ih (j + 1) (by omega) ?_))))))
    rw [List.take_succ_eq_append_getElem (by omega), ← rd_get (by omega), List.all_append, ht]
    simp only [List.all_cons, List.all_nil, inR, decide_eq_true (show 0 ≤ rd r (j : Int) ∧ rd r (j : Int) < (next.length : Int) by omega), Bool.and_self]
theorem spec_seq_l0 (b : Int) (next : List (List Int)) (out : List Int) (hf : fit2 next) (h2 : fit1 out) (d : Nat) : ∀ a : Nat, a + d = next.length → (next.take a).all (seqRow b next.length) = true →
    Ev (fun k => spec_IsSequence.l0 k (a : Int) b next out) (isSeq b next out) := by
  have h1 := hf.1
  induction d with
  | zero =>
    intro a hi ht
    refine ev_succ ?_
    simp only [spec_IsSequence.l0]
    rw [List.take_of_length_le (by omega)] at ht
    exact ev_neg (by omega) (spec_seq_l2 b next out h2 ht out.length 0 (by omega) (by simp))
  | succ d ih =>
    intro a hi ht
    refine ev_succ ?_
    simp only [spec_IsSequence.l0]
    have nope : seqRow b next.length (rd_L1 next (a : Int)) = false → isSeq b next out = false := by
      intro h
      have : next.all (seqRow b next.length) = false := by
        rw [Bool.eq_false_iff]
        intro hall
        rw [List.all_eq_true.1 hall _ (rdLL_mem (show a < next.length by omega))] at h
        cases h
      unfold isSeq
      rw [this]; simp
    refine ev_pos (by omega) (ev_pos (by omega) (ev_ite (fun h => ?_) (fun h => ev_some (nope ?_).symm)))
    · refine spec_seq_l1 b next out hf a (by omega) _ rfl _ (fun hall => ih (a + 1) (by omega) ?_) (fun hall => nope ?_) (rd_L1 next (a : Int)).length 0 (by omega) (by simp)
      · rw [List.take_succ_eq_append_getElem (by omega), ← rdLL_at (by omega), List.all_append, ht]
        simp only [List.all_cons, List.all_nil, seqRow, hall, decide_eq_true h, Bool.and_self]
      · simp only [seqRow, hall, Bool.and_false]
    · simp only [seqRow, decide_eq_false h, Bool.false_and]
theorem spec_IsSequence_ev (b : Int) (next : List (List Int)) (out : List Int) (h1 : fit2 next) (h2 : fit1 out) : Ev (fun k => spec_IsSequence.f k b next out) (isSeq b next out) := by
  simp only [spec_IsSequence.f]
  exact spec_seq_l0 b next out h1 h2 next.length 0 (by omega) (by simp)

theorem tmod_nat (a b : Nat) : Int.tmod (a : Int) (b : Int) = ((a % b : Nat) : Int) := by
  rw [Int.tmod_eq_emod_of_nonneg (by omega)]; exact (Int.natCast_emod a b).symm
theorem tdiv_nat (a b : Nat) : Int.tdiv (a : Int) (b : Int) = ((a / b : Nat) : Int) := by
  rw [Int.tdiv_eq_ediv_of_nonneg (by omega)]; exact (Int.natCast_ediv a b).symm
/-- the digits of n in base b, highest first -/
def digsF : Nat → Nat → Nat → List Int
  | 0, _, _ => []
  | f + 1, n, b => if n = 0 then [] else digsF f (n / b) b ++ [((n % b : Nat) : Int)]
theorem digsF_more (f : Nat) : ∀ (g n b : Nat), 2 ≤ b → n ≤ f → f ≤ g → digsF f n b = digsF g n b := by
  induction f with
  | zero =>
    intro g n b hb hn hg
    obtain rfl : n = 0 := by omega
    cases g with
    | zero => rfl
    | succ g => simp [digsF]
  | succ f ih =>
    intro g n b hb hn hg
    obtain ⟨g, rfl⟩ : ∃ g', g = g' + 1 := ⟨g - 1, by omega⟩
    simp only [digsF]
    by_cases h0 : n = 0
    · rw [if_pos h0, if_pos h0]
    · rw [if_neg h0, if_neg h0]
      have : n / b < n := Nat.div_lt_self (by omega) (by omega)
      rw [ih g (n / b) b hb (by omega) (by omega)]
def digs (n b : Nat) : List Int := digsF n n b
theorem digs_pos (n b : Nat) (hb : 2 ≤ b) (h : n ≠ 0) : digs n b = digs (n / b) b ++ [((n % b : Nat) : Int)] := by
  unfold digs
  obtain ⟨m, rfl⟩ : ∃ m, n = m + 1 := ⟨n - 1, by omega⟩
  conv => lhs; unfold digsF
  rw [if_neg h]
  have : (m + 1) / b < m + 1 := Nat.div_lt_self (by omega) (by omega)
  rw [digsF_more ((m + 1) / b) m ((m + 1) / b) b hb (Nat.le_refl _) (by omega)]
theorem digs_zero (b : Nat) : digs 0 b = [] := rfl
theorem digs_mem (b : Nat) (hb : 2 ≤ b) (f : Nat) : ∀ n, n ≤ f → ∀ x ∈ digs n b, 0 ≤ x ∧ x < (b : Int) := by
  induction f with
  | zero => intro n hn x hx; obtain rfl : n = 0 := by omega
            cases hx
  | succ f ih =>
    intro n hn x hx
    by_cases h0 : n = 0
    · subst h0; cases hx
    · rw [digs_pos n b hb h0] at hx
      have : n / b < n := Nat.div_lt_self (by omega) (by omega)
      rcases List.mem_append.1 hx with hx | hx
      · exact ih (n / b) (by omega) x hx
      · simp only [List.mem_cons, List.not_mem_nil, or_false] at hx
        have := Nat.mod_lt n (show b > 0 by omega)
        omega
theorem digs_len (b : Nat) (hb : 2 ≤ b) (e : Nat) : ∀ n, n < b ^ e → (digs n b).length ≤ e := by
  induction e with
  | zero => intro n hn; simp at hn; subst hn; simp [digs_zero]
  | succ e ih =>
    intro n hn
    by_cases h0 : n = 0
    · subst h0; simp [digs_zero]
    · rw [digs_pos n b hb h0]
      have : n / b < b ^ e := by
        rw [Nat.div_lt_iff_lt_mul (by omega)]
        rw [Nat.pow_succ] at hn; exact hn
      have := ih _ this
      simp; omega
/-- the state behind some digits -/
def walkS (next : List (List Int)) (s : Int) : List Int → Int
  | [] => s
  | d :: l => walkS next (rd (rd_L1 next s) d) l
theorem isSeq_facts {b : Int} {next : List (List Int)} {out : List Int} (h : isSeq b next out = true) : (2 ≤ b ∧ b ≤ 4) ∧ (1 ≤ next.length ∧ next.length ≤ 16) ∧ out.length = next.length ∧
    (∀ r ∈ next, (r.length : Int) = b ∧ ∀ x ∈ r, 0 ≤ x ∧ x < (next.length : Int)) ∧ ∀ x ∈ out, 0 ≤ x ∧ x ≤ 3 := by
  unfold isSeq at h
  simp only [Bool.and_eq_true, decide_eq_true_eq, List.all_eq_true] at h
  obtain ⟨⟨⟨⟨h1, h2⟩, h3⟩, h4⟩, h5⟩ := h
  refine ⟨h1, h2, h3, fun r hr => ?_, fun x hx => by simpa [outOk] using h5 x hx⟩
  have := h4 r hr
  simp only [seqRow, Bool.and_eq_true, decide_eq_true_eq, List.all_eq_true] at this
  exact ⟨this.1, fun x hx => by simpa [inR] using this.2 x hx⟩
theorem walk_step {b : Int} {next : List (List Int)} {out : List Int} (h : isSeq b next out = true) {s d : Int} (hs : 0 ≤ s ∧ s < (next.length : Int)) (hd : 0 ≤ d ∧ d < b) :
    d < ((rd_L1 next s).length : Int) ∧ 0 ≤ rd (rd_L1 next s) d ∧ rd (rd_L1 next s) d < (next.length : Int) := by
  obtain ⟨_, _, _, h4, _⟩ := isSeq_facts h
  obtain ⟨i, rfl⟩ := Int.eq_ofNat_of_zero_le hs.1
  obtain ⟨j, rfl⟩ := Int.eq_ofNat_of_zero_le hd.1
  have hr := h4 _ (rdLL_mem (show i < next.length by omega))
  exact ⟨by omega, hr.2 _ (rd_mem (by omega))⟩
theorem walkS_in {b : Int} {next : List (List Int)} {out : List Int} (h : isSeq b next out = true) : ∀ (l : List Int) (s : Int), 0 ≤ s ∧ s < (next.length : Int) → (∀ x ∈ l, 0 ≤ x ∧ x < b) → 0 ≤ walkS next s l ∧ walkS next s l < (next.length : Int) := by
  intro l
  induction l with
  | nil => intro s hs _; exact hs
  | cons d l ih =>
    intro s hs hl
    exact ih _ (walk_step h hs (hl d (by simp))).2 (fun x hx => hl x (by simp [hx]))
def termN (b : Nat) (next : List (List Int)) (out : List Int) (n : Nat) : Int := rd out (walkS next 0 (digs n b))
theorem pow_bd {b e : Nat} (hb : b ≤ 4) (he : e ≤ 16) : b ^ e ≤ 4294967296 := by
  refine Nat.le_trans (Nat.pow_le_pow_left hb e) (Nat.le_trans (Nat.pow_le_pow_right (by omega) he) ?_)
  decide
theorem spec_PowerOf_l0 (b e : Nat) (hb : b ≤ 4) (he : e ≤ 16) (d : Nat) : ∀ i : Nat, i + d = e → Ev (fun k => spec_PowerOf.l0 k (b : Int) (e : Int) ((b ^ i : Nat) : Int) (i : Int)) ((b ^ e : Nat) : Int) := by
  induction d with
  | zero =>
    intro i hi
    refine ev_succ ?_
    simp only [spec_PowerOf.l0]
    exact ev_neg (by omega) (ev_some (by rw [show i = e by omega]))
  | succ d ih =>
    intro i hi
    have := ih (i + 1) (by omega)
    have h1 := pow_bd hb (show i + 1 ≤ 16 by omega)
    refine ev_succ ?_
    simp only [spec_PowerOf.l0]
    rw [← Int.natCast_mul, ← Nat.pow_succ, wr_nat (show b ^ (i + 1) ≤ 4611686018427387904 by omega), wr1 (by omega) (by omega)]
    exact ev_pos (by omega) this
theorem spec_PowerOf16_ev (b : Nat) (hb1 : 2 ≤ b) (hb : b ≤ 4) : Ev (fun k => spec_PowerOf.f k (b : Int) 16) ((b ^ 16 : Nat) : Int) := by
  simp only [spec_PowerOf.f, l1In_eq, Option.bind_some]
  refine ev_pos (by simp; omega) (ev_succ ?_)
  simp only [spec_PowerOf.j0]
  refine ev_neg (by decide) ?_
  exact spec_PowerOf_l0 b 16 hb (Nat.le_refl _) 16 0 (by omega)
theorem spec_DigitsOf_l0 (b : Nat) (hb : 2 ≤ b) (hb2 : b ≤ 4) (f : Nat) : ∀ (n : Nat) (acc : List Int), n ≤ f → n ≤ 4294967296 → acc.length + f ≤ 8589934592 →
    Ev (fun k => spec_DigitsOf.l0 k (n : Int) (b : Int) acc) (digs n b ++ acc) := by
  induction f with
  | zero =>
    intro n acc hn hn2 ha
    obtain rfl : n = 0 := by omega
    refine ev_succ ?_
    simp only [spec_DigitsOf.l0]
    exact ev_neg (by omega) (ev_some (by simp [digs_zero]))
  | succ f ih =>
    intro n acc hn hn2 ha
    refine ev_succ ?_
    simp only [spec_DigitsOf.l0, tdiv_nat, tmod_nat, Option.bind_some]
    by_cases h0 : n = 0
    · subst h0
      exact ev_neg (by omega) (ev_some (by simp [digs_zero]))
    · have hlt : n / b < n := Nat.div_lt_self (by omega) (by omega)
      rw [wr_nat (show n / b ≤ 4611686018427387904 by omega)]
      refine ev_pos (by omega) (ev_neg (by omega) (ev_pos (by simp only [List.length_cons, List.length_nil]; omega) (ev_eq (ih (n / b) _ (by omega) (by omega) (by simp; omega)) ?_)))
      rw [digs_pos n b hb h0]; simp
theorem spec_DigitsOf_ev (n b : Nat) (hb : 2 ≤ b) (hb2 : b ≤ 4) (hn : n < b ^ 16) : Ev (fun k => spec_DigitsOf.f k (n : Int) (b : Int)) (digs n b) := by
  have hp := pow_bd hb2 (show 16 ≤ 16 by omega)
  simp only [spec_DigitsOf.f, l1In_eq, Option.bind_some]
  refine ev_neg (by omega) (ev_pos (by simp; omega) (ev_bind (spec_PowerOf16_ev b hb hb2) ?_))
  rw [decide_eq_false (by omega)]
  refine ev_succ ?_
  simp only [spec_DigitsOf.j0]
  exact ev_neg (by simp) (ev_eq (spec_DigitsOf_l0 b hb hb2 n n [] (Nat.le_refl _) (by omega) (by simp; omega)) (by simp))
theorem spec_AreDigits_l0 (l : List Int) (b : Int) (hb : 2 ≤ b ∧ b ≤ 4) (hl : ∀ x ∈ l, 0 ≤ x ∧ x < b) (hn : l.length ≤ 16) (d : Nat) : ∀ (i : Nat), i + d = l.length → Ev (fun k => spec_AreDigits.l0 k l b (i : Int)) true := by
  induction d with
  | zero =>
    intro i hi
    refine ev_succ ?_
    simp only [spec_AreDigits.l0, l1In_eq, Option.bind_some]
    exact ev_neg (by omega) (ev_pos (by simpa using hb) (ev_some (by simp; omega)))
  | succ d ih =>
    intro i hi
    have hd := hl _ (rd_mem (show i < l.length by omega))
    refine ev_succ ?_
    simp only [spec_AreDigits.l0, wr1 (show (0 : Int) ≤ (i : Int) by omega) (by omega)]
    exact ev_pos (by omega) (ev_pos (by omega) (ev_neg (by omega) (ev_neg (by omega) (ih (i + 1) (by omega)))))
theorem spec_after_l0 {b : Int} {next : List (List Int)} {out : List Int} (h : isSeq b next out = true) (l : List Int) (hn : l.length ≤ 1048576) (hl : ∀ x ∈ l, 0 ≤ x ∧ x < b) (d : Nat) : ∀ (i : Nat) (s : Int), i + d = l.length → 0 ≤ s ∧ s < (next.length : Int) →
    Ev (fun k => spec_StateAfter.l0 k l s (i : Int) b next out) (walkS next s (l.drop i)) := by
  induction d with
  | zero =>
    intro i s hi hs
    refine ev_succ ?_
    simp only [spec_StateAfter.l0]
    refine ev_neg (by omega) (ev_some ?_)
    rw [List.drop_of_length_le (by omega)]; rfl
  | succ d ih =>
    intro i s hi hs
    have hd := hl _ (rd_mem (show i < l.length by omega))
    have hw := walk_step h hs hd
    refine ev_succ ?_
    simp only [spec_StateAfter.l0, wr1 (show (0 : Int) ≤ (i : Int) by omega) (by omega)]
    rw [drop_rd (show i < l.length by omega)]
    exact ev_pos (by omega) (ev_pos hs.1 (ev_pos hs.2 (ev_pos (by omega) (ev_pos hd.1 (ev_pos hw.1 (ih (i + 1) _ (by omega) hw.2))))))
theorem spec_StateAfter_ev {b : Int} {next : List (List Int)} {out : List Int} (h : isSeq b next out = true) (h1 : fit2 next) (h2 : fit1 out) (l : List Int) (hn : l.length ≤ 16) (hl : ∀ x ∈ l, 0 ≤ x ∧ x < b) :
    Ev (fun k => spec_StateAfter.f k b next out l) (walkS next 0 l) := by
  simp only [spec_StateAfter.f, spec_AreDigits.f]
  have hb := (isSeq_facts h).1
  have hm := (isSeq_facts h).2.1
  refine ev_bind (spec_IsSequence_ev b next out h1 h2) (ev_pos h (ev_bind (spec_AreDigits_l0 l b hb hl hn l.length 0 (by omega)) (ev_succ ?_)))
  simp only [spec_StateAfter.j0]
  exact ev_neg (by simp) (spec_after_l0 h l (by omega) hl l.length 0 0 (by omega) ⟨by omega, by omega⟩)
theorem spec_TermAt_ev {b : Nat} {next : List (List Int)} {out : List Int} (h : isSeq (b : Int) next out = true) (h1 : fit2 next) (h2 : fit1 out) (n : Nat) (hn : n < b ^ 16) : Ev (fun k => spec_TermAt.f k (b : Int) next out (n : Int)) (termN b next out n) := by
  obtain ⟨g1, g2, g3, g4, g5⟩ := isSeq_facts h
  have hm := digs_mem b (by omega) n n (Nat.le_refl _)
  have hl := digs_len b (by omega) 16 n hn
  simp only [spec_TermAt.f]
  refine ev_neg (by omega) (ev_bind (spec_IsSequence_ev _ next out h1 h2) (ev_pos h (ev_bind (spec_PowerOf16_ev b (by omega) (by omega)) ?_)))
  rw [decide_eq_false (by omega)]
  refine ev_succ ?_
  simp only [spec_TermAt.j0]
  refine ev_neg (by simp) (ev_bind (spec_DigitsOf_ev n b (by omega) (by omega) hn) (ev_bind (spec_StateAfter_ev h h1 h2 _ hl hm) ?_))
  have hw := walkS_in h (digs n b) 0 ⟨by omega, by omega⟩ hm
  exact ev_pos hw.1 (ev_pos (by omega) (ev_some rfl))

def areL (m : Int) (l : List Int) : Bool := l.all fun x => decide (0 ≤ x ∧ x < m)
theorem impl_areLetters_l0 (l : List Int) (m : Int) (hn : l.length ≤ 4611686018427387904) (d : Nat) : ∀ (i : Nat), i + d = l.length →
    Ev (fun k => impl_areLetters.l0 k m l (l.length : Int) (i : Int)) (areL m (l.drop i)) := by
  induction d with
  | zero =>
    intro i hi
    refine ev_succ ?_
    simp only [impl_areLetters.l0]
    refine ev_neg (by omega) (ev_some ?_)
    rw [List.drop_of_length_le (by omega)]; rfl
  | succ d ih =>
    intro i hi
    refine ev_succ ?_
    simp only [impl_areLetters.l0, wr1 (show (0 : Int) ≤ (i : Int) by omega) (by omega)]
    refine ev_pos (by omega) (ev_pos (by omega) (ev_pos (by omega) ?_))
    rw [drop_rd (by omega : i < l.length)]
    refine ev_ite (fun h => ev_some ?_) (fun h => ev_ite (fun h' => ev_some ?_) (fun h' => ev_eq (ih (i + 1) (by omega)) ?_))
    · simp only [areL, List.all_cons, decide_eq_false (show ¬ (0 ≤ rd l (i : Int) ∧ rd l (i : Int) < m) by omega), Bool.false_and]
    · simp only [areL, List.all_cons, decide_eq_false (show ¬ (0 ≤ rd l (i : Int) ∧ rd l (i : Int) < m) by omega), Bool.false_and]
    · simp only [areL, List.all_cons, decide_eq_true (show (0 ≤ rd l (i : Int) ∧ rd l (i : Int) < m) by omega), Bool.true_and]
theorem impl_areLetters_ev (l : List Int) (m : Int) (hn : l.length ≤ 4611686018427387904) : Ev (fun k => impl_areLetters.f k l m) (areL m l) := by
  simp only [impl_areLetters.f]
  exact impl_areLetters_l0 l m hn l.length 0 (by omega)


theorem spec_IsWord_l0 (l : List Int) (m : Int) (hn : l.length ≤ 4611686018427387904) (d : Nat) : ∀ (i : Nat), i + d = l.length →
    Ev (fun k => spec_IsWord.l0 k l m (i : Int)) (areL m (l.drop i) && decide (1 ≤ m ∧ m ≤ 16) && decide ((l.length : Int) ≤ 400)) := by
  induction d with
  | zero =>
    intro i hi
    refine ev_succ ?_
    simp only [spec_IsWord.l0, l1In_eq, Option.bind_some]
    refine ev_neg (by omega) ?_
    rw [List.drop_of_length_le (by omega)]
    refine ev_ite (fun h => ev_some ?_) (fun h => ev_some ?_)
    · rw [h]; rfl
    · rw [Bool.not_eq_true] at h; rw [h]; rfl
  | succ d ih =>
    intro i hi
    refine ev_succ ?_
    simp only [spec_IsWord.l0, wr1 (show (0 : Int) ≤ (i : Int) by omega) (by omega)]
    refine ev_pos (by omega) (ev_pos (by omega) ?_)
    rw [drop_rd (by omega : i < l.length)]
    refine ev_ite (fun h => ev_some ?_) (fun h => ev_ite (fun h' => ev_some ?_) (fun h' => ev_eq (ih (i + 1) (by omega)) ?_))
    · simp only [areL, List.all_cons, decide_eq_false (show ¬ (0 ≤ rd l (i : Int) ∧ rd l (i : Int) < m) by omega), Bool.false_and]
    · simp only [areL, List.all_cons, decide_eq_false (show ¬ (0 ≤ rd l (i : Int) ∧ rd l (i : Int) < m) by omega), Bool.false_and]
    · simp only [areL, List.all_cons, decide_eq_true (show (0 ≤ rd l (i : Int) ∧ rd l (i : Int) < m) by omega), Bool.true_and]
theorem spec_IsWord_ev (l : List Int) (m : Int) (hn : l.length ≤ 4611686018427387904) : Ev (fun k => spec_IsWord.f k l m) (areL m l && decide (1 ≤ m ∧ m ≤ 16) && decide ((l.length : Int) ≤ 400)) := by
  simp only [spec_IsWord.f]
  exact spec_IsWord_l0 l m hn l.length 0 (by omega)


def lettersW (m : Int) (n : Nat) (y : List Int) : Prop := y.length ≤ n ∧ ∀ x ∈ y, 0 ≤ x ∧ x < m
theorem l7Word8_l0 (m : Int) (hm : 1 ≤ m ∧ m ≤ 256) (b : List Int) (d : Nat) : ∀ (acc : List Int) (n : Nat) (i h : Int), n = d → curOk b i → acc.length + n ≤ 11 → (∀ x ∈ acc, 0 ≤ x ∧ x < m) →
    Tot (fun k => spec_l7Word.l0 k m acc (n : Int) b i h) (fun r => lettersW m 11 r.1 ∧ curOk b r.2.1) := by
  induction d with
  | zero =>
    intro acc n i h hn hc hl ha
    subst hn
    refine tot_succ ?_
    simp only [spec_l7Word.l0]
    exact tot_neg (by omega) (tot_some ⟨⟨by simp only; omega, ha⟩, hc⟩)
  | succ d ih =>
    intro acc n i h hn hc hl ha
    subst hn
    have hs : wrap64 (((d + 1 : Nat) : Int) - 1) = (d : Int) := by rw [wr (by omega) (by omega)]; omega
    refine tot_succ ?_
    simp only [spec_l7Word.l0, hs]
    refine tot_pos (by omega) ?_
    refine tot_bind0 (l1Below_tot b i h m hc hm.1 hm.2) (fun r hr => ?_)
    refine tot_pos (by omega) (ih _ d _ _ rfl hr.2 (by simp; omega) (fun x hx => ?_))
    rcases List.mem_append.1 hx with hx | hx
    · exact ha x hx
    · have : x = r.1 := by simpa using hx
      omega
theorem l7Word8_tot (m : Int) (hm : 1 ≤ m ∧ m ≤ 256) (b : List Int) (i h : Int) (hc : curOk b i) : Tot (fun k => spec_l7Word.f k b i h m) (fun r => lettersW m 11 r.1 ∧ curOk b r.2.1) := by
  simp only [spec_l7Word.f]
  refine tot_bind0 (l1Below_tot b i h 12 hc (by omega) (by omega)) (fun r hr => ?_)
  obtain ⟨n, hn⟩ := Int.eq_ofNat_of_zero_le hr.1.1
  rw [hn]
  exact l7Word8_l0 m hm b n [] n _ _ rfl hr.2 (by simp; omega) (by simp)
/-! sequences that are drawn -/
def seqSmall (next : List (List Int)) (out : List Int) : Prop := fit2 next ∧ fit1 out
theorem l3r_l1 (b : List Int) (bs m : Nat) (hb : bs ≤ 4) (hm : 1 ≤ m ∧ m ≤ 16) (st : Nat) (rows : List (List Int)) (out : List Int) (hr : rows.length ≤ 16) (ho : out.length ≤ 16) (base : Int) {Q : Int × List (List Int) × List Int × Int × Int → Prop}
    (H : ∀ (row : List Int) (x : Int) (i h : Int), row.length = bs → curOk b i → Tot (fun k => spec_l3Random.l0 k (bs : Int) (m : Int) ((st : Nat) : Int) b i h base (rows ++ [row]) (out ++ [x])) Q) (stp : Int) (hst : wrap64 (stp + 1) = (st : Int)) (d : Nat) :
    ∀ (row : List Int) (j : Nat) (i h : Int), j + d = bs → row.length = j → curOk b i → Tot (fun k => spec_l3Random.l1 k (bs : Int) (m : Int) stp row (j : Int) b i h base rows out) Q := by
  induction d with
  | zero =>
    intro row j i h hj hl hc
    refine tot_succ ?_
    simp only [spec_l3Random.l1]
    refine tot_neg (by omega) (tot_pos (by omega) ?_)
    refine tot_bind0 (l1Below_tot b i h 2 hc (by omega) (by omega)) (fun r1 hr1 => ?_)
    rw [wr (by omega) (by omega)]
    refine tot_bind0 (l1Below_tot b _ _ _ hr1.2 (by omega) (by omega)) (fun r2 hr2 => ?_)
    rw [hst]
    exact tot_pos (by omega) (H row _ _ _ (by omega) hr2.2)
  | succ d ih =>
    intro row j i h hj hl hc
    refine tot_succ ?_
    simp only [spec_l3Random.l1, wr1 (show (0 : Int) ≤ (j : Int) by omega) (by omega)]
    refine tot_pos (by omega) (tot_bind0 (l1Below_tot b i h m hc (by omega) (by omega)) (fun r hr => ?_))
    exact tot_pos (by omega) (ih _ (j + 1) _ _ (by omega) (by simp; omega) hr.2)
theorem l3r_l0 (b : List Int) (bs m : Nat) (hb : 1 ≤ bs ∧ bs ≤ 4) (hm : 1 ≤ m ∧ m ≤ 16) (base : Int) (d : Nat) :
    ∀ (rows : List (List Int)) (out : List Int) (st : Nat) (i h : Int), st + d = m → rows.length = st → out.length = st → (∀ r ∈ rows, r.length = bs) → curOk b i →
    Tot (fun k => spec_l3Random.l0 k (bs : Int) (m : Int) (st : Int) b i h base rows out) (fun r => r.1 = base ∧ seqSmall r.2.1 r.2.2.1 ∧ curOk b r.2.2.2.1) := by
  induction d with
  | zero =>
    intro rows out st i h hs hr ho hl hc
    refine tot_succ ?_
    simp only [spec_l3Random.l0]
    refine tot_neg (by omega) (tot_bind0 (l1Once_tot b i h 2 hc (by omega) (by omega)) (fun r1 hr1 => ?_))
    have hsm : seqSmall rows out := ⟨⟨by omega, fun r h => by unfold fit1; rw [hl r h]; omega⟩, by unfold fit1; omega⟩
    refine tot_ite (fun _ => ?_) (fun _ => tot_some ⟨rfl, hsm, hr1⟩)
    have h0 : rows.getD 0 [] ∈ rows := by
      rw [List.getD_eq_getElem?_getD, List.getElem?_eq_getElem (show 0 < rows.length by omega)]
      exact List.getElem_mem _
    refine tot_pos (by omega) (tot_pos (by rw [hl _ h0]; omega) (tot_some ⟨rfl, ⟨⟨by simp only [List.length_set]; omega, fun r h => ?_⟩, hsm.2⟩, hr1⟩))
    rcases List.mem_or_eq_of_mem_set h with h | h
    · exact hsm.1.2 r h
    · subst h; unfold fit1; rw [List.length_set, hl _ h0]; omega
  | succ d ih =>
    intro rows out st i h hs hr ho hl hc
    refine tot_succ ?_
    simp only [spec_l3Random.l0]
    refine tot_pos (by omega) ?_
    have hw := wr1 (show (0 : Int) ≤ (st : Int) by omega) (by omega)
    refine l3r_l1 b bs m hb.2 hm (st + 1) rows out (by omega) (by omega) base (fun row x i h hrow hc => ?_) (st : Int) (by rw [hw]; omega) bs [] 0 i h (by omega) rfl hc
    refine ih _ _ (st + 1) i h (by omega) (by simp; omega) (by simp; omega) (fun r hr => ?_) hc
    rcases List.mem_append.1 hr with hr | hr
    · exact hl r hr
    · have : r = row := by simpa using hr
      rw [this]; exact hrow
theorem l3Random_tot (b : List Int) (i h : Int) (bs m : Nat) (hb : 1 ≤ bs ∧ bs ≤ 4) (hm : 1 ≤ m ∧ m ≤ 16) (hc : curOk b i) : Tot (fun k => spec_l3Random.f k b i h (bs : Int) (m : Int)) (fun r => r.1 = (bs : Int) ∧ seqSmall r.2.1 r.2.2.1 ∧ curOk b r.2.2.2.1) := by
  simp only [spec_l3Random.f]
  exact l3r_l0 b bs m hb hm _ m [] [] 0 i h (by omega) rfl rfl (by simp) hc
theorem l1Pick_tot (b : List Int) (i h : Int) (l : List ByteArray) (hc : curOk b i) (h1 : 1 ≤ l.length) (h2 : l.length ≤ 256) : ∃ r, spec_l1Pick.f b i h l = some r ∧ curOk b r.2.1 := by
  unfold spec_l1Pick.f
  obtain ⟨⟨x, i', h'⟩, e, ⟨hx0, hx1⟩, hc'⟩ := l1Below_tot b i h (l.length : Int) hc (by omega) (by omega)
  rw [e]
  simp only [Option.bind_some] at *
  rw [if_pos hx0, if_pos hx1]
  exact ⟨_, rfl, hc'⟩
theorem named_tot (s : ByteArray) : ∃ r, spec_NamedSequence.f s = some r ∧ seqSmall r.2.1 r.2.2.1 := by
  have key : ∀ (a : Int) (n : List (List Int)) (o : List Int) (t : Bool), (n.length ≤ 4 ∧ (∀ r ∈ n, r.length ≤ 4) ∧ o.length ≤ 4) → ∃ r, (some (a, n, o, t) : Option (Int × List (List Int) × List Int × Bool)) = some r ∧ seqSmall r.2.1 r.2.2.1 :=
    fun a n o t h => ⟨_, rfl, ⟨⟨by have := h.1; simp only; omega, fun r hr => by have := h.2.1 r hr; unfold fit1; omega⟩, by have := h.2.2; unfold fit1; simp only; omega⟩⟩
  unfold spec_NamedSequence.f
  repeat' split
  all_goals exact key _ _ _ _ (by decide)
theorem l3Draw_tot (b : List Int) (i h : Int) (hc : curOk b i) : Tot (fun k => spec_l3Draw.f k b i h) (fun r => seqSmall r.2.1 r.2.2.1 ∧ curOk b r.2.2.2.1) := by
  simp only [spec_l3Draw.f]
  refine tot_bind0 (l1Once_tot b i h 3 hc (by omega) (by omega)) (fun r1 hr1 => tot_ite (fun _ => ?_) (fun _ => ?_))
  · refine tot_bind0 (l1Pick_tot b _ _ _ hr1 (by decide) (by decide)) (fun r2 hr2 => ?_)
    exact tot_bind0 (named_tot r2.1) (fun r3 hr3 => tot_some ⟨hr3, hr2⟩)
  · refine tot_bind0 (l1Below_tot b _ _ 2 hr1 (by omega) (by omega)) (fun r2 hr2 => tot_bind0 (l1Below_tot b _ _ 5 hr2.2 (by omega) (by omega)) (fun r3 hr3 => ?_))
    obtain ⟨x, hx⟩ := Int.eq_ofNat_of_zero_le hr2.1.1
    obtain ⟨y, hy⟩ := Int.eq_ofNat_of_zero_le hr3.1.1
    rw [wr (by omega) (by omega), wr (by omega) (by omega), show 2 + r2.1 = ((2 + x : Nat) : Int) by omega, show 1 + r3.1 = ((1 + y : Nat) : Int) by omega]
    exact tot_bind (l3Random_tot b _ _ _ _ (by omega) (by omega) hr3.2) (fun r4 hr4 => tot_some hr4.2)
theorem termN_out {b : Nat} {next : List (List Int)} {out : List Int} (h : isSeq (b : Int) next out = true) (n : Nat) : 0 ≤ termN b next out n ∧ termN b next out n ≤ 3 := by
  obtain ⟨g1, g2, g3, g4, g5⟩ := isSeq_facts h
  have hw := walkS_in h (digs n b) 0 ⟨by omega, by omega⟩ (digs_mem b (by omega) n n (Nat.le_refl _))
  obtain ⟨j, hj⟩ := Int.eq_ofNat_of_zero_le hw.1
  unfold termN
  rw [hj]
  exact g5 _ (rd_mem (by omega))
theorem prefixOf_l0 (b : Int) (next : List (List Int)) (out : List Int) (hs : seqSmall next out) (n : Nat) (hn : n ≤ 256) (d : Nat) : ∀ (i : Nat) (acc : List Int), i + d = n → acc.length = i → (∀ x ∈ acc, 0 ≤ x ∧ x ≤ 3) →
    Tot (fun k => spec_PrefixOf.l0 k (n : Int) acc (i : Int) b next out) (fun r => r.length ≤ n ∧ ∀ x ∈ r, 0 ≤ x ∧ x ≤ 3) := by
  induction d with
  | zero =>
    intro i acc hi ha hx
    refine tot_succ ?_
    simp only [spec_PrefixOf.l0]
    exact tot_neg (by omega) (tot_some ⟨by omega, hx⟩)
  | succ d ih =>
    intro i acc hi ha hx
    refine tot_succ ?_
    simp only [spec_PrefixOf.l0, wr1 (show (0 : Int) ≤ (i : Int) by omega) (by omega)]
    refine tot_pos (by omega) (tot_pos (by omega) (tot_bind (tot_of (spec_IsSequence_ev b next out hs.1 hs.2) rfl) (fun t ht => tot_ite (fun h => ?_) (fun _ => tot_some ⟨by omega, hx⟩))))
    rw [← ht] at h
    have hb := (isSeq_facts h).1
    obtain ⟨c, rfl⟩ := Int.eq_ofNat_of_zero_le (show 0 ≤ b by omega)
    have hpow : i < c ^ 16 := Nat.lt_of_lt_of_le (show i < 2 ^ 16 by omega) (Nat.pow_le_pow_left (by omega) 16)
    refine tot_bind (tot_of (spec_TermAt_ev h hs.1 hs.2 i hpow) rfl) (fun v hv => tot_pos (by omega) (ih (i + 1) _ (by omega) (by simp; omega) (fun x hxx => ?_)))
    rcases List.mem_append.1 hxx with hxx | hxx
    · exact hx x hxx
    · have : x = v := by simpa using hxx
      rw [this, ← hv]; exact termN_out h i
theorem prefixOf_tot (b : Int) (next : List (List Int)) (out : List Int) (hs : seqSmall next out) (n : Nat) (hn : n ≤ 256) : Tot (fun k => spec_PrefixOf.f k b next out (n : Int)) (fun r => r.length ≤ n ∧ ∀ x ∈ r, 0 ≤ x ∧ x ≤ 3) := by
  simp only [spec_PrefixOf.f]
  exact prefixOf_l0 b next out hs n hn n 0 [] (by omega) rfl (by simp)


/-! morphisms that are drawn -/
def mor (m : List (List Int)) : Prop := (1 ≤ m.length ∧ m.length ≤ 16) ∧ ∀ r ∈ m, r.length ≤ 8 ∧ ∀ x ∈ r, 0 ≤ x ∧ x < (m.length : Int)
def morFit (m : List (List Int)) : Prop := m.length ≤ 3 ∧ ∀ r ∈ m, r.length ≤ 4
theorem areL_mem {m : Int} {l : List Int} (h : areL m l = true) : ∀ x ∈ l, 0 ≤ x ∧ x < m := by
  unfold areL at h
  simp only [List.all_eq_true] at h
  intro x hx
  have := h x hx
  simp at this
  omega
theorem isMor_l0 (m : List (List Int)) (hf : morFit m) (d : Nat) : ∀ i : Nat, i + d = m.length → (∀ r ∈ m.take i, r.length ≤ 8 ∧ ∀ x ∈ r, 0 ≤ x ∧ x < (m.length : Int)) → Tot (fun k => spec_IsMorphism.l0 k (i : Int) m) (fun b => b = true → mor m) := by
  have hm := hf.1
  induction d with
  | zero =>
    intro i hi ht
    refine tot_succ ?_
    simp only [spec_IsMorphism.l0, l1In_eq, Option.bind_some]
    refine tot_neg (by omega) (tot_some (fun h => ⟨?_, ?_⟩))
    · have := of_decide_eq_true h; omega
    · rwa [List.take_of_length_le (by omega)] at ht
  | succ d ih =>
    intro i hi ht
    have hr := hf.2 _ (rdLL_mem (show i < m.length by omega))
    refine tot_succ ?_
    simp only [spec_IsMorphism.l0, wr1 (show (0 : Int) ≤ (i : Int) by omega) (by omega)]
    refine tot_pos (by omega) (tot_pos (by omega) (tot_bind (tot_of (spec_IsWord_ev (rd_L1 m (i : Int)) (m.length : Int) (by omega)) rfl) (fun t ht2 => ?_)))
    refine tot_ite (fun h => tot_ite (fun h8 => tot_some (fun e => by cases e)) (fun h8 => ih (i + 1) (by omega) (fun r hrm => ?_))) (fun _ => tot_some (fun e => by cases e))
    rw [List.take_succ_eq_append_getElem (by omega)] at hrm
    rcases List.mem_append.1 hrm with hrm | hrm
    · exact ht r hrm
    · have e : r = rd_L1 m (i : Int) := by rw [rdLL_at (by omega)]; simpa using hrm
      rw [← ht2] at h
      simp only [Bool.and_eq_true] at h
      subst e
      exact ⟨by omega, areL_mem h.1.1⟩
theorem isMor_tot (m : List (List Int)) (hf : morFit m) : Tot (fun k => spec_IsMorphism.f k m) (fun b => b = true → mor m) := by
  simp only [spec_IsMorphism.f]
  exact isMor_l0 m hf m.length 0 (by omega) (by simp)
/-- a letter from which something is left after t rounds -/
def alive (m : List (List Int)) : Nat → Int → Bool
  | 0, _ => true
  | t + 1, x => (rd_L1 m x).any (alive m t)
theorem alive_down (m : List (List Int)) (t : Nat) : ∀ x, alive m (t + 1) x = true → alive m t x = true := by
  induction t with
  | zero => intro x _; rfl
  | succ t ih =>
    intro x h
    unfold alive at h ⊢
    rw [List.any_eq_true] at h ⊢
    obtain ⟨y, hy, ha⟩ := h
    exact ⟨y, hy, ih y ha⟩
/-- in an alphabet of n letters what is left after n rounds is left for ever -/
def letters (m : List (List Int)) : List Int := (List.range m.length).map Int.ofNat
theorem mem_letters {m : List (List Int)} {x : Int} (h : 0 ≤ x ∧ x < (m.length : Int)) : x ∈ letters m := by
  unfold letters
  rw [List.mem_map]
  exact ⟨x.toNat, by rw [List.mem_range]; omega, by show ((x.toNat : Nat) : Int) = x; omega⟩
def still (m : List (List Int)) (t : Nat) : Prop := ∀ x ∈ letters m, alive m t x = true → alive m (t + 1) x = true
theorem filter_len_lt {l : List Int} {p q : Int → Bool} (h : ∀ x ∈ l, q x = true → p x = true) : (l.filter q).length ≤ (l.filter p).length ∧ ((l.filter q).length = (l.filter p).length → ∀ x ∈ l, p x = true → q x = true) := by
  induction l with
  | nil => exact ⟨Nat.le_refl _, fun _ x hx => by cases hx⟩
  | cons a l ih =>
    obtain ⟨h1, h2⟩ := ih (fun x hx => h x (List.mem_cons_of_mem _ hx))
    have ha := h a (List.mem_cons_self ..)
    by_cases hq : q a = true
    · have hp := ha hq
      rw [List.filter_cons_of_pos hq, List.filter_cons_of_pos hp]
      refine ⟨by simp only [List.length_cons]; omega, fun e x hx => ?_⟩
      simp only [List.length_cons] at e
      rcases List.mem_cons.1 hx with rfl | hx
      · intro _; exact hq
      · exact h2 (by omega) x hx
    · by_cases hp : p a = true
      · rw [List.filter_cons_of_neg hq, List.filter_cons_of_pos hp]
        exact ⟨by simp only [List.length_cons]; omega, fun e => by simp only [List.length_cons] at e; omega⟩
      · rw [List.filter_cons_of_neg hq, List.filter_cons_of_neg hp]
        refine ⟨h1, fun e x hx => ?_⟩
        rcases List.mem_cons.1 hx with rfl | hx
        · intro h'; exact absurd h' hp
        · exact h2 e x hx
theorem still_next {m : List (List Int)} (hm : mor m) {t : Nat} (h : still m t) : still m (t + 1) := by
  intro x hx ha
  unfold alive at ha ⊢
  rw [List.any_eq_true] at ha ⊢
  obtain ⟨y, hy, hya⟩ := ha
  refine ⟨y, hy, h y ?_ hya⟩
  unfold letters at hx
  rw [List.mem_map] at hx
  obtain ⟨i, hi, rfl⟩ := hx
  rw [List.mem_range] at hi
  exact mem_letters ((hm.2 _ (rdLL_mem hi)).2 y hy)
theorem still_or {m : List (List Int)} (hm : mor m) (t : Nat) : still m t ∨ ((letters m).filter (alive m t)).length + t ≤ m.length := by
  induction t with
  | zero =>
    refine .inr ?_
    have := List.length_filter_le (alive m 0) (letters m)
    have e : (letters m).length = m.length := by simp [letters]
    omega
  | succ t ih =>
    rcases ih with h | h
    · exact .inl (still_next hm h)
    · obtain ⟨h1, h2⟩ := filter_len_lt (l := letters m) (p := alive m t) (q := alive m (t + 1)) (fun x _ => alive_down m t x)
      by_cases e : ((letters m).filter (alive m (t + 1))).length = ((letters m).filter (alive m t)).length
      · exact .inl (still_next hm (h2 e))
      · exact .inr (by omega)
theorem still_at {m : List (List Int)} (hm : mor m) : still m m.length := by
  rcases still_or hm m.length with h | h
  · exact h
  · intro x hx ha
    have : x ∈ (letters m).filter (alive m m.length) := List.mem_filter.2 ⟨hx, ha⟩
    have := List.length_pos_of_mem this
    omega
theorem alive_next {m : List (List Int)} (hm : mor m) {x : Int} (hx : 0 ≤ x ∧ x < (m.length : Int)) (h : alive m m.length x = true) : ∃ y ∈ rd_L1 m x, alive m m.length y = true := by
  have h2 := still_at hm x (mem_letters hx) h
  unfold alive at h2
  rw [List.any_eq_true] at h2
  exact h2
/-! IsGrowing -/
theorem l4Has_l0 (l : List Int) (x : Int) (hn : l.length ≤ 1048576) (d : Nat) : ∀ i : Nat, i + d = l.length → Tot (fun k => spec_l4Has.l0 k l x (i : Int)) (fun _ => True) := by
  induction d with
  | zero =>
    intro i hi
    refine tot_succ ?_
    simp only [spec_l4Has.l0]
    exact tot_neg (by omega) (tot_some trivial)
  | succ d ih =>
    intro i hi
    refine tot_succ ?_
    simp only [spec_l4Has.l0, wr1 (show (0 : Int) ≤ (i : Int) by omega) (by omega)]
    exact tot_pos (by omega) (tot_pos (by omega) (tot_ite (fun _ => tot_some trivial) (fun _ => ih (i + 1) (by omega))))
theorem grow_l2 (m : List (List Int)) (hm : mor m) (rest : List Int) (hrest : ∀ x ∈ rest, 0 ≤ x ∧ x < (m.length : Int)) (n : Int) (i : Nat) (hi : i < rest.length) (hrl : rest.length ≤ 100000) {Q : Bool → Prop}
    (H : ∀ next : List Int, next.length ≤ 8 * (i + 1) → (∀ y ∈ next, ∃ x ∈ rest, y ∈ rd_L1 m x) → Tot (fun k => spec_IsGrowing.l1 k rest n next ((i + 1 : Nat) : Int) m) Q) (d : Nat) :
    ∀ (j : Nat) (next : List Int), j + d = (rd_L1 m (rd rest (i : Int))).length → next.length ≤ 8 * i + j → (∀ y ∈ next, ∃ x ∈ rest, y ∈ rd_L1 m x) → Tot (fun k => spec_IsGrowing.l2 k rest n next (i : Int) (j : Int) m) Q := by
  have hx := hrest _ (rd_mem hi)
  obtain ⟨a, ha⟩ := Int.eq_ofNat_of_zero_le hx.1
  have hrow := hm.2 _ (rdLL_mem (l := m) (i := a) (by omega))
  rw [← ha] at hrow
  induction d with
  | zero =>
    intro j next hj hl hn
    refine tot_succ ?_
    simp only [spec_IsGrowing.l2, wr1 (show (0 : Int) ≤ (i : Int) by omega) (by omega)]
    exact tot_pos (by omega) (tot_pos (by omega) (tot_pos hx.1 (tot_pos hx.2 (tot_neg (by omega) (H next (by omega) hn)))))
  | succ d ih =>
    intro j next hj hl hn
    refine tot_succ ?_
    simp only [spec_IsGrowing.l2, spec_l4Has.f, wr1 (show (0 : Int) ≤ (j : Int) by omega) (by omega)]
    refine tot_pos (by omega) (tot_pos (by omega) (tot_pos hx.1 (tot_pos hx.2 (tot_pos (by omega) (tot_pos (by omega) (tot_bind (l4Has_l0 next _ (by omega) next.length 0 (by omega)) (fun t _ => ?_)))))))
    refine tot_ite (fun _ => ih (j + 1) next (by omega) (by omega) hn) (fun _ => tot_pos (by omega) (ih (j + 1) _ (by omega) (by simp; omega) (fun y hy => ?_)))
    rcases List.mem_append.1 hy with hy | hy
    · exact hn y hy
    · have e : y = rd (rd_L1 m (rd rest (i : Int))) (j : Int) := by simpa using hy
      exact ⟨_, rd_mem hi, by rw [e]; exact rd_mem (by omega)⟩
theorem grow_l1 (m : List (List Int)) (hm : mor m) (rest : List Int) (hrest : ∀ x ∈ rest, 0 ≤ x ∧ x < (m.length : Int)) (n : Int) (hrl : rest.length ≤ 100000) {Q : Bool → Prop}
    (H : ∀ next : List Int, next.length ≤ 8 * rest.length → (∀ y ∈ next, ∃ x ∈ rest, y ∈ rd_L1 m x) → Tot (fun k => spec_IsGrowing.l0 k next (wrap64 (n + 1)) m) Q) (d : Nat) :
    ∀ (i : Nat) (next : List Int), i + d = rest.length → next.length ≤ 8 * i → (∀ y ∈ next, ∃ x ∈ rest, y ∈ rd_L1 m x) → Tot (fun k => spec_IsGrowing.l1 k rest n next (i : Int) m) Q := by
  induction d with
  | zero =>
    intro i next hi hl hn
    refine tot_succ ?_
    simp only [spec_IsGrowing.l1]
    exact tot_neg (by omega) (H next (by omega) hn)
  | succ d ih =>
    intro i next hi hl hn
    refine tot_succ ?_
    simp only [spec_IsGrowing.l1]
    exact tot_pos (by omega) (grow_l2 m hm rest hrest n i (by omega) hrl (fun nx hl2 hn2 => ih (i + 1) nx (by omega) (by omega) hn2) (rd_L1 m (rd rest (i : Int))).length 0 next (by omega) (by omega) hn)
theorem grow_l0 (m : List (List Int)) (hm : mor m) (h3 : m.length ≤ 3) (d : Nat) : ∀ (n : Nat) (rest : List Int), n + d = m.length + 1 → rest.length ≤ 8 ^ (n + 1) → (∀ x ∈ rest, 0 ≤ x ∧ x < (m.length : Int)) →
    Tot (fun k => spec_IsGrowing.l0 k rest (n : Int) m) (fun g => g = true → ∃ x ∈ rest, alive m d x = true) := by
  induction d with
  | zero =>
    intro n rest hn hl hr
    refine tot_succ ?_
    simp only [spec_IsGrowing.l0]
    refine tot_neg (by omega) (tot_some (fun h => ?_))
    have h := of_decide_eq_true h
    exact ⟨rd rest ((0 : Nat) : Int), rd_mem (by omega), rfl⟩
  | succ d ih =>
    intro n rest hn hl hr
    have h8 : 8 ^ (n + 1) ≤ 32768 := Nat.pow_le_pow_right (by omega) (show n + 1 ≤ 5 by omega)
    refine tot_succ ?_
    simp only [spec_IsGrowing.l0]
    refine tot_pos (by omega) (grow_l1 m hm rest hr (n : Int) (by omega) (fun next hl2 hn2 => ?_) rest.length 0 [] (by omega) (by simp) (by simp))
    rw [wr1 (by omega) (by omega)]
    refine tot_mono (ih (n + 1) next (by omega) (by rw [Nat.pow_succ]; omega) (fun y hy => ?_)) (fun g hg e => ?_)
    · obtain ⟨x, hx, hy⟩ := hn2 y hy
      obtain ⟨a, ha⟩ := Int.eq_ofNat_of_zero_le (hr x hx).1
      rw [ha] at hy
      have := hr x hx
      exact (hm.2 _ (rdLL_mem (l := m) (i := a) (by omega))).2 y hy
    · obtain ⟨y, hy, ha⟩ := hg e
      obtain ⟨x, hx, hxy⟩ := hn2 y hy
      exact ⟨x, hx, by unfold alive; rw [List.any_eq_true]; exact ⟨y, hxy, ha⟩⟩
/-- what grows: the first image begins with its letter, and behind it stands a letter from which there is always something left -/
def grows (m : List (List Int)) : Prop := mor m ∧ 2 ≤ (rd_L1 m 0).length ∧ rd (rd_L1 m 0) 0 = 0 ∧ ∃ x ∈ (rd_L1 m 0).drop 1, alive m m.length x = true
theorem grow_tot (m : List (List Int)) (hf : morFit m) : Tot (fun k => spec_IsGrowing.f k m 0) (fun g => g = true → grows m) := by
  have no : Tot (fun k => spec_IsGrowing.j0 k 0 true m) (fun g => g = true → grows m) := by
    refine tot_succ ?_
    simp only [spec_IsGrowing.j0]
    exact tot_pos trivial (tot_some (fun e => by cases e))
  have h3 := hf.1
  simp only [spec_IsGrowing.f]
  refine tot_bind (isMor_tot m hf) (fun t ht => tot_ite (fun h => ?_) (fun _ => no))
  have hm := ht h
  have h1 := hm.1
  refine tot_neg (by omega) (tot_neg (by omega) (tot_pos (by omega) (tot_pos (by omega) (tot_ite (fun _ => no) (fun h2 => tot_pos (by omega) ?_)))))
  have hr0 : rd_L1 m 0 = rd_L1 m ((0 : Nat) : Int) := rfl
  have hrow := hm.2 _ (rdLL_mem (l := m) (i := 0) (by omega))
  by_cases hz : rd (rd_L1 m 0) 0 = 0
  · rw [hz]
    refine tot_succ ?_
    simp only [spec_IsGrowing.j0]
    refine tot_neg (by simp) (tot_pos (by omega) (tot_pos (by omega) (tot_pos (by omega) ?_)))
    refine tot_mono (grow_l0 m hm h3 (m.length + 1) 0 _ (by omega) (by rw [List.length_drop, hr0]; omega) (fun x hx => hrow.2 x (List.mem_of_mem_drop hx))) (fun g hg e => ⟨hm, by omega, hz, ?_⟩)
    obtain ⟨x, hx, ha⟩ := hg e
    exact ⟨x, hx, alive_down m m.length x ha⟩
  · have : (rd (rd_L1 m 0) 0 != 0) = true := by simpa using hz
    rw [this]; exact no
/-! FixedPrefix -/
theorem fixed8_l0 (m : List (List Int)) (hm : mor m) (n : Nat) (hn : n ≤ 256) (d : Nat) : ∀ (i : Nat) (w : List Int), i + d = 256 → (∀ x ∈ w, 0 ≤ x ∧ x < (m.length : Int)) → w.length ≤ 1048576 + 8 * i →
    (∃ j, i ≤ j ∧ j < w.length ∧ alive m m.length (rd w (j : Int)) = true) → Tot (fun k => spec_FixedPrefix.l0 k (n : Int) w (i : Int) m) (fun r => r.1.length ≤ n ∧ ∀ x ∈ r.1, 0 ≤ x ∧ x < (m.length : Int)) := by
  have fin : ∀ w : List Int, (∀ x ∈ w, 0 ≤ x ∧ x < (m.length : Int)) → (n : Int) ≤ (w.length : Int) → Tot (fun _ => if (0 : Int) ≤ (n : Int) then (if (n : Int) ≤ (w.length : Int) then (some (w.take (n : Int).toNat, true)) else none) else none) (fun r => r.1.length ≤ n ∧ ∀ x ∈ r.1, 0 ≤ x ∧ x < (m.length : Int)) := by
    intro w hw hl
    refine tot_pos (by omega) (tot_pos hl (tot_some ⟨?_, fun x hx => hw x (List.mem_of_mem_take hx)⟩))
    simp only [List.length_take]; omega
  induction d with
  | zero =>
    intro i w hi hw hl hj
    refine tot_succ ?_
    simp only [spec_FixedPrefix.l0]
    refine tot_neg (by omega) (tot_ite (fun _ => tot_some ⟨by simp, by simp⟩) (fun h => fin w hw (by omega)))
  | succ d ih =>
    intro i w hi hw hl hj
    obtain ⟨j, hj1, hj2, hj3⟩ := hj
    have hx := hw _ (rd_mem (show i < w.length by omega))
    obtain ⟨a, ha⟩ := Int.eq_ofNat_of_zero_le hx.1
    have hrow := hm.2 _ (rdLL_mem (l := m) (i := a) (by omega))
    rw [← ha] at hrow
    refine tot_succ ?_
    simp only [spec_FixedPrefix.l0, wr1 (show (0 : Int) ≤ (i : Int) by omega) (by omega)]
    refine tot_ite (fun h1 => tot_ite (fun h2 => ?_) (fun h2 => fin w hw (by omega))) (fun h1 => tot_ite (fun _ => tot_some ⟨by simp, by simp⟩) (fun h => fin w hw (by omega)))
    refine tot_pos (by omega) (tot_pos (by omega) (tot_pos hx.1 (tot_pos hx.2 (tot_pos (by omega) (ih (i + 1) _ (by omega) (fun x hxm => ?_) (by simp only [List.length_append]; omega) ?_)))))
    · rcases List.mem_append.1 hxm with hxm | hxm
      · exact hw x hxm
      · exact hrow.2 x hxm
    · by_cases e : j = i
      · subst e
        obtain ⟨y, hy, hya⟩ := alive_next hm hx hj3
        obtain ⟨q, hq, rfl⟩ := List.getElem_of_mem hy
        refine ⟨w.length + q, by omega, by rw [List.length_append]; omega, ?_⟩
        rw [rd_get (by rw [List.length_append]; omega), List.getElem_append_right (by omega)]
        simpa using hya
      · refine ⟨j, by omega, by rw [List.length_append]; omega, ?_⟩
        rw [rd_get (by rw [List.length_append]; omega), List.getElem_append_left hj2, ← rd_get hj2]
        exact hj3
theorem fixedPrefix_tot (m : List (List Int)) (hf : morFit m) (n : Nat) (hn : n ≤ 256) : Tot (fun k => spec_FixedPrefix.f k m 0 (n : Int)) (fun r => r.1.length ≤ n ∧ ∀ x ∈ r.1, 0 ≤ x ∧ x < 3) := by
  have no : Tot (fun k => spec_FixedPrefix.j0 k 0 (n : Int) true m) (fun r => r.1.length ≤ n ∧ ∀ x ∈ r.1, 0 ≤ x ∧ x < 3) := by
    refine tot_succ ?_
    simp only [spec_FixedPrefix.j0]
    exact tot_pos trivial (tot_some ⟨by simp, by simp⟩)
  simp only [spec_FixedPrefix.f, l1In_eq, Option.bind_some]
  refine tot_bind (grow_tot m hf) (fun g hg => tot_ite (fun h => ?_) (fun _ => no))
  obtain ⟨hm, h2, h0, x, hx, ha⟩ := hg h
  have h1 := hm.1
  have h3 := hf.1
  rw [decide_eq_true (show (0 : Int) ≤ (n : Int) ∧ (n : Int) ≤ 256 by omega)]
  refine tot_succ ?_
  simp only [spec_FixedPrefix.j0, Option.bind_some, List.nil_append, List.length_nil]
  have hrow := hm.2 _ (rdLL_mem (l := m) (i := 0) (by omega))
  have hr0 : rd_L1 m ((0 : Nat) : Int) = rd_L1 m 0 := rfl
  rw [hr0] at hrow
  refine tot_neg (by simp) (tot_pos (by omega) (tot_pos (by omega) (tot_pos (by omega) ?_)))
  refine tot_mono (fixed8_l0 m hm n hn 255 1 _ (by omega) hrow.2 (by omega) ?_) (fun r hr => ⟨hr.1, fun x hx => by have := hr.2 x hx; omega⟩)
  obtain ⟨q, hq, rfl⟩ := List.getElem_of_mem hx
  rw [List.length_drop] at hq
  refine ⟨q + 1, by omega, by omega, ?_⟩
  rw [rd_get (by omega)]
  simpa using ha


theorem l7m_l1 (b : List Int) (n : Nat) (hn : 1 ≤ n ∧ n ≤ 3) (rows : List (List Int)) (st : Nat) (hr : rows.length ≤ 3) (stp : Int) (hst : wrap64 (stp + 1) = (st : Int)) {Q : List (List Int) × Int × Int → Prop}
    (H : ∀ (row : List Int) (i h : Int), row.length ≤ 3 → curOk b i → Tot (fun k => spec_l7Morphism.l0 k (n : Int) (st : Int) b i h (rows ++ [row])) Q) (d : Nat) :
    ∀ (row : List Int) (q : Nat) (i h : Int), q = d → row.length + q ≤ 3 → curOk b i → Tot (fun k => spec_l7Morphism.l1 k (n : Int) stp row (q : Int) b i h rows) Q := by
  induction d with
  | zero =>
    intro row q i h hq hl hc
    subst hq
    refine tot_succ ?_
    simp only [spec_l7Morphism.l1, hst]
    exact tot_neg (by omega) (tot_pos (by omega) (H row i h (by omega) hc))
  | succ d ih =>
    intro row q i h hq hl hc
    subst hq
    have hs : wrap64 (((d + 1 : Nat) : Int) - 1) = (d : Int) := by rw [wr (by omega) (by omega)]; omega
    refine tot_succ ?_
    simp only [spec_l7Morphism.l1, hs]
    refine tot_pos (by omega) (tot_bind0 (l1Below_tot b i h n hc (by omega) (by omega)) (fun r hr2 => ?_))
    exact tot_pos (by omega) (ih _ d _ _ rfl (by simp; omega) hr2.2)
theorem l7m_l0 (b : List Int) (n : Nat) (hn : 1 ≤ n ∧ n ≤ 3) (d : Nat) : ∀ (st : Nat) (rows : List (List Int)) (i h : Int), st + d = n → rows.length = st → (∀ r ∈ rows, r.length ≤ 3) → curOk b i →
    Tot (fun k => spec_l7Morphism.l0 k (n : Int) (st : Int) b i h rows) (fun r => morFit r.1 ∧ curOk b r.2.1) := by
  induction d with
  | zero =>
    intro st rows i h hs hl hr hc
    have hfit : morFit rows := ⟨by omega, fun r h => by have := hr r h; omega⟩
    refine tot_succ ?_
    simp only [spec_l7Morphism.l0]
    refine tot_neg (by omega) (tot_bind0 (l1Once_tot b i h 12 hc (by omega) (by omega)) (fun r1 hr1 => tot_ite (fun _ => ?_) (fun _ => tot_some ⟨hfit, hr1⟩)))
    refine tot_pos (by omega) (tot_bind0 (l1PickInt_tot b _ _ _ hr1 (by decide) (by decide)) (fun r2 hr2 => ?_))
    have hr0 : rd_L1 rows ((0 : Nat) : Int) = rd_L1 rows 0 := rfl
    have h0 := hr _ (rdLL_mem (l := rows) (i := 0) (by omega))
    rw [hr0] at h0
    refine tot_pos (by omega) (tot_some ⟨⟨by simp only [List.length_set]; omega, fun r h => ?_⟩, hr2.2⟩)
    rcases List.mem_or_eq_of_mem_set h with h | h
    · exact hfit.2 r h
    · subst h; simp only [List.length_append, List.length_cons, List.length_nil]; omega
  | succ d ih =>
    intro st rows i h hs hl hr hc
    refine tot_succ ?_
    simp only [spec_l7Morphism.l0]
    refine tot_pos (by omega) (tot_bind0 (l1Below_tot b i h 4 hc (by omega) (by omega)) (fun r1 hr1 => ?_))
    obtain ⟨q, hq⟩ := Int.eq_ofNat_of_zero_le hr1.1.1
    rw [hq]
    refine l7m_l1 b n hn rows (st + 1) (by omega) (st : Int) (by rw [wr1 (by omega) (by omega)]; omega) (fun row i h hrow hc => ?_) q [] q _ _ rfl (by simp; omega) hr1.2
    refine ih (st + 1) _ i h (by omega) (by simp; omega) (fun r hrm => ?_) hc
    rcases List.mem_append.1 hrm with hrm | hrm
    · exact hr r hrm
    · have : r = row := by simpa using hrm
      rw [this]; exact hrow
theorem l7Morphism_tot (b : List Int) (i h : Int) (hc : curOk b i) : Tot (fun k => spec_l7Morphism.f k b i h) (fun r => morFit r.1 ∧ curOk b r.2.1) := by
  simp only [spec_l7Morphism.f]
  refine tot_bind0 (l1Below_tot b i h 5 hc (by omega) (by omega)) (fun r1 hr1 => ?_)
  have lit : ∀ m : List (List Int), (m.length ≤ 3 ∧ ∀ r ∈ m, r.length ≤ 4) → Tot (fun _ => some (m, r1.2.1, r1.2.2)) (fun r => morFit r.1 ∧ curOk b r.2.1) := fun m hm => tot_some ⟨hm, hr1.2⟩
  refine tot_ite (fun _ => lit _ (by decide)) (fun _ => tot_ite (fun _ => lit _ (by decide)) (fun _ => tot_ite (fun _ => lit _ (by decide)) (fun _ => ?_)))
  refine tot_bind0 (l1Below_tot b _ _ 3 hr1.2 (by omega) (by omega)) (fun r2 hr2 => ?_)
  obtain ⟨x, hx⟩ := Int.eq_ofNat_of_zero_le hr2.1.1
  rw [wr (by omega) (by omega), show 1 + r2.1 = ((1 + x : Nat) : Int) by omega]
  exact l7m_l0 b (1 + x) (by omega) (1 + x) 0 [] _ _ (by omega) rfl (by simp) hr2.2
/-- a word that l8Long draws -/
def l8W (y : List Int) : Prop := y.length ≤ 49 ∧ ∀ x ∈ y, 0 ≤ x ∧ x ≤ 3
theorem l8Long_tot (b : List Int) (i h : Int) (hc : curOk b i) : Tot (fun k => spec_l8Long.f k b i h) (fun r => l8W r.1 ∧ curOk b r.2.1) := by
  simp only [spec_l8Long.f]
  refine tot_bind0 (l1Below_tot b i h 4 hc (by omega) (by omega)) (fun r1 hr1 => ?_)
  refine tot_ite (fun _ => ?_) (fun _ => tot_ite (fun _ => ?_) (fun _ => tot_ite (fun _ => ?_) (fun _ => ?_)))
  · refine tot_bind (l3Draw_tot b _ _ hr1.2) (fun r2 hr2 => tot_bind0 (l1Below_tot b _ _ 40 hr2.2 (by omega) (by omega)) (fun r3 hr3 => ?_))
    obtain ⟨x, hx⟩ := Int.eq_ofNat_of_zero_le hr3.1.1
    rw [wr (by omega) (by omega), show 10 + r3.1 = ((10 + x : Nat) : Int) by omega]
    exact tot_bind (prefixOf_tot _ _ _ hr2.1 (10 + x) (by omega)) (fun y hy => tot_some ⟨⟨by have := hy.1; simp only; omega, hy.2⟩, hr3.2⟩)
  · refine tot_bind (l7Morphism_tot b _ _ hr1.2) (fun r2 hr2 => tot_bind0 (l1Below_tot b _ _ 40 hr2.2 (by omega) (by omega)) (fun r3 hr3 => ?_))
    obtain ⟨x, hx⟩ := Int.eq_ofNat_of_zero_le hr3.1.1
    rw [wr (by omega) (by omega), show 10 + r3.1 = ((10 + x : Nat) : Int) by omega]
    exact tot_bind (fixedPrefix_tot r2.1 hr2.1 (10 + x) (by omega)) (fun y hy => tot_some ⟨⟨by have := hy.1; simp only; omega, fun z hz => by have := hy.2 z hz; omega⟩, hr3.2⟩)
  · refine tot_bind (l7Word8_tot 2 (by omega) b _ _ hr1.2) (fun r2 hr2 => ?_)
    have hl := hr2.1.1
    simp only [Option.bind_some, List.nil_append, List.length_nil]
    refine tot_pos (by omega) (tot_pos (by omega) (tot_pos (by simp only [List.length_append]; omega) (tot_some ⟨⟨by simp only [List.length_append]; omega, fun x hx => ?_⟩, hr2.2⟩)))
    simp only [List.mem_append, or_self] at hx
    have := hr2.1.2 x hx
    omega
  · refine tot_bind (l7Word8_tot 3 (by omega) b _ _ hr1.2) (fun r2 hr2 => ?_)
    exact tot_some ⟨⟨by have := hr2.1.1; simp only; omega, fun x hx => by have := hr2.1.2 x hx; omega⟩, hr2.2⟩
/-- a word that l8Any draws: at the end there may stand -1 or 16 -/
def l8A (y : List Int) : Prop := l8W y ∨ ∃ z x, l8W z ∧ (x = -1 ∨ x = 16) ∧ y = z ++ [x]
theorem l8Any_tot (b : List Int) (i h : Int) (hc : curOk b i) : Tot (fun k => spec_l8Any.f k b i h) (fun r => l8A r.1 ∧ curOk b r.2.1) := by
  simp only [spec_l8Any.f]
  refine tot_bind (l8Long_tot b i h hc) (fun r1 hr1 => tot_bind0 (l1Once_tot b _ _ 16 hr1.2 (by omega) (by omega)) (fun r2 hr2 => tot_ite (fun _ => ?_) (fun _ => tot_some ⟨.inl hr1.1, hr2⟩)))
  refine tot_bind0 (l1PickInt_tot b _ _ _ hr2 (by decide) (by decide)) (fun r3 hr3 => ?_)
  have hl := hr1.1.1
  refine tot_pos (by omega) (tot_some ⟨.inr ⟨_, _, hr1.1, ?_, rfl⟩, hr3.2⟩)
  simpa using hr3.1
theorem l8A_len {y : List Int} (h : l8A y) : y.length ≤ 50 := by
  rcases h with h | ⟨z, x, h, _, rfl⟩
  · have := h.1; omega
  · have := h.1; simp only [List.length_append, List.length_cons, List.length_nil]; omega


def fibLet (n : Int) : Int := if 0 ≤ n ∧ n < 267914296 then (if (zeckRes n).length = 0 then 0 else rd (zeckRes n) (((zeckRes n).length - 1 : Nat) : Int)) else -1
theorem spec_FibonacciLetter_ev (n : Int) : Ev (fun k => spec_FibonacciLetter.f k n) (fibLet n) := by
  simp only [spec_FibonacciLetter.f]
  have no : ¬ (0 ≤ n ∧ n < 267914296) → Ev (fun m => spec_FibonacciLetter.j0 m n true) (fibLet n) := by
    intro h
    refine ev_succ ?_
    simp only [spec_FibonacciLetter.j0]
    exact ev_pos trivial (ev_some (by unfold fibLet; rw [if_neg h]))
  refine ev_ite (fun h => no (by omega)) (fun h => ev_bind (spec_FibonacciNumber_ev 40 (by omega)) ?_)
  rw [fp_40]
  by_cases h2 : n ≥ 267914296
  · rw [decide_eq_true h2]; exact no (by omega)
  · rw [decide_eq_false h2]
    refine ev_succ ?_
    simp only [spec_FibonacciLetter.j0]
    refine ev_neg (by simp) (ev_bind (spec_ZeckendorfOf_ev n) ?_)
    have hl := zeckRes_length n
    unfold fibLet
    rw [if_pos (show 0 ≤ n ∧ n < 267914296 from ⟨by omega, by omega⟩)]
    by_cases h3 : (zeckRes n).length = 0
    · rw [if_pos h3]; exact ev_neg (by omega) (ev_some rfl)
    · rw [if_neg h3]
      have hw : wrap64 (((zeckRes n).length : Int) - 1) = (((zeckRes n).length - 1 : Nat) : Int) := by rw [wr (by omega) (by omega)]; omega
      rw [hw]
      have hbit := zeckRes_bits n _ (rd_mem (l := zeckRes n) (i := (zeckRes n).length - 1) (by omega))
      refine ev_pos (by omega) (ev_pos (by omega) (ev_pos (by omega) (ev_ite (fun h4 => ev_some h4.symm) (fun h4 => ev_some ?_))))
      rcases hbit with e | e
      · exact e.symm
      · exact absurd e h4
theorem impl_FibonacciLetter_ev (n : Int) : Ev (fun k => impl_FibonacciLetter.f k n) (fibLet n) := by
  simp only [impl_FibonacciLetter.f, impl_hasForm_eq, Option.bind_some]
  unfold fibLet
  by_cases h : 0 ≤ n ∧ n < 267914296
  · rw [if_pos h]
    have hl := zeckRes_length n
    refine ev_pos (by simpa using h) (ev_bind (impl_ZeckendorfOf_ev n) ?_)
    by_cases h3 : (zeckRes n).length = 0
    · rw [if_pos h3]; exact ev_pos (by omega) (ev_some rfl)
    · rw [if_neg h3]
      have hw : wrap64 (((zeckRes n).length : Int) - 1) = (((zeckRes n).length - 1 : Nat) : Int) := by rw [wr (by omega) (by omega)]; omega
      rw [hw]
      exact ev_neg (by omega) (ev_pos (by omega) (ev_pos (by omega) (ev_some rfl)))
  · rw [if_neg h]
    exact ev_neg (by simpa using h) (ev_some rfl)


def fibL : List Int := [0, 1, 0, 0, 1, 0, 1, 0, 0, 1, 0, 0, 1, 0, 1, 0, 0, 1, 0, 1, 0, 0, 1, 0, 0, 1, 0, 1, 0, 0, 1, 0, 0, 1, 0, 1, 0, 0, 1, 0, 1, 0, 0, 1, 0, 0, 1, 0, 1, 0, 0, 1, 0, 1, 0, 0, 1, 0, 0, 1, 0, 1, 0, 0, 1, 0, 0, 1, 0, 1, 0, 0, 1, 0, 1, 0, 0, 1, 0, 0, 1, 0, 1, 0, 0, 1, 0, 0, 1, 0, 1, 0, 0, 1, 0, 1, 0, 0, 1, 0, 0, 1, 0, 1, 0, 0, 1, 0, 1, 0, 0, 1, 0, 0, 1, 0, 1, 0, 0, 1, 0, 0, 1, 0, 1, 0, 0, 1, 0, 1, 0, 0, 1, 0, 0, 1, 0, 1, 0, 0, 1, 0, 1, 0, 0, 1, 0, 0, 1, 0, 1, 0, 0, 1, 0, 0, 1, 0, 1, 0, 0, 1, 0, 1, 0, 0, 1, 0, 0, 1, 0, 1, 0, 0, 1, 0, 0, 1, 0, 1, 0, 0, 1, 0, 1, 0, 0, 1, 0, 0, 1, 0, 1, 0, 0, 1, 0, 1, 0, 0, 1, 0, 0, 1, 0, 1, 0, 0, 1, 0, 0, 1, 0, 1, 0, 0, 1, 0, 1, 0, 0, 1, 0, 0, 1, 0, 1, 0, 0, 1, 0, 0, 1, 0, 1, 0, 0, 1, 0, 1, 0, 0, 1, 0, 0, 1, 0, 1, 0, 0, 1, 0, 1, 0, 0, 1]
def fimg (x : Int) : List Int := if x = 0 then [0, 1] else [0]
def fs : Nat → List Int
  | 0 => [0, 1]
  | k + 1 => fs k ++ fimg (rd (fs k) ((k + 1 : Nat) : Int))
def fsOk (k : Nat) : Bool := decide (k + 1 < (fs k).length) && (decide (rd (fs k) ((k + 1 : Nat) : Int) = 0) || decide (rd (fs k) ((k + 1 : Nat) : Int) = 1)) && decide ((fs k).take 256 = fibL.take (fs k).length) && decide ((fs k).length ≤ 400)
theorem fs_all : ∀ k : Fin 160, fsOk k.val = true := by decide +kernel
theorem fs_last : 256 ≤ (fs 159).length := by decide +kernel
theorem fs_at {k : Nat} (h : k < 160) : k + 1 < (fs k).length ∧ (rd (fs k) ((k + 1 : Nat) : Int) = 0 ∨ rd (fs k) ((k + 1 : Nat) : Int) = 1) ∧ (fs k).take 256 = fibL.take (fs k).length ∧ (fs k).length ≤ 400 := by
  have := fs_all ⟨k, h⟩
  simp only [fsOk, Bool.and_eq_true, Bool.or_eq_true, decide_eq_true_eq] at this
  exact ⟨this.1.1.1, this.1.1.2, this.1.2, this.2⟩
def fibM : List (List Int) := [[0, 1], [0]]
theorem fib_morph : Ev (fun k => impl_IsMorphism.f k fibM) true := by
  simp only [impl_IsMorphism.f]
  refine ev_neg (by decide) (ev_succ ?_)
  simp only [impl_IsMorphism.j0]
  refine ev_neg (by decide) (ev_succ ?_)
  simp only [impl_IsMorphism.l0]
  refine ev_pos (by decide) (ev_pos (by omega) (ev_pos (by decide) (ev_neg (by decide) (ev_bind (ev_eq (impl_areLetters_ev _ _ (by decide)) (by decide : _ = true)) (ev_pos rfl (ev_succ ?_))))))
  rw [show wrap64 (0 + 1) = 1 from wr (by omega) (by omega)]
  simp only [impl_IsMorphism.l0]
  refine ev_pos (by decide) (ev_pos (by omega) (ev_pos (by decide) (ev_neg (by decide) (ev_bind (ev_eq (impl_areLetters_ev _ _ (by decide)) (by decide : _ = true)) (ev_pos rfl (ev_succ ?_))))))
  rw [show wrap64 (1 + 1) = 2 from wr (by omega) (by omega)]
  simp only [impl_IsMorphism.l0]
  exact ev_neg (by decide) (ev_some rfl)
theorem fib_grows : Ev (fun k => impl_IsGrowing.f k fibM 0) true := by
  simp only [impl_IsGrowing.f]
  refine ev_bind fib_morph (ev_pos rfl (ev_neg (by omega) (ev_neg (by decide) (ev_neg (by decide) (ev_pos (by decide) ?_)))))
  exact ev_const (by decide +kernel)
theorem fixed_l0 (n : Nat) (hn : n ≤ 256) (d : Nat) : ∀ j, j + d = 159 → Ev (fun k => impl_FixedPrefix.l0 k (n : Int) (fs j) ((j + 1 : Nat) : Int) fibM) (fibL.take n, true) := by
  have stop : ∀ j, j < 160 → ¬ ((fs j).length : Int) < (n : Int) → Ev (fun k => impl_FixedPrefix.l0 k (n : Int) (fs j) ((j + 1 : Nat) : Int) fibM) (fibL.take n, true) := by
    intro j hj hc
    obtain ⟨h1, h2, h3, h4⟩ := fs_at hj
    refine ev_succ ?_
    simp only [impl_FixedPrefix.l0]
    refine ev_neg hc (ev_bind (ev_some rfl) (ev_pos (by omega) (ev_pos (by omega) (ev_bind (ev_some rfl) (ev_pos ?_ (ev_some ?_))))))
    · simp only [List.length_nil, List.length_take]; omega
    · rw [Int.toNat_natCast, List.nil_append]
      have : (fs j).take n = fibL.take n := by
        have h5 := congrArg (List.take n) h3
        rw [List.take_take, List.take_take] at h5
        rwa [Nat.min_eq_left hn, Nat.min_eq_left (by omega)] at h5
      rw [this]
  induction d with
  | zero =>
    intro j hj
    obtain rfl : j = 159 := by omega
    have := fs_last
    exact stop 159 (by omega) (by omega)
  | succ d ih =>
    intro j hj
    by_cases hc : ((fs j).length : Int) < (n : Int)
    · obtain ⟨h1, h2, h3, h4⟩ := fs_at (show j < 160 by omega)
      refine ev_succ ?_
      simp only [impl_FixedPrefix.l0]
      have hi : rd_L1 fibM (rd (fs j) ((j + 1 : Nat) : Int)) = fimg (rd (fs j) ((j + 1 : Nat) : Int)) := by rcases h2 with e | e <;> rw [e] <;> rfl
      have hl : (fimg (rd (fs j) ((j + 1 : Nat) : Int))).length ≤ 2 := by unfold fimg; split <;> simp
      have hM : (fibM.length : Int) = 2 := rfl
      rw [hi, wr1 (by omega) (by omega), show (((j + 1 : Nat) : Int) + 1) = ((j + 1 + 1 : Nat) : Int) by omega]
      exact ev_pos hc (ev_pos (by omega) (ev_pos (by omega) (ev_pos (by omega) (ev_pos (by omega) (ev_pos (by omega) (ih (j + 1) (by omega)))))))
    · exact stop j (by omega) hc
theorem impl_fibonacciWord_ev (n : Nat) (hn : n ≤ 256) : Ev (fun k => impl_fibonacciWord.f k (n : Int)) (fibL.take n) := by
  simp only [impl_fibonacciWord.f, impl_FixedPrefix.f]
  refine ev_bind (a := (fibL.take n, true)) ?_ (ev_some rfl)
  refine ev_bind fib_grows (ev_pos rfl (ev_neg (by omega) (ev_succ ?_)))
  rw [decide_eq_false (show ¬ (n : Int) > 256 by omega)]
  simp only [impl_FixedPrefix.j0]
  refine ev_neg (by simp) (ev_pos (by omega) (ev_pos (by decide) ?_))
  refine ev_bind0 (a := fs 0) (by decide) ?_
  exact fixed_l0 n hn 159 0 (by omega)


theorem letters_all : ∀ i : Fin 256, fibLet ((i.val : Nat) : Int) = rd fibL ((i.val : Nat) : Int) := by decide +kernel
theorem spec_letter (i : Nat) (h : i < 256) : Ev (fun k => spec_FibonacciLetter.f k (i : Int)) (rd fibL (i : Int)) := ev_eq (spec_FibonacciLetter_ev (i : Int)) (letters_all ⟨i, h⟩)
theorem fibL_len : fibL.length = 256 := by decide +kernel
def lwGo : List Int → Int → Int → Int
  | [], _, _ => 0
  | x :: l, at_, k => if x = 0 then (if k - 1 = 0 then at_ + 1 else lwGo l (at_ + 1) (k - 1)) else (if k = 0 then at_ + 1 else lwGo l (at_ + 1) k)
theorem impl_lw_l0 (d : Nat) : ∀ (i : Nat) (k : Int), i + d = 256 → -1000 ≤ k + i → k ≤ 1000 → Ev (fun m => impl_LowerWythoff.l0 m k fibL 256 (i : Int)) (lwGo (fibL.drop i) (i : Int) k) := by
  have hl := fibL_len
  induction d with
  | zero =>
    intro i k hi _ _
    refine ev_succ ?_
    simp only [impl_LowerWythoff.l0]
    rw [List.drop_of_length_le (by omega)]
    exact ev_neg (by omega) (ev_some rfl)
  | succ d ih =>
    intro i k hi h1 h2
    refine ev_succ ?_
    simp only [impl_LowerWythoff.l0]
    rw [drop_rd (show i < fibL.length by omega), lwGo, wr1 (by omega) (by omega), show ((i : Int) + 1) = ((i + 1 : Nat) : Int) by omega, wr (show -9223372036854775808 ≤ k - 1 by omega) (by omega)]
    refine ev_pos (by omega) (ev_pos (by omega) (ev_pos (by omega) ?_))
    by_cases hx : rd fibL (i : Int) = 0
    · rw [if_pos hx]
      refine ev_pos hx ?_
      by_cases hk : k - 1 = 0
      · rw [if_pos hk]; exact ev_pos hk (ev_some rfl)
      · rw [if_neg hk]; exact ev_neg hk (ih (i + 1) (k - 1) (by omega) (by omega) (by omega))
    · rw [if_neg hx]
      refine ev_neg hx ?_
      by_cases hk : k = 0
      · rw [if_pos hk]; exact ev_pos hk (ev_some rfl)
      · rw [if_neg hk]; exact ev_neg hk (ih (i + 1) k (by omega) (by omega) (by omega))
theorem spec_lw_l0 (a : Int) (ha : 0 ≤ a ∧ a ≤ 1000) (d : Nat) : ∀ (i : Nat) (n : Int), i + d = 201 → 0 ≤ n → n ≤ 1000 + i → Ev (fun m => spec_LowerWythoff.l0 m a n (i : Int)) (lwGo ((fibL.take 201).drop i) (i : Int) (a - n)) := by
  have hl := fibL_len
  have hl2 : (fibL.take 201).length = 201 := by simp [hl]
  induction d with
  | zero =>
    intro i n hi _ _
    refine ev_succ ?_
    simp only [spec_LowerWythoff.l0]
    rw [List.drop_of_length_le (by omega)]
    exact ev_neg (by omega) (ev_some rfl)
  | succ d ih =>
    intro i n hi h1 h2
    refine ev_succ ?_
    simp only [spec_LowerWythoff.l0]
    have hr : rd (fibL.take 201) (i : Int) = rd fibL (i : Int) := by rw [rd_nat, rd_nat]; simp [List.getD_eq_getElem?_getD, List.getElem?_take, show i < 201 by omega]
    rw [drop_rd (show i < (fibL.take 201).length by omega), lwGo, hr, wr1 (show (0 : Int) ≤ (i : Int) by omega) (by omega), show ((i : Int) + 1) = ((i + 1 : Nat) : Int) by omega, wr (show -9223372036854775808 ≤ n + 1 by omega) (by omega)]
    refine ev_pos (by omega) (ev_bind (spec_letter i (by omega)) ?_)
    by_cases hx : rd fibL (i : Int) = 0
    · rw [if_pos hx]
      refine ev_pos hx ?_
      by_cases hk : n + 1 = a
      · rw [if_pos (show a - n - 1 = 0 by omega)]; exact ev_pos hk (ev_some rfl)
      · rw [if_neg (show ¬ a - n - 1 = 0 by omega)]; exact ev_neg hk (ev_eq (ih (i + 1) (n + 1) (by omega) (by omega) (by omega)) (by rw [show a - (n + 1) = a - n - 1 by omega]))
    · rw [if_neg hx]
      refine ev_neg hx ?_
      by_cases hk : n = a
      · rw [if_pos (show a - n = 0 by omega)]; exact ev_pos hk (ev_some rfl)
      · rw [if_neg (show ¬ a - n = 0 by omega)]; exact ev_neg hk (ih (i + 1) n (by omega) (by omega) (by omega))
theorem lw_all : ∀ k : Fin 101, 1 ≤ k.val → lwGo fibL 0 (k.val : Int) = lwGo (fibL.take 201) 0 (k.val : Int) ∧ 1 ≤ lwGo fibL 0 (k.val : Int) ∧ lwGo fibL 0 (k.val : Int) ≤ 300 := by decide +kernel
def lwRes (a : Int) : Int := if 1 ≤ a ∧ a ≤ 100 then lwGo fibL 0 a else 0
theorem lwRes_bound (a : Int) : 0 ≤ lwRes a ∧ lwRes a ≤ 300 ∧ (1 ≤ a ∧ a ≤ 100 → 1 ≤ lwRes a) := by
  unfold lwRes
  split
  · rename_i h
    obtain ⟨n, rfl⟩ := Int.eq_ofNat_of_zero_le (show 0 ≤ a by omega)
    have := lw_all ⟨n, by omega⟩ (by show 1 ≤ n; omega)
    simp only at this
    omega
  · rename_i h
    exact ⟨by omega, by omega, fun e => absurd e h⟩
theorem spec_LowerWythoff_ev (a : Int) : Ev (fun k => spec_LowerWythoff.f k a) (lwRes a) := by
  simp only [spec_LowerWythoff.f, l1In_eq, Option.bind_some]
  unfold lwRes
  by_cases h : 1 ≤ a ∧ a ≤ 100
  · rw [if_pos h]
    obtain ⟨n, rfl⟩ := Int.eq_ofNat_of_zero_le (show 0 ≤ a by omega)
    have h2 := lw_all ⟨n, by omega⟩ (by show 1 ≤ n; omega)
    simp only at h2
    refine ev_pos (by simpa using h) (ev_eq (spec_lw_l0 (n : Int) (by omega) 201 0 0 (by omega) (by omega) (by omega)) ?_)
    rw [h2.1, Int.sub_zero]; rfl
  · rw [if_neg h]
    exact ev_neg (by simpa using h) (ev_some rfl)
theorem impl_LowerWythoff_ev (a : Int) : Ev (fun k => impl_LowerWythoff.f k a) (lwRes a) := by
  simp only [impl_LowerWythoff.f]
  have no : ¬ (1 ≤ a ∧ a ≤ 100) → Ev (fun k => impl_LowerWythoff.j0 k a true) (lwRes a) := by
    intro h
    refine ev_succ ?_
    simp only [impl_LowerWythoff.j0]
    exact ev_pos trivial (ev_some (by unfold lwRes; rw [if_neg h]))
  refine ev_ite (fun h => no (by omega)) (fun h => ?_)
  by_cases h2 : a > 100
  · rw [decide_eq_true h2]; exact no (by omega)
  · rw [decide_eq_false h2]
    refine ev_succ ?_
    simp only [impl_LowerWythoff.j0]
    have hw := impl_fibonacciWord_ev 256 (by omega)
    rw [List.take_of_length_le (by rw [fibL_len]; omega)] at hw
    refine ev_neg (by simp) (ev_bind hw ?_)
    unfold lwRes
    rw [if_pos ⟨by omega, by omega⟩, fibL_len]
    exact impl_lw_l0 256 0 a (by omega) (by omega) (by omega)
def uwRes (a : Int) : Int := if 1 ≤ a ∧ a ≤ 100 then lwRes a + a else 0
theorem impl_UpperWythoff_ev (a : Int) : Ev (fun k => impl_UpperWythoff.f k a) (uwRes a) := by
  simp only [impl_UpperWythoff.f]
  unfold uwRes
  have hb := lwRes_bound a
  by_cases h : 1 ≤ a ∧ a ≤ 100
  · rw [if_pos h]
    refine ev_neg (by omega) (ev_neg (by omega) (ev_bind (impl_LowerWythoff_ev a) (ev_some ?_)))
    exact wr (by omega) (by omega)
  · rw [if_neg h]
    exact ev_ite (fun _ => ev_some rfl) (fun h1 => ev_pos (by omega) (ev_some rfl))
theorem spec_UpperWythoff_ev (a : Int) : Ev (fun k => spec_UpperWythoff.f k a) (uwRes a) := by
  simp only [spec_UpperWythoff.f, l1In_eq, Option.bind_some]
  unfold uwRes
  have hb := lwRes_bound a
  by_cases h : 1 ≤ a ∧ a ≤ 100
  · rw [if_pos h]
    refine ev_pos (by simpa using h) (ev_bind (spec_LowerWythoff_ev a) (ev_some ?_))
    exact wr (by omega) (by omega)
  · rw [if_neg h]
    exact ev_neg (by simpa using h) (ev_some rfl)
def coldRes (a b : Int) : Bool := decide (0 ≤ a ∧ a ≤ 200 ∧ 0 ≤ b ∧ b ≤ 200) && ((decide (mn a b = 0) && decide (mx a b = 0)) || (decide (mn a b < mx a b) && decide (mn a b = lwRes (mx a b - mn a b)) && decide (mx a b = uwRes (mx a b - mn a b))))
theorem impl_IsColdPair_ev (a b : Int) : Ev (fun k => impl_IsColdPair.f k a b) (coldRes a b) := by
  simp only [impl_IsColdPair.f]
  have no : ¬ (0 ≤ a ∧ a ≤ 200 ∧ 0 ≤ b ∧ b ≤ 200) → Ev (fun k => impl_IsColdPair.j0 k a b true) (coldRes a b) := by
    intro h
    refine ev_succ ?_
    simp only [impl_IsColdPair.j0]
    exact ev_pos trivial (ev_some (by unfold coldRes; rw [decide_eq_false h]; rfl))
  refine ev_ite (fun h => no (by omega)) (fun h1 => ev_ite (fun h => no (by omega)) (fun h2 => ev_ite (fun h => no (by omega)) (fun h3 => ?_)))
  by_cases h4 : b > 200
  · rw [decide_eq_true h4]; exact no (by omega)
  · rw [decide_eq_false h4]
    refine ev_succ ?_
    simp only [impl_IsColdPair.j0]
    have hm : 0 ≤ mn a b ∧ mn a b ≤ 200 ∧ 0 ≤ mx a b ∧ mx a b ≤ 200 := by unfold mn mx; split <;> split <;> omega
    unfold coldRes
    rw [decide_eq_true (show 0 ≤ a ∧ a ≤ 200 ∧ 0 ≤ b ∧ b ≤ 200 by omega), Bool.true_and]
    generalize mn a b = p at *
    generalize mx a b = q at *
    rw [wr (show -9223372036854775808 ≤ q - p by omega) (by omega)]
    have rest : ∀ c : Bool, c = false → Ev (fun k => if q > p then ((impl_LowerWythoff.f k (q - p)).bind fun t179 => (if p = t179 then ((impl_UpperWythoff.f k (q - p)).bind fun t180 => (some (q == t180))) else (some false))) else (some false)) (c || (decide (p < q) && decide (p = lwRes (q - p)) && decide (q = uwRes (q - p)))) := by
      intro c hc
      subst hc
      rw [Bool.false_or]
      by_cases h5 : q > p
      · refine ev_pos h5 (ev_bind (impl_LowerWythoff_ev _) ?_)
        rw [decide_eq_true (show p < q from h5), Bool.true_and]
        by_cases h6 : p = lwRes (q - p)
        · refine ev_pos h6 (ev_bind (impl_UpperWythoff_ev _) (ev_some ?_))
          rw [decide_eq_true h6, Bool.true_and]
          rw [Bool.eq_iff_iff]; simp
        · refine ev_neg h6 (ev_some ?_)
          rw [decide_eq_false h6]; rfl
      · refine ev_neg h5 (ev_some ?_)
        rw [decide_eq_false (show ¬ p < q from h5)]; rfl
    refine ev_neg (by simp) ?_
    by_cases h7 : p = 0
    · refine ev_pos h7 ?_
      by_cases h8 : q = 0
      · exact ev_pos h8 (ev_some (by simp [h7, h8]))
      · exact ev_neg h8 (rest _ (by simp [h8]))
    · exact ev_neg h7 (rest _ (by simp [h7]))
theorem cold_spec (p q : Int) (h0 : 0 ≤ p) (h1 : p ≤ q) (h2 : q ≤ 200) : (if p = 0 then if q = 0 then true else decide (lwRes (q - p) = p) && decide (p > 0) else decide (lwRes (q - p) = p) && decide (p > 0)) = ((decide (p = 0) && decide (q = 0)) || (decide (p < q) && decide (p = lwRes (q - p)) && decide (q = uwRes (q - p)))) := by
  have hb := lwRes_bound (q - p)
  unfold uwRes
  by_cases hp : p = 0
  · subst hp
    by_cases hq : q = 0
    · simp [hq]
    · have e1 : (decide (q = if 1 ≤ q - 0 ∧ q - 0 ≤ 100 then lwRes (q - 0) + (q - 0) else 0) && decide (0 = lwRes (q - 0))) = false := by
        by_cases h3 : 1 ≤ q - 0 ∧ q - 0 ≤ 100
        · have := hb.2.2 h3
          rw [decide_eq_false (show ¬ 0 = lwRes (q - 0) by omega), Bool.and_false]
        · rw [if_neg h3, decide_eq_false hq, Bool.false_and]
      rw [if_pos rfl, if_neg hq, Bool.and_assoc, Bool.and_comm (decide (0 = lwRes (q - 0))), e1]
      simp [hq]
  · rw [if_neg hp, decide_eq_false hp, Bool.false_and, Bool.false_or, decide_eq_true (show p > 0 by omega), Bool.and_true]
    by_cases h3 : lwRes (q - p) = p
    · have hd : 1 ≤ q - p ∧ q - p ≤ 100 := by
        by_cases h4 : 1 ≤ q - p ∧ q - p ≤ 100
        · exact h4
        · unfold lwRes at h3; rw [if_neg h4] at h3; omega
      rw [if_pos hd, h3]
      simp; omega
    · rw [decide_eq_false h3, decide_eq_false (fun e => h3 e.symm : ¬ p = lwRes (q - p))]; simp
theorem spec_IsColdPair_ev (a b : Int) : Ev (fun k => spec_IsColdPair.f k a b) (coldRes a b) := by
  simp only [spec_IsColdPair.f]
  have tail : ∀ p q : Int, p ≤ q → (mn a b = p ∧ mx a b = q) → ((0 ≤ a ∧ a ≤ 200 ∧ 0 ≤ b ∧ b ≤ 200) ↔ (0 ≤ p ∧ q ≤ 200)) → Ev (fun k => if p < 0 then (some false) else (if q > 200 then (some false) else (if p = 0 then (if q = 0 then (some true) else ((spec_LowerWythoff.f k (wrap64 (q - p))).bind fun t121 => (if t121 = p then (some (decide (p > 0))) else (some false)))) else ((spec_LowerWythoff.f k (wrap64 (q - p))).bind fun t122 => (if t122 = p then (some (decide (p > 0))) else (some false)))))) (coldRes a b) := by
    intro p q hpq hm hr
    unfold coldRes
    rw [hm.1, hm.2]
    refine ev_ite (fun h => ev_some ?_) (fun h1 => ev_ite (fun h => ev_some ?_) (fun h2 => ?_))
    · rw [decide_eq_false (fun e => by have := hr.1 e; omega)]; rfl
    · rw [decide_eq_false (fun e => by have := hr.1 e; omega)]; rfl
    · rw [decide_eq_true (hr.2 ⟨by omega, by omega⟩), Bool.true_and, ← cold_spec p q (by omega) hpq (by omega), wr (show -9223372036854775808 ≤ q - p by omega) (by omega)]
      have fin : Ev (fun k => (spec_LowerWythoff.f k (q - p)).bind fun t121 => (if t121 = p then (some (decide (p > 0))) else (some false))) (decide (lwRes (q - p) = p) && decide (p > 0)) := by
        refine ev_bind (spec_LowerWythoff_ev _) (ev_ite (fun h => ev_some ?_) (fun h => ev_some ?_))
        · rw [decide_eq_true h, Bool.true_and]
        · rw [decide_eq_false h]; rfl
      refine ev_ite (fun h => ?_) (fun h => ?_)
      · rw [if_pos h]
        refine ev_ite (fun h' => ev_some ?_) (fun h' => ?_)
        · rw [if_pos h']
        · rw [if_neg h']; exact fin
      · rw [if_neg h]; exact fin
  refine ev_ite (fun h => tail b a (by omega) ?_ (by omega)) (fun h => tail a b (by omega) ?_ (by omega))
  · unfold mn mx; exact ⟨if_pos h, if_neg (by omega)⟩
  · unfold mn mx; exact ⟨if_neg h, by split <;> omega⟩


def fpRes (n : Int) : List Int := if 1 ≤ n ∧ n ≤ 256 then fibL.take n.toNat else []
theorem spec_fp_l0 (n : Nat) (hn : n ≤ 256) (d : Nat) : ∀ (i : Nat), i + d = n → Ev (fun k => spec_FibonacciPrefix.l0 k (n : Int) (fibL.take i) (i : Int)) (fibL.take n) := by
  have hl := fibL_len
  induction d with
  | zero =>
    intro i hi
    obtain rfl : i = n := by omega
    refine ev_succ ?_
    simp only [spec_FibonacciPrefix.l0]
    exact ev_neg (by omega) (ev_some rfl)
  | succ d ih =>
    intro i hi
    refine ev_succ ?_
    simp only [spec_FibonacciPrefix.l0]
    rw [wr1 (by omega) (by omega), show ((i : Int) + 1) = ((i + 1 : Nat) : Int) by omega]
    refine ev_pos (by omega) (ev_pos (by omega) (ev_bind (spec_letter i (by omega)) (ev_pos (by simp; omega) ?_)))
    have : fibL.take i ++ [rd fibL (i : Int)] = fibL.take (i + 1) := by rw [rd_get (by omega), List.take_append_getElem (by omega)]
    rw [this]
    exact ih (i + 1) (by omega)
theorem spec_FibonacciPrefix_ev (n : Int) : Ev (fun k => spec_FibonacciPrefix.f k n) (fpRes n) := by
  simp only [spec_FibonacciPrefix.f]
  unfold fpRes
  by_cases h : 1 ≤ n ∧ n ≤ 256
  · rw [if_pos h]
    obtain ⟨m, rfl⟩ := Int.eq_ofNat_of_zero_le (show 0 ≤ n by omega)
    exact spec_fp_l0 m (by omega) m 0 (by omega)
  · rw [if_neg h]
    refine ev_succ ?_
    simp only [spec_FibonacciPrefix.l0]
    exact ev_ite (fun h1 => ev_neg (by omega) (ev_some rfl)) (fun h1 => ev_some rfl)
theorem impl_FibonacciPrefix_ev (n : Int) : Ev (fun k => impl_FibonacciPrefix.f k n) (fpRes n) := by
  simp only [impl_FibonacciPrefix.f]
  unfold fpRes
  by_cases h : 1 ≤ n ∧ n ≤ 256
  · rw [if_pos h]
    obtain ⟨m, rfl⟩ := Int.eq_ofNat_of_zero_le (show 0 ≤ n by omega)
    exact ev_neg (by omega) (ev_neg (by omega) (ev_bind (impl_fibonacciWord_ev m (by omega)) (ev_some rfl)))
  · rw [if_neg h]
    exact ev_ite (fun h1 => ev_some rfl) (fun h1 => ev_pos (by omega) (ev_some rfl))
theorem fpRes_length (n : Int) : (fpRes n).length ≤ 256 := by
  unfold fpRes
  split
  · have := fibL_len; simp [this]; omega
  · simp


/-- the k-th word and the next one -/
def fibW : Nat → List Int × List Int
  | 0 => ([0], [0, 1])
  | k + 1 => ((fibW k).2, (fibW k).2 ++ (fibW k).1)
def fibA : Nat → List Int
  | 0 => [1]
  | k + 1 => (fibW k).1
theorem fibA_next (k : Nat) : (fibW k).2 = (fibW k).1 ++ fibA k := by
  cases k with
  | zero => rfl
  | succ k => rfl
theorem fibW_len (k : Nat) : (fibW k).1.length ≤ 2 ^ k ∧ (fibW k).2.length ≤ 2 ^ (k + 1) := by
  induction k with
  | zero => exact ⟨by decide, by decide⟩
  | succ k ih =>
    refine ⟨ih.2, ?_⟩
    simp only [fibW, List.length_append]
    have : 2 ^ (k + 1 + 1) = 2 ^ (k + 1) + 2 ^ (k + 1) := by rw [Nat.pow_succ]; omega
    have : 2 ^ (k + 1) = 2 ^ k + 2 ^ k := by rw [Nat.pow_succ]; omega
    omega
theorem fibW_len11 (k : Nat) (h : k ≤ 12) : (fibW k).1.length ≤ 4096 := Nat.le_trans (fibW_len k).1 (Nat.pow_le_pow_right (by omega) h : 2 ^ k ≤ 2 ^ 12)
theorem fibA_len11 (k : Nat) (h : k ≤ 12) : (fibA k).length ≤ 4096 := by
  cases k with
  | zero => decide
  | succ k => exact fibW_len11 k (by omega)
def fibRes (k : Int) : List Int × Bool := if 0 ≤ k ∧ k ≤ 11 then ((fibW k.toNat).1, true) else ([], false)
theorem spec_FibonacciWord_l0 (n : Nat) (hn : n ≤ 11) (d : Nat) : ∀ (i : Nat), i + d = n →
    Ev (fun k => spec_FibonacciWord.l0 k (n : Int) (fibA i) (fibW i).1 (i : Int)) ((fibW n).1, true) := by
  induction d with
  | zero =>
    intro i hi
    refine ev_succ ?_
    simp only [spec_FibonacciWord.l0, Option.bind_some]
    refine ev_neg (by omega) (ev_pos ?_ (ev_some ?_))
    · have := fibW_len11 i (by omega); simp only [List.length_nil]; omega
    · rw [show i = n by omega]; simp
  | succ d ih =>
    intro i hi
    have := ih (i + 1) (by omega)
    refine ev_succ ?_
    simp only [spec_FibonacciWord.l0, Option.bind_some, wr1 (show (0 : Int) ≤ (i : Int) by omega) (by omega), List.nil_append]
    have h1 := fibW_len11 i (by omega)
    have h2 := fibA_len11 i (by omega)
    refine ev_pos (by omega) (ev_pos (by simp only [List.length_nil]; omega) (ev_pos (by omega) ?_))
    rw [← fibA_next]
    exact this
theorem spec_FibonacciWord_ev (n : Int) : Ev (fun k => spec_FibonacciWord.f k n) (fibRes n) := by
  simp only [spec_FibonacciWord.f, l1In_eq, Option.bind_some]
  unfold fibRes
  by_cases h : 0 ≤ n ∧ n ≤ 11
  · refine ev_pos (by simpa using h) ?_
    rw [if_pos h]
    obtain ⟨m, rfl⟩ := Int.eq_ofNat_of_zero_le h.1
    exact spec_FibonacciWord_l0 m (by omega) m 0 (by omega)
  · refine ev_neg (by simpa using h) (ev_some ?_)
    rw [if_neg h]
theorem impl_FibonacciWord_l0 (n : Nat) (hn : n ≤ 11) (d : Nat) : ∀ (i : Nat), i + d = n →
    Ev (fun k => impl_FibonacciWord.l0 k (fibW i).1 (fibW i).2 (n : Int) (i : Int)) ((fibW n).1, true) := by
  induction d with
  | zero =>
    intro i hi
    refine ev_succ ?_
    simp only [impl_FibonacciWord.l0]
    refine ev_neg (by omega) (ev_some ?_)
    rw [show i = n by omega]
  | succ d ih =>
    intro i hi
    have := ih (i + 1) (by omega)
    refine ev_succ ?_
    simp only [impl_FibonacciWord.l0, Option.bind_some, wr1 (show (0 : Int) ≤ (i : Int) by omega) (by omega), List.nil_append]
    have h1 := fibW_len11 i (by omega)
    have h2 := fibW_len11 (i + 1) (by omega)
    simp only [fibW] at h2
    refine ev_pos (by omega) (ev_pos (by simp only [List.length_nil]; omega) (ev_pos (by omega) ?_))
    exact this
theorem impl_FibonacciWord_ev (n : Int) : Ev (fun k => impl_FibonacciWord.f k n) (fibRes n) := by
  simp only [impl_FibonacciWord.f]
  unfold fibRes
  have no : ¬ (0 ≤ n ∧ n ≤ 11) → Ev (fun k => impl_FibonacciWord.j0 k n true) (if 0 ≤ n ∧ n ≤ 11 then ((fibW n.toNat).1, true) else ([], false)) := by
    intro h
    refine ev_succ ?_
    simp only [impl_FibonacciWord.j0]
    exact ev_pos trivial (ev_some (by rw [if_neg h]))
  refine ev_ite (fun h => no (by omega)) (fun h => ?_)
  by_cases h2 : n > 11
  · rw [decide_eq_true h2]; exact no (by omega)
  · rw [decide_eq_false h2]
    refine ev_succ ?_
    simp only [impl_FibonacciWord.j0]
    refine ev_neg (by simp) ?_
    rw [if_pos (by omega)]
    obtain ⟨m, rfl⟩ := Int.eq_ofNat_of_zero_le (show 0 ≤ n by omega)
    exact impl_FibonacciWord_l0 m (by omega) m 0 (by omega)
theorem fibRes_length (n : Int) : (fibRes n).1.length ≤ 4096 := by
  unfold fibRes
  split
  · exact fibW_len11 _ (by omega)
  · simp


-- SAY: For every code the law of the Fibonacci word holds: prefixes, Fibonacci words, the fixed point of its morphism, Wythoff pairs, cold pairs and letter counts are what the reference says. No conditions beyond the given statement.
theorem drawFP_tot (l : List Int) (hn : l.length ≤ 1048576) : Tot (fun k => spec_DrawFibonacciPrefix.f k l) (fun _ => True) := by
  simp only [spec_DrawFibonacciPrefix.f]
  refine tot_bind (l1New_tot l hn) (fun r hr => ?_)
  rw [hr.1, hr.2]
  exact tot_bind0 (l1PickInt_tot l 0 _ _ (curAt0 hn) (by decide) (by decide)) (fun r1 hr1 => tot_some trivial)
theorem drawFW_tot (l : List Int) (hn : l.length ≤ 1048576) : Tot (fun k => spec_DrawFibonacciWord.f k l) (fun _ => True) := by
  simp only [spec_DrawFibonacciWord.f]
  refine tot_bind (l1New_tot l hn) (fun r hr => ?_)
  rw [hr.1, hr.2]
  exact tot_bind0 (l1Below_tot l 0 _ 14 (curAt0 hn) (by omega) (by omega)) (fun r1 hr1 => tot_some trivial)
theorem drawLW_tot (l : List Int) (hn : l.length ≤ 1048576) : Tot (fun k => spec_DrawLowerWythoff.f k l) (fun _ => True) := by
  simp only [spec_DrawLowerWythoff.f]
  refine tot_bind (l1New_tot l hn) (fun r hr => ?_)
  rw [hr.1, hr.2]
  exact tot_bind0 (l1Below_tot l 0 _ 104 (curAt0 hn) (by omega) (by omega)) (fun r1 hr1 => tot_some trivial)
theorem drawFL_tot (l : List Int) (hn : l.length ≤ 1048576) : Tot (fun k => spec_DrawFibonacciLetter.f k l) (fun _ => True) := by
  simp only [spec_DrawFibonacciLetter.f]
  refine tot_bind (l1New_tot l hn) (fun r hr => ?_)
  rw [hr.1, hr.2]
  exact tot_bind0 (l21Number_tot l 0 _ (curAt0 hn)) (fun r1 hr1 => tot_some trivial)
theorem drawCold_tot (l : List Int) (hn : l.length ≤ 1048576) : Tot (fun k => spec_DrawIsColdPair.f k l) (fun _ => True) := by
  simp only [spec_DrawIsColdPair.f]
  refine tot_bind (l1New_tot l hn) (fun r hr => ?_)
  rw [hr.1, hr.2]
  refine tot_bind0 (l1Below_tot l 0 _ 60 (curAt0 hn) (by omega) (by omega)) (fun r1 hr1 => tot_bind0 (l1Once_tot l _ _ 2 hr1.2 (by omega) (by omega)) (fun r2 hr2 => tot_ite (fun _ => ?_) (fun _ => ?_)))
  · exact tot_bind (tot_of (spec_UpperWythoff_ev r1.1) rfl) (fun _ _ => tot_bind (tot_of (spec_LowerWythoff_ev r1.1) rfl) (fun _ _ => tot_some trivial))
  · exact tot_bind0 (l1Below_tot l _ _ 40 hr2 (by omega) (by omega)) (fun r3 hr3 => tot_bind0 (l1Below_tot l _ _ 60 hr3.2 (by omega) (by omega)) (fun r4 hr4 => tot_some trivial))
theorem drawCL_tot (l : List Int) (hn : l.length ≤ 1048576) : Tot (fun k => spec_DrawCountLetters.f k l) (fun r => r.1.length ≤ 50) := by
  simp only [spec_DrawCountLetters.f]
  refine tot_bind (l1New_tot l hn) (fun r hr => ?_)
  rw [hr.1, hr.2]
  exact tot_bind (l8Any_tot l 0 _ (curAt0 hn)) (fun r1 hr1 => tot_bind0 (l1Below_tot l _ _ 4 hr1.2 (by omega) (by omega)) (fun r2 hr2 => tot_some (l8A_len hr1.1)))
theorem fib60 : ∀ k, spec_FixedPrefix.f (k + 200) [[0, 1], [0]] 0 60 = some (fibL.take 60, true) := by
  intro k
  kernel_rfl
theorem fib60_ev : Ev (fun k => spec_FixedPrefix.f k [[0, 1], [0]] 0 60) (fibL.take 60, true) := ⟨200, fun k hk => by obtain ⟨j, rfl⟩ : ∃ j, k = j + 200 := ⟨k - 200, by omega⟩; exact fib60 j⟩
theorem fibW_pre : ∀ k : Fin 12, fpRes ((fibW k.val).1.length : Int) = (fibW k.val).1 := by decide +kernel
theorem fibRes_pre (k : Int) (h : (fibRes k).2 = true) : fpRes ((fibRes k).1.length : Int) = (fibRes k).1 := by
  unfold fibRes at h ⊢
  by_cases hk : 0 ≤ k ∧ k ≤ 11
  · rw [if_pos hk]
    exact fibW_pre ⟨k.toNat, by omega⟩
  · rw [if_neg hk] at h; cases h
def chkW (c : Int) : Bool := decide (uwRes c = lwRes c + c) && decide (fibLet (lwRes c - 1) = 0) && (decide (c ≤ 1) || decide (lwRes (c - 1) < lwRes c)) &&
  (decide (200 < uwRes c) || (coldRes (lwRes c) (uwRes c) && coldRes (uwRes c) (lwRes c) && !coldRes (lwRes c) (uwRes c + 1) && decide (fibLet (uwRes c - 1) = 1)))
theorem chkW_all : ∀ c : Fin 100, chkW ((c.val : Nat) + 1 : Int) = true := by decide +kernel
theorem at_tot (l : List Int) (hn : l.length ≤ 1048576) (hb : ∀ x ∈ l, (Lit.int .u8 x).wf = true) : ∃ v, laws_at.f l 3 = some v ∧ 0 ≤ v := by
  unfold laws_at.f
  by_cases h : (3 : Int) < (l.length : Int)
  · rw [if_pos h, if_pos (by omega)]
    have hm := hb _ (rd_mem (l := l) (i := 3) (by omega))
    refine ⟨_, rfl, ?_⟩
    have e : rd l ((3 : Nat) : Int) = rd l 3 := rfl
    rw [e] at hm
    simp [Lit.wf] at hm
    have hmn : IntKind.u8.min = 0 := rfl
    have hmx : IntKind.u8.max = 255 := rfl
    rw [wr (by omega) (by omega)]
    omega
  · rw [if_neg h]
    refine ⟨_, rfl, ?_⟩
    rw [wr (n := 3 * 37) (by omega) (by omega), wr (n := (l.length : Int) * 11) (by omega) (by omega), wr (by omega) (by omega)]
    exact Int.tmod_nonneg _ (by omega)
theorem fib_j3 (l : List Int) (hn : l.length ≤ 1048576) : Ev (fun k => laws_FnFibonacci.j3 k l false) true := by
  refine ev_succ ?_
  simp only [laws_FnFibonacci.j3]
  refine ev_neg (by decide) ?_
  obtain ⟨r1, e1, _⟩ := drawCold_tot l hn
  obtain ⟨r2, e2, h2⟩ := drawCL_tot l hn
  obtain ⟨r3, e3, _⟩ := drawFL_tot l hn
  obtain ⟨r4, e4, _⟩ := drawLW_tot l hn
  refine ev_bind e1 (ev_bind e2 (ev_bind e3 (ev_bind e4 ?_)))
  refine ev_bind (impl_IsColdPair_ev _ _) (ev_bind (spec_IsColdPair_ev _ _) (ev_pos (by simp) ?_))
  refine ev_bind (impl_CountLetters_ev _ _ (by omega)) (ev_bind (spec_CountLetters_ev _ _ (by omega)) (ev_pos rfl ?_))
  refine ev_bind (impl_FibonacciLetter_ev _) (ev_bind (spec_FibonacciLetter_ev _) (ev_pos rfl ?_))
  refine ev_bind (impl_LowerWythoff_ev _) (ev_bind (spec_LowerWythoff_ev _) (ev_pos rfl ?_))
  exact ev_bind (impl_UpperWythoff_ev _) (ev_bind (spec_UpperWythoff_ev _) (ev_some (by simp)))
theorem fib_j1 (l : List Int) (hn : l.length ≤ 1048576) (hb : ∀ x ∈ l, (Lit.int .u8 x).wf = true) : Ev (fun k => laws_FnFibonacci.j1 k l false) true := by
  refine ev_succ ?_
  simp only [laws_FnFibonacci.j1]
  refine ev_neg (by decide) ?_
  obtain ⟨v, hv, h0⟩ := at_tot l hn hb
  rw [hv]
  simp only [Option.bind_some]
  have hm0 := Int.tmod_nonneg 100 h0
  have hm1 := Int.tmod_lt_of_pos v (show (0 : Int) < 100 by omega)
  obtain ⟨c, hc⟩ : ∃ c : Int, c = wrap64 (1 + Int.tmod v 100) := ⟨_, rfl⟩
  rw [← hc]
  rw [wr (by omega) (by omega)] at hc
  obtain ⟨d, hd⟩ := Int.eq_ofNat_of_zero_le hm0
  have hchk := chkW_all ⟨d, by omega⟩
  simp only at hchk
  rw [show ((d : Nat) : Int) + 1 = c by omega] at hchk
  unfold chkW at hchk
  simp only [Bool.and_eq_true, decide_eq_true_eq, Bool.or_eq_true, Bool.not_eq_true'] at hchk
  obtain ⟨⟨⟨k1, k2⟩, k3⟩, k4⟩ := hchk
  have hbd := lwRes_bound c
  have hp := hbd.2.2 (by omega)
  refine ev_bind (impl_LowerWythoff_ev c) (ev_bind (impl_UpperWythoff_ev c) (ev_bind (spec_LowerWythoff_ev c) (ev_pos rfl (ev_pos ?_ ?_))))
  · rw [wr (by omega) (by omega)]; exact k1
  · rw [wr (n := lwRes c - 1) (by omega) (by omega)]
    refine ev_bind (impl_FibonacciLetter_ev _) (ev_pos k2 ?_)
    have main : Ev (fun k => laws_FnFibonacci.j2 k l (lwRes c) (uwRes c) false) true := by
      refine ev_succ ?_
      simp only [laws_FnFibonacci.j2]
      refine ev_neg (by decide) (ev_ite (fun h => ?_) (fun _ => fib_j3 l hn))
      rcases k4 with k4 | ⟨⟨⟨g1, g2⟩, g3⟩, g4⟩
      · omega
      · rw [wr (n := uwRes c + 1) (by omega) (by omega), wr (n := uwRes c - 1) (by omega) (by omega)]
        refine ev_bind (impl_IsColdPair_ev _ _) (ev_pos g1 (ev_bind (impl_IsColdPair_ev _ _) (ev_pos g2 (ev_bind (impl_IsColdPair_ev _ _) (ev_neg (by rw [g3]; decide) (ev_bind (impl_FibonacciLetter_ev _) ?_))))))
        rw [g4]
        exact fib_j3 l hn
    refine ev_ite (fun h => ?_) (fun _ => main)
    rw [wr (n := c - 1) (by omega) (by omega)]
    refine ev_bind (spec_LowerWythoff_ev _) ?_
    rw [decide_eq_false (by omega)]
    exact main
theorem FnFibonacci : laws_FnFibonacci.Pure := by
  intro l0 h1 h2 h3
  refine Ev.rounds (g := fun k => laws_FnFibonacci.f k l0) ?_
  simp only [laws_FnFibonacci.f, big_eq, Option.bind_some]
  refine ev_ite (fun _ => ev_some rfl) (fun hbig => ?_)
  have hn : l0.length ≤ 1048576 := by
    have := Int.not_lt.1 (fun h => hbig (decide_eq_true h))
    omega
  obtain ⟨r1, e1, _⟩ := drawFP_tot l0 hn
  obtain ⟨r2, e2, _⟩ := drawFW_tot l0 hn
  have hl1 := fpRes_length r1
  have hl2 := fibRes_length r2
  refine ev_bind e1 (ev_bind (impl_FibonacciPrefix_ev r1) (ev_bind e2 (ev_bind (impl_FibonacciWord_ev r2) (ev_bind (spec_FibonacciWord_ev r2) (ev_bind (spec_FibonacciPrefix_ev r1) (ev_bind (sameInts_refl _ (by omega)) (ev_pos rfl (ev_neg (by simp) (ev_bind (sameInts_refl _ (by omega)) (ev_pos rfl ?_))))))))))
  have j0 : Ev (fun k => laws_FnFibonacci.j0 k l0 false) true := by
    refine ev_succ ?_
    simp only [laws_FnFibonacci.j0]
    refine ev_neg (by decide) (ev_bind fib60_ev (ev_pos rfl (ev_bind (impl_FibonacciPrefix_ev 60) ?_)))
    have e : fpRes 60 = fibL.take 60 := rfl
    rw [e]
    exact ev_bind (sameInts_refl _ (by rw [List.length_take]; omega)) (fib_j1 l0 hn h3)
  refine ev_ite (fun h => ?_) (fun _ => j0)
  refine ev_bind (spec_FibonacciPrefix_ev _) ?_
  rw [fibRes_pre r2 h]
  exact ev_bind (sameInts_refl _ (by omega)) j0



end Go.Proofs.Ytdcakddfibnllaa.Pure

/-! The row's word for a slice's size, under the name by which the row asks for it. -/
namespace Go.Proofs.Ytdcakddfibnllaa.PrintWords
open Go.ChangeShapes Go.WideShapes
theorem sized_ints {H : Type} {enc : TypeId × Value → H} {P : Program} {W : World} {base : Nat} {spare : Nat → Bool} {held : Bool} {t e : TypeId} {k : IntKind} {a : Option Addr} {len cap : Nat} {d : DataW H}
    {ps : List MemPlace} {ts : List TypeId} {ds : List (DataW H)} {j : Nat} (hsz : (DataW.weightsEach P ts ds).all (· ≤ reachBytes) = true) (ht : ts[j]? = some t) (hd : ds[j]? = some d) (hu : P.underlying t = some (.slice e))
    (he : P.underlying e = some (.int k)) (hc : P.cellsOf e = 1) {B : Nat} (hB : P.bytesOf e = B) (h : DataW.Trod enc P W base spare held t (.slice a len cap) d ps) : len * B ≤ 140737488351232 :=
  Go.Proofs.YtdcakddfibnllaaW.PrintWords.sized_ints hsz ht hd hu he hc hB h
end Go.Proofs.Ytdcakddfibnllaa.PrintWords
