/- For every code the law of balance holds: pairs that show that a word is not balanced, the number of balanced words, prefixes of the Fibonacci word and richness are what the law says. No conditions beyond the given statement. -/
import Derived.Test.YtmjlmjhccpedmaaGreatPFnBalancex23
import Derived.Test.YtmjlmjhccpedmaaGreatWSized
import Derived.Test.YtmjlmjhccpedmaaGreatWSized
import Derived.Test.YtmjlmjhccpedmaaGreatWSized
set_option linter.unusedVariables false
set_option linter.unusedSimpArgs false
namespace Go.Proofs.YtmjlmjhccpedmaaGreat.Pure
open Go.RowKit Go.Proofs.YtmjlmjhccpedmaaGreat.PFnBalance Go.Proofs.YtmjlmjhccpedmaaGreatW.PrintWords Go.Proofs.YtmjlmjhccpedmaaGreatW.PrintLast
theorem ev_succ {α : Type} {g : Nat → Option α} {r : α} (h : Ev (fun k => g (k + 1)) r) : Ev g r := Ev.step (fun _ => rfl) h
theorem ev_some {α : Type} {r r' : α} (h : r = r') : Ev (fun _ => some r) r' := by subst h; exact Ev.now r
theorem ev_pos {α : Type} {c : Prop} [Decidable c] {g f : Nat → Option α} {r : α} (hc : c) (h : Ev g r) : Ev (fun k => if c then g k else f k) r := by
 simp only [if_pos hc]; exact h
theorem ev_neg {α : Type} {c : Prop} [Decidable c] {g f : Nat → Option α} {r : α} (hc : ¬ c) (h : Ev f r) : Ev (fun k => if c then g k else f k) r := by
 simp only [if_neg hc]; exact h
theorem ev_ite {α : Type} {c : Prop} [Decidable c] {g f : Nat → Option α} {r : α} (h : c → Ev g r) (h' : ¬ c → Ev f r) : Ev (fun k => if c then g k else f k) r := by
 by_cases hc : c
 ·exact ev_pos hc (h hc)
 ·exact ev_neg hc (h' hc)
theorem ev_bind {α β : Type} {g : Nat → Option α} {f : Nat → α → Option β} {a : α} {r : β} (h : Ev g a) (k : Ev (fun n => f n a) r) : Ev (fun n => (g n).bind (f n)) r := Ev.bind h k
theorem ev_bind0 {α β : Type} {o : Option α} {f : Nat → α → Option β} {a : α} {r : β} (h : o = some a) (k : Ev (fun n => f n a) r) : Ev (fun n => o.bind (f n)) r := by
 subst h; exact k
theorem ev_eq {α : Type} {g : Nat → Option α} {r r' : α} (h : Ev g r) (e : r = r') : Ev g r' := e ▸ h
theorem wr {n : Int} (h0 : -9223372036854775808 ≤ n) (h1 : n ≤ 9223372036854775807) : wrap64 n = n := by unfold wrap64; omega
theorem wr1 {i : Int} (h0 : 0 ≤ i) (h1 : i ≤ 4611686018427387904) : wrap64 (i + 1) = i + 1 := wr (by omega) (by omega)
theorem wr_nat {n : Nat} (h : n ≤ 4611686018427387904) : wrap64 (n : Int) = n := wr (by omega) (by omega)
theorem rd_nat (l : List Int) (i : Nat) : rd l (i : Int) = l.getD i 0 := by simp [rd]
theorem rd_get {l : List Int} {i : Nat} (h : i < l.length) : rd l (i : Int) = l[i] := by
 simp [rd, List.getD_eq_getElem?_getD, List.getElem?_eq_getElem h]
theorem drop_rd {l : List Int} {i : Nat} (h : i < l.length) : l.drop i = rd l (i : Int) :: l.drop (i + 1) := by
 rw [rd_get h]; exact List.drop_eq_getElem_cons h
theorem rd_mem {l : List Int} {i : Nat} (h : i < l.length) : rd l (i : Int) ∈ l := by rw [rd_get h]; exact List.getElem_mem h
theorem big_eq (l : List Int) : laws_big.f l = some (decide ((l.length : Int) > 1048576)) := by simp only [laws_big.f]
theorem laws_sameInts_l0 (a b : List Int) (hl : a.length = b.length) (hn : a.length ≤ 4611686018427387904) (d : Nat) : ∀ (i : Nat), i + d = a.length → Ev (fun k => laws_sameInts.l0 k a b (i : Int)) (decide (a.drop i = b.drop i)) := by
 induction d with
 | zero =>
  intro i hi
  refine ev_succ ?_
  simp only [laws_sameInts.l0]
  refine ev_neg (by omega) (ev_some ?_)
  rw [List.drop_of_length_le (by omega), List.drop_of_length_le (by omega)]; rfl
 | succ d ih =>
  intro i hi
  refine ev_succ ?_
  simp only [laws_sameInts.l0, wr1 (show (0 : Int) ≤ (i : Int) by omega) (by omega)]
  rw [drop_rd (by omega : i < a.length), drop_rd (by omega : i < b.length)]
  refine ev_pos (by omega) (ev_pos (by omega) (ev_pos (by omega) (ev_ite (fun h => ev_eq (ih (i + 1) (by omega)) ?_) (fun h => ev_some ?_))))
  ·rw [h]; simp
  ·simp [h]
theorem laws_sameInts_ev (a b : List Int) (hn : a.length ≤ 4611686018427387904) : Ev (fun k => laws_sameInts.f k a b) (decide (a = b)) := by
 simp only [laws_sameInts.f]
 refine ev_ite (fun h => ev_eq (laws_sameInts_l0 a b (by omega) hn a.length 0 (by omega)) (by simp)) (fun h => ev_some ?_)
 symm
 simp only [decide_eq_false_iff_not]
 rintro rfl
 exact h rfl
theorem sameInts_refl (a : List Int) (hn : a.length ≤ 4611686018427387904) : Ev (fun k => laws_sameInts.f k a a) true := ev_eq (laws_sameInts_ev a a hn) (by simp)
def cnt (a : Int) : List Int → Int
 | [] => 0
 | x :: l => (if x = a then 1 else 0) + cnt a l
theorem cnt_bd (a : Int) (l : List Int) : 0 ≤ cnt a l ∧ cnt a l ≤ l.length := by
 induction l with
 | nil => exact ⟨by simp [cnt], by simp [cnt]⟩
 | cons x l ih =>
  simp only [cnt, List.length_cons]
  split <;> omega
theorem spec_CountLetters_l0 (l : List Int) (a : Int) (hn : l.length ≤ 4611686018427387904) (d : Nat) : ∀ (i : Nat) (s : Int), i + d = l.length → 0 ≤ s → s ≤ i →
  Ev (fun k => spec_CountLetters.l0 k l a s (i : Int)) (s + cnt a (l.drop i)) := by
 induction d with
 | zero =>
  intro i s hi h0 h1
  refine ev_succ ?_
  simp only [spec_CountLetters.l0]
  refine ev_neg (by omega) (ev_some ?_)
  rw [List.drop_of_length_le (by omega)]; simp [cnt]
 | succ d ih =>
  intro i s hi h0 h1
  refine ev_succ ?_
  simp only [spec_CountLetters.l0, wr1 (show (0 : Int) ≤ (i : Int) by omega) (by omega), wr1 h0 (by omega)]
  refine ev_pos (by omega) (ev_pos (by omega) ?_)
  rw [drop_rd (by omega : i < l.length)]
  refine ev_ite (fun h => ev_eq (ih (i + 1) (s + 1) (by omega) (by omega) (by omega)) ?_) (fun h => ev_eq (ih (i + 1) s (by omega) (by omega) (by omega)) ?_)
  ·simp only [cnt, if_pos h]; omega
  ·simp only [cnt, if_neg h]; omega
theorem spec_CountLetters_ev (l : List Int) (a : Int) (hn : l.length ≤ 4611686018427387904) : Ev (fun k => spec_CountLetters.f k l a) (cnt a l) := by
 simp only [spec_CountLetters.f]
 exact ev_eq (spec_CountLetters_l0 l a hn l.length 0 0 (by omega) (by omega) (by omega)) (by simp)
theorem oneIf_eq (b : Bool) : impl_oneIf.f b = some (if b = true then 1 else 0) := by
 unfold impl_oneIf.f
 cases b <;> rfl
theorem l1In_eq (a b c : Int) : spec_l1In.f a b c = some (decide (b ≤ a ∧ a ≤ c)) := by
 unfold spec_l1In.f
 by_cases h : a ≥ b
 ·rw [if_pos h]; simp [show b ≤ a from h]
 ·rw [if_neg h]; simp [show ¬ b ≤ a from h]
def Tot {α : Type} (g : Nat → Option α) (P : α → Prop) : Prop := ∃ r, Ev g r ∧ P r
theorem tot_of {α : Type} {g : Nat → Option α} {P : α → Prop} {r : α} (h : Ev g r) (hp : P r) : Tot g P := ⟨r, h, hp⟩
theorem tot_some {α : Type} {r : α} {P : α → Prop} (h : P r) : Tot (fun _ => some r) P := ⟨r, Ev.now r, h⟩
theorem tot_bind {α β : Type} {g : Nat → Option α} {f : Nat → α → Option β} {P : α → Prop} {Q : β → Prop} (h : Tot g P) (k : ∀ a, P a → Tot (fun n => f n a) Q) : Tot (fun n => (g n).bind (f n)) Q := by
 obtain ⟨a, ha, hp⟩ := h
 obtain ⟨r, hr, hq⟩ := k a hp
 exact ⟨r, Ev.bind ha hr, hq⟩
theorem tot_bind0 {α β : Type} {o : Option α} {f : Nat → α → Option β} {P : α → Prop} {Q : β → Prop} (h : ∃ a, o = some a ∧ P a) (k : ∀ a, P a → Tot (fun n => f n a) Q) : Tot (fun n => o.bind (f n)) Q := by
 obtain ⟨a, ha, hp⟩ := h
 subst ha
 exact k a hp
theorem tot_pos {α : Type} {c : Prop} [Decidable c] {g f : Nat → Option α} {P : α → Prop} (hc : c) (h : Tot g P) : Tot (fun k => if c then g k else f k) P := by
 simp only [if_pos hc]; exact h
theorem tot_neg {α : Type} {c : Prop} [Decidable c] {g f : Nat → Option α} {P : α → Prop} (hc : ¬ c) (h : Tot f P) : Tot (fun k => if c then g k else f k) P := by
 simp only [if_neg hc]; exact h
theorem tot_ite {α : Type} {c : Prop} [Decidable c] {g f : Nat → Option α} {P : α → Prop} (h : c → Tot g P) (h' : ¬ c → Tot f P) : Tot (fun k => if c then g k else f k) P := by
 by_cases hc : c
 ·exact tot_pos hc (h hc)
 ·exact tot_neg hc (h' hc)
theorem tot_succ {α : Type} {g : Nat → Option α} {P : α → Prop} (h : Tot (fun k => g (k + 1)) P) : Tot g P := by
 obtain ⟨r, hr, hp⟩ := h
 exact ⟨r, ev_succ hr, hp⟩
theorem tot_mono {α : Type} {g : Nat → Option α} {P Q : α → Prop} (h : Tot g P) (k : ∀ a, P a → Q a) : Tot g Q := by
 obtain ⟨r, hr, hp⟩ := h
 exact ⟨r, hr, k r hp⟩
theorem bits_and_le (x : Int) (m : Nat) (hm : m < 4611686018427387904) : 0 ≤ Go.bits .and .i64 x (m : Int) ∧ Go.bits .and .i64 x (m : Int) ≤ m := by
 have h : ∀ n : Nat, n ≤ m → IntKind.i64.wrap (n : Int) = n := by
  intro n hn
  simp only [IntKind.wrap, IntKind.bits, IntKind.signed, Bool.true_and, decide_eq_true_eq]
  split
  ·rename_i h
   have e : (2 : Int) ^ (64 - 1) = 9223372036854775808 := by decide
   have h2 : (n : Int) % 2 ^ 64 ≥ 2 ^ (64 - 1) := of_decide_eq_true h
   rw [e] at h2
   omega
  ·omega
 simp only [Go.bits]
 have hb : (BitVec.ofInt IntKind.i64.bits (m : Int)).toNat = m := by
  simp only [BitVec.ofInt_natCast, BitVec.toNat_ofNat, IntKind.bits]
  exact Nat.mod_eq_of_lt (by omega)
 have hle : ((BitVec.ofInt IntKind.i64.bits x) &&& (BitVec.ofInt IntKind.i64.bits (m : Int))).toNat ≤ m := by
  rw [BitVec.toNat_and, hb]; exact Nat.and_le_right
 rw [h _ hle]
 omega
def curOk (b : List Int) (i : Int) : Prop := 0 ≤ i ∧ b.length ≤ 1048576
theorem l1Byte_tot (b : List Int) (i h : Int) (hc : curOk b i) : ∃ r, spec_l1Byte.f b i h = some r ∧ 0 ≤ r.1 ∧ r.1 ≤ 255 ∧ curOk b r.2.1 := by
 obtain ⟨h0, hb⟩ := hc
 unfold spec_l1Byte.f
 by_cases hi : i < (b.length : Int)
 ·rw [if_pos hi, if_pos h0]
  have := bits_and_le ((wrap64 ((Go.bits .and .i64 (Go.bits .xor .i64 ((wrap64 ((wrap64 (h * 6364136223846793005)) + 1442695040888963407)) / 8589934592) ((wrap64 ((wrap64 (h * 6364136223846793005)) + 1442695040888963407)) / 35184372088832)) 255) + (wrap64 (rd b i))))) 255 (by omega)
  refine ⟨_, rfl, this.1, this.2, ?_, hb⟩
  simp only
  rw [wr1 h0 (by omega)]; omega
 ·rw [if_neg hi]
  have := bits_and_le (Go.bits .xor .i64 ((wrap64 ((wrap64 (h * 6364136223846793005)) + 1442695040888963407)) / 8589934592) ((wrap64 ((wrap64 (h * 6364136223846793005)) + 1442695040888963407)) / 35184372088832)) 255 (by omega)
  exact ⟨_, rfl, this.1, this.2, h0, hb⟩
theorem l1Below_tot (b : List Int) (i h n : Int) (hc : curOk b i) (h1 : 1 ≤ n) (h2 : n ≤ 256) : ∃ r, spec_l1Below.f b i h n = some r ∧ (0 ≤ r.1 ∧ r.1 < n) ∧ curOk b r.2.1 := by
 unfold spec_l1Below.f
 rw [if_neg (by omega), if_pos h2]
 obtain ⟨⟨x, i', h'⟩, e, hx0, hx1, hc'⟩ := l1Byte_tot b i h hc
 rw [e]
 simp only [Option.bind_some] at *
 rw [if_neg (by omega)]
 refine ⟨_, rfl, ?_, hc'⟩
 simp only
 rw [Int.tmod_eq_emod_of_nonneg hx0]
 exact ⟨Int.emod_nonneg _ (by omega), Int.emod_lt_of_pos _ (by omega)⟩
theorem l1PickInt_tot (b : List Int) (i h : Int) (l : List Int) (hc : curOk b i) (h1 : 1 ≤ l.length) (h2 : l.length ≤ 256) : ∃ r, spec_l1PickInt.f b i h l = some r ∧ r.1 ∈ l ∧ curOk b r.2.1 := by
 unfold spec_l1PickInt.f
 obtain ⟨⟨x, i', h'⟩, e, ⟨hx0, hx1⟩, hc'⟩ := l1Below_tot b i h (l.length : Int) hc (by omega) (by omega)
 rw [e]
 simp only [Option.bind_some] at *
 rw [if_pos hx0, if_pos hx1]
 refine ⟨_, rfl, ?_, hc'⟩
 simp only
 obtain ⟨n, rfl⟩ := Int.eq_ofNat_of_zero_le hx0
 exact rd_mem (by omega)
theorem l1New_l0 (l : List Int) (hn : l.length ≤ 1048576) (d : Nat) : ∀ (i : Nat) (h : Int), i + d = l.length → Tot (fun k => spec_l1New.l0 k l h (i : Int)) (fun r => r.1 = l ∧ r.2.1 = 0) := by
 induction d with
 | zero =>
  intro i h hi
  refine tot_succ ?_
  simp only [spec_l1New.l0]
  exact tot_neg (by omega) (tot_some ⟨rfl, rfl⟩)
 | succ d ih =>
  intro i h hi
  refine tot_succ ?_
  simp only [spec_l1New.l0, wr1 (show (0 : Int) ≤ (i : Int) by omega) (by omega)]
  exact tot_pos (by omega) (tot_ite (fun _ => tot_pos (by omega) (ih (i + 1) _ (by omega))) (fun _ => tot_some ⟨rfl, rfl⟩))
theorem l1New_tot (l : List Int) (hn : l.length ≤ 1048576) : Tot (fun k => spec_l1New.f k l) (fun r => r.1 = l ∧ r.2.1 = 0) := by
 simp only [spec_l1New.f]
 exact l1New_l0 l hn l.length 0 _ (by omega)
def fp : Nat → Int × Int
 | 0 => (1, 2)
 | n + 1 => ((fp n).2, (fp n).1 + (fp n).2)
theorem fp_all : ∀ k : Fin 41, 0 < (fp k.val).1 ∧ (fp k.val).1 < 1000000000 ∧ 0 < (fp k.val).2 ∧ (fp k.val).2 < 1000000000 := by decide +kernel
theorem fp_bound {k : Nat} (h : k < 41) : 0 < (fp k).1 ∧ (fp k).1 < 1000000000 ∧ 0 < (fp k).2 ∧ (fp k).2 < 1000000000 := fp_all ⟨k, h⟩
theorem fp_40 : (fp 40).1 = 267914296 := by decide +kernel
theorem spec_FibonacciNumber_l0 (k : Nat) (hk : k ≤ 40) (d : Nat) : ∀ (i : Nat), i + d = k → Ev (fun m => spec_FibonacciNumber.l0 m (k : Int) (fp i).1 (fp i).2 (i : Int)) (fp k).1 := by
 induction d with
 | zero =>
  intro i hi
  obtain rfl : i = k := by omega
  refine ev_succ ?_
  simp only [spec_FibonacciNumber.l0]
  exact ev_neg (by omega) (ev_some rfl)
 | succ d ih =>
  intro i hi
  have hb := fp_bound (k := i) (by omega)
  refine ev_succ ?_
  simp only [spec_FibonacciNumber.l0]
  rw [wr1 (by omega) (by omega), wr (show -9223372036854775808 ≤ (fp i).1 + (fp i).2 by omega) (by omega), show ((i : Int) + 1) = ((i + 1 : Nat) : Int) by omega]
  exact ev_pos (by omega) (ih (i + 1) (by omega))
theorem spec_FibonacciNumber_ev (k : Nat) (hk : k ≤ 40) : Ev (fun m => spec_FibonacciNumber.f m (k : Int)) (fp k).1 := by
 simp only [spec_FibonacciNumber.f, l1In_eq, Option.bind_some]
 exact ev_pos (by simp; omega) (spec_FibonacciNumber_l0 k hk k 0 (by omega))
def zk : Nat → Int → List Int → List Int
 | 0, _, acc => acc
 | j + 1, n, acc => if (fp j).1 ≤ n then zk j (n - (fp j).1) (acc ++ [1]) else if 0 < acc.length then zk j n (acc ++ [0]) else zk j n acc
theorem zk_bits : ∀ (j : Nat) (n : Int) (acc : List Int), (∀ x ∈ acc, x = 0 ∨ x = 1) → ∀ x ∈ zk j n acc, x = 0 ∨ x = 1
 | 0, _, _, h => h
 | j + 1, n, acc, h => by
  unfold zk
  split
  ·exact zk_bits j _ _ (by intro x hx; rcases List.mem_append.1 hx with h1 | h1; exact h x h1; simp at h1; exact .inr h1)
  ·split
   ·exact zk_bits j _ _ (by intro x hx; rcases List.mem_append.1 hx with h1 | h1; exact h x h1; simp at h1; exact .inl h1)
   ·exact zk_bits j _ _ h
theorem zk_length : ∀ (j : Nat) (n : Int) (acc : List Int), (zk j n acc).length ≤ acc.length + j
 | 0, _, _ => by simp [zk]
 | j + 1, n, acc => by
  unfold zk
  split
  ·have := zk_length j (n - (fp j).1) (acc ++ [1]); simp at this; omega
  ·split
   ·have := zk_length j n (acc ++ [0]); simp at this; omega
   ·have := zk_length j n acc; omega
theorem spec_ZeckendorfOf_l0 (j : Nat) : ∀ (n : Int) (acc : List Int), j ≤ 40 → 0 ≤ n → n ≤ 1000000000 → acc.length + j ≤ 100 → Ev (fun m => spec_ZeckendorfOf.l0 m n acc ((j : Int) - 1)) (zk j n acc) := by
 induction j with
 | zero =>
  intro n acc _ _ _ _
  refine ev_succ ?_
  simp only [spec_ZeckendorfOf.l0]
  exact ev_neg (by omega) (ev_some (by simp [zk]))
 | succ j ih =>
  intro n acc hj h0 h1 ha
  have hb := fp_bound (k := j) (by omega)
  have he : ((j + 1 : Nat) : Int) - 1 = (j : Int) := by omega
  have hw : wrap64 ((j : Int) - 1) = (j : Int) - 1 := wr (by omega) (by omega)
  refine ev_succ ?_
  simp only [spec_ZeckendorfOf.l0, he, hw]
  refine ev_pos (by omega) (ev_bind (spec_FibonacciNumber_ev j (by omega)) ?_)
  unfold zk
  by_cases h : (fp j).1 ≤ n
  ·rw [if_pos h]
   refine ev_pos h (ev_bind (spec_FibonacciNumber_ev j (by omega)) (ev_pos (by omega) ?_))
   rw [wr (show -9223372036854775808 ≤ n - (fp j).1 by omega) (by omega)]
   exact ih _ _ (by omega) (by omega) (by omega) (by simp; omega)
  ·rw [if_neg h]
   refine ev_neg h ?_
   by_cases h2 : 0 < acc.length
   ·rw [if_pos h2]
    exact ev_pos (by omega) (ev_pos (by omega) (ih _ _ (by omega) h0 h1 (by simp; omega)))
   ·rw [if_neg h2]
    exact ev_neg (by omega) (ih _ _ (by omega) h0 h1 (by omega))
def zeckRes (n : Int) : List Int := if 0 ≤ n ∧ n < 267914296 then zk 40 n [] else []
theorem spec_ZeckendorfOf_ev (n : Int) : Ev (fun m => spec_ZeckendorfOf.f m n) (zeckRes n) := by
 simp only [spec_ZeckendorfOf.f, Option.bind_some]
 have no : ¬ (0 ≤ n ∧ n < 267914296) → Ev (fun m => spec_ZeckendorfOf.j0 m n [] true) (zeckRes n) := by
  intro h
  refine ev_succ ?_
  simp only [spec_ZeckendorfOf.j0]
  exact ev_pos trivial (ev_some (by unfold zeckRes; rw [if_neg h]))
 refine ev_ite (fun h => no (by omega)) (fun h => ev_bind (spec_FibonacciNumber_ev 40 (by omega)) ?_)
 rw [fp_40]
 by_cases h2 : n ≥ 267914296
 ·rw [decide_eq_true h2]; exact no (by omega)
 ·rw [decide_eq_false h2]
  refine ev_succ ?_
  simp only [spec_ZeckendorfOf.j0]
  refine ev_neg (by simp) ?_
  unfold zeckRes
  rw [if_pos ⟨by omega, by omega⟩]
  exact spec_ZeckendorfOf_l0 40 n [] (by omega) (by omega) (by omega) (by simp)
theorem zeckRes_length (n : Int) : (zeckRes n).length ≤ 40 := by
 unfold zeckRes
 split
 ·have := zk_length 40 n []; simpa using this
 ·simp
theorem zeckRes_bits (n : Int) : ∀ x ∈ zeckRes n, x = 0 ∨ x = 1 := by
 unfold zeckRes
 split
 ·exact zk_bits 40 n [] (by simp)
 ·simp
theorem l1Once_tot (b : List Int) (i h n : Int) (hc : curOk b i) (h1 : 1 ≤ n) (h2 : n ≤ 256) : ∃ a, spec_l1Once.f b i h n = some a ∧ curOk b a.2.1 := by
 unfold spec_l1Once.f
 obtain ⟨r, e, _, hc⟩ := l1Below_tot b i h n hc h1 h2
 rw [e]
 exact ⟨_, rfl, hc⟩
theorem curAt0 {b : List Int} (h : b.length ≤ 1048576) : curOk b 0 := ⟨by omega, h⟩
theorem rdLL_at {l : List (List Int)} {i : Nat} (h : i < l.length) : rd_L2 l (i : Int) = l[i] := by
 simp [rd_L2, List.getD_eq_getElem?_getD, List.getElem?_eq_getElem h]
theorem rdLL_mem {l : List (List Int)} {i : Nat} (h : i < l.length) : rd_L2 l (i : Int) ∈ l := by rw [rdLL_at h]; exact List.getElem_mem h
def fit1 (l : List Int) : Prop := l.length ≤ 1048576
def fit2 (l : List (List Int)) : Prop := l.length ≤ 1048576 ∧ ∀ r ∈ l, fit1 r
theorem all_rd_true {p : Int → Bool} {l : List Int} (h : l.all p = true) {i : Nat} (hi : i < l.length) : p (rd l (i : Int)) = true := List.all_eq_true.1 h _ (rd_mem hi)
def inR (m x : Int) : Bool := decide (0 ≤ x ∧ x < m)
def seqRow (b m : Int) (r : List Int) : Bool := decide ((r.length : Int) = b) && r.all (inR m)
def outOk (x : Int) : Bool := decide (0 ≤ x ∧ x ≤ 3)
def isSeq (b : Int) (next : List (List Int)) (out : List Int) : Bool :=
 decide (2 ≤ b ∧ b ≤ 4) && decide (1 ≤ next.length ∧ next.length ≤ 16) && decide (out.length = next.length) && next.all (seqRow b next.length) && out.all outOk
theorem spec_seq_l2 (b : Int) (next : List (List Int)) (out : List Int) (h2 : fit1 out) (hr : next.all (seqRow b next.length) = true) (d : Nat) : ∀ i : Nat, i + d = out.length → (out.take i).all outOk = true →
  Ev (fun k => spec_IsSequence.l2 k (i : Int) b next out) (isSeq b next out) := by
 unfold fit1 at h2
 induction d with
 | zero =>
  intro i hi ht
  refine ev_succ ?_
  simp only [spec_IsSequence.l2, l1In_eq, Option.bind_some]
  rw [List.take_of_length_le (by omega)] at ht
  refine ev_neg (by omega) ?_
  unfold isSeq
  rw [hr, ht]
  by_cases hb : 2 ≤ b ∧ b ≤ 4
  ·rw [decide_eq_true hb]
   refine ev_pos (by simp) ?_
   by_cases hm : 1 ≤ next.length ∧ next.length ≤ 16
   ·rw [decide_eq_true hm]
    refine ev_pos (by simp; omega) (ev_some ?_)
    simp only [Bool.true_and, Bool.and_true]
    rw [Bool.eq_iff_iff]; simp; omega
   ·rw [decide_eq_false hm]
    exact ev_neg (by simp; omega) (ev_some (by simp))
  ·rw [decide_eq_false hb]
   exact ev_neg (by simp) (ev_some (by simp))
 | succ d ih =>
  intro i hi ht
  refine ev_succ ?_
  simp only [spec_IsSequence.l2, l1In_eq, Option.bind_some, wr1 (show (0 : Int) ≤ (i : Int) by omega) (by omega)]
  refine ev_pos (by omega) (ev_pos (by omega) (ev_ite (fun h => ih (i + 1) (by omega) ?_) (fun h => ev_some ?_)))
  ·rw [List.take_succ_eq_append_getElem (by omega), ← rd_get (by omega), List.all_append, ht]; simpa [outOk] using h
  ·symm
   unfold isSeq
   have : out.all outOk = false := by
    rw [Bool.eq_false_iff]
    intro hall
    exact h (by simpa [outOk] using all_rd_true hall (show i < out.length by omega))
   rw [this]; simp
theorem spec_seq_l1 (b : Int) (next : List (List Int)) (out : List Int) (hf : fit2 next) (a : Nat) (ha : a < next.length) (r : List Int) (hr : r = rd_L2 next (a : Int)) (R : Bool)
  (H : r.all (inR next.length) = true → Ev (fun k => spec_IsSequence.l0 k ((a + 1 : Nat) : Int) b next out) R) (H2 : r.all (inR next.length) = false → R = false) (d : Nat) : ∀ j : Nat, j + d = r.length → (r.take j).all (inR next.length) = true →
  Ev (fun k => spec_IsSequence.l1 k (a : Int) (j : Int) b next out) R := by
 have h1 := hf.1
 have h2 := hf.2 _ (rdLL_mem ha)
 rw [← hr] at h2
 unfold fit1 at h2
 induction d with
 | zero =>
  intro j hj ht
  refine ev_succ ?_
  simp only [spec_IsSequence.l1]
  rw [← hr, wr1 (show (0 : Int) ≤ (a : Int) by omega) (by omega)]
  rw [List.take_of_length_le (by omega)] at ht
  exact ev_pos (by omega) (ev_pos (by omega) (ev_neg (by omega) (H ht)))
 | succ d ih =>
  intro j hj ht
  refine ev_succ ?_
  simp only [spec_IsSequence.l1, wr1 (show (0 : Int) ≤ (j : Int) by omega) (by omega)]
  rw [← hr]
  have nope : ¬ (0 ≤ rd r (j : Int) ∧ rd r (j : Int) < (next.length : Int)) → R = false := by
   intro h
   refine H2 ?_
   rw [Bool.eq_false_iff]
   intro hall
   have := all_rd_true hall (show j < r.length by omega)
   simp only [inR, decide_eq_true_eq] at this
   exact h this
  refine ev_pos (by omega) (ev_pos (by omega) (ev_pos (by omega) (ev_pos (by omega) (ev_ite (fun h => ev_some (nope (by omega)).symm) (fun h => ev_ite (fun h' => ev_some (nope (by omega)).symm) (fun h' => ih (j + 1) (by omega) ?_))))))
  rw [List.take_succ_eq_append_getElem (by omega), ← rd_get (by omega), List.all_append, ht]
  simp only [List.all_cons, List.all_nil, inR, decide_eq_true (show 0 ≤ rd r (j : Int) ∧ rd r (j : Int) < (next.length : Int) by omega), Bool.and_self]
theorem spec_seq_l0 (b : Int) (next : List (List Int)) (out : List Int) (hf : fit2 next) (h2 : fit1 out) (d : Nat) : ∀ a : Nat, a + d = next.length → (next.take a).all (seqRow b next.length) = true →
  Ev (fun k => spec_IsSequence.l0 k (a : Int) b next out) (isSeq b next out) := by
 have h1 := hf.1
 induction d with
 | zero =>
  intro a hi ht
  refine ev_succ ?_
  simp only [spec_IsSequence.l0]
  rw [List.take_of_length_le (by omega)] at ht
  exact ev_neg (by omega) (spec_seq_l2 b next out h2 ht out.length 0 (by omega) (by simp))
 | succ d ih =>
  intro a hi ht
  refine ev_succ ?_
  simp only [spec_IsSequence.l0]
  have nope : seqRow b next.length (rd_L2 next (a : Int)) = false → isSeq b next out = false := by
   intro h
   have : next.all (seqRow b next.length) = false := by
    rw [Bool.eq_false_iff]
    intro hall
    rw [List.all_eq_true.1 hall _ (rdLL_mem (show a < next.length by omega))] at h
    cases h
   unfold isSeq
   rw [this]; simp
  refine ev_pos (by omega) (ev_pos (by omega) (ev_ite (fun h => ?_) (fun h => ev_some (nope ?_).symm)))
  ·refine spec_seq_l1 b next out hf a (by omega) _ rfl _ (fun hall => ih (a + 1) (by omega) ?_) (fun hall => nope ?_) (rd_L2 next (a : Int)).length 0 (by omega) (by simp)
   ·rw [List.take_succ_eq_append_getElem (by omega), ← rdLL_at (by omega), List.all_append, ht]
    simp only [List.all_cons, List.all_nil, seqRow, hall, decide_eq_true h, Bool.and_self]
   ·simp only [seqRow, hall, Bool.and_false]
  ·simp only [seqRow, decide_eq_false h, Bool.false_and]
theorem spec_IsSequence_ev (b : Int) (next : List (List Int)) (out : List Int) (h1 : fit2 next) (h2 : fit1 out) : Ev (fun k => spec_IsSequence.f k b next out) (isSeq b next out) := by
 simp only [spec_IsSequence.f]
 exact spec_seq_l0 b next out h1 h2 next.length 0 (by omega) (by simp)
theorem tmod_nat (a b : Nat) : Int.tmod (a : Int) (b : Int) = ((a % b : Nat) : Int) := by
 rw [Int.tmod_eq_emod_of_nonneg (by omega)]; exact (Int.natCast_emod a b).symm
theorem tdiv_nat (a b : Nat) : Int.tdiv (a : Int) (b : Int) = ((a / b : Nat) : Int) := by
 rw [Int.tdiv_eq_ediv_of_nonneg (by omega)]; exact (Int.natCast_ediv a b).symm
theorem gcd_step (a b : Nat) (h : b ≠ 0) : Nat.gcd a b = Nat.gcd b (a % b) := by
 rw [Nat.gcd_comm a b, Nat.gcd_rec b a, Nat.gcd_comm]
def digsF : Nat → Nat → Nat → List Int
 | 0, _, _ => []
 | f + 1, n, b => if n = 0 then [] else digsF f (n / b) b ++ [((n % b : Nat) : Int)]
theorem digsF_more (f : Nat) : ∀ (g n b : Nat), 2 ≤ b → n ≤ f → f ≤ g → digsF f n b = digsF g n b := by
 induction f with
 | zero =>
  intro g n b hb hn hg
  obtain rfl : n = 0 := by omega
  cases g with
  | zero => rfl
  | succ g => simp [digsF]
 | succ f ih =>
  intro g n b hb hn hg
  obtain ⟨g, rfl⟩ : ∃ g', g = g' + 1 := ⟨g - 1, by omega⟩
  simp only [digsF]
  by_cases h0 : n = 0
  ·rw [if_pos h0, if_pos h0]
  ·rw [if_neg h0, if_neg h0]
   have : n / b < n := Nat.div_lt_self (by omega) (by omega)
   rw [ih g (n / b) b hb (by omega) (by omega)]
def digs (n b : Nat) : List Int := digsF n n b
theorem digs_pos (n b : Nat) (hb : 2 ≤ b) (h : n ≠ 0) : digs n b = digs (n / b) b ++ [((n % b : Nat) : Int)] := by
 unfold digs
 obtain ⟨m, rfl⟩ : ∃ m, n = m + 1 := ⟨n - 1, by omega⟩
 conv => lhs; unfold digsF
 rw [if_neg h]
 have : (m + 1) / b < m + 1 := Nat.div_lt_self (by omega) (by omega)
 rw [digsF_more ((m + 1) / b) m ((m + 1) / b) b hb (Nat.le_refl _) (by omega)]
theorem digs_zero (b : Nat) : digs 0 b = [] := rfl
theorem digs_mem (b : Nat) (hb : 2 ≤ b) (f : Nat) : ∀ n, n ≤ f → ∀ x ∈ digs n b, 0 ≤ x ∧ x < (b : Int) := by
 induction f with
 | zero =>
  intro n hn x hx; obtain rfl : n = 0 := by omega
  cases hx
 | succ f ih =>
  intro n hn x hx
  by_cases h0 : n = 0
  ·subst h0; cases hx
  ·rw [digs_pos n b hb h0] at hx
   have : n / b < n := Nat.div_lt_self (by omega) (by omega)
   rcases List.mem_append.1 hx with hx | hx
   ·exact ih (n / b) (by omega) x hx
   ·simp only [List.mem_cons, List.not_mem_nil, or_false] at hx
    have := Nat.mod_lt n (show b > 0 by omega)
    omega
theorem digs_len (b : Nat) (hb : 2 ≤ b) (e : Nat) : ∀ n, n < b ^ e → (digs n b).length ≤ e := by
 induction e with
 | zero => intro n hn; simp at hn; subst hn; simp [digs_zero]
 | succ e ih =>
  intro n hn
  by_cases h0 : n = 0
  ·subst h0; simp [digs_zero]
  ·rw [digs_pos n b hb h0]
   have : n / b < b ^ e := by
    rw [Nat.div_lt_iff_lt_mul (by omega)]
    rw [Nat.pow_succ] at hn; exact hn
   have := ih _ this
   simp; omega
def walkS (next : List (List Int)) (s : Int) : List Int → Int
 | [] => s
 | d :: l => walkS next (rd (rd_L2 next s) d) l
theorem isSeq_facts {b : Int} {next : List (List Int)} {out : List Int} (h : isSeq b next out = true) : (2 ≤ b ∧ b ≤ 4) ∧ (1 ≤ next.length ∧ next.length ≤ 16) ∧ out.length = next.length ∧
  (∀ r ∈ next, (r.length : Int) = b ∧ ∀ x ∈ r, 0 ≤ x ∧ x < (next.length : Int)) ∧ ∀ x ∈ out, 0 ≤ x ∧ x ≤ 3 := by
 unfold isSeq at h
 simp only [Bool.and_eq_true, decide_eq_true_eq, List.all_eq_true] at h
 obtain ⟨⟨⟨⟨h1, h2⟩, h3⟩, h4⟩, h5⟩ := h
 refine ⟨h1, h2, h3, fun r hr => ?_, fun x hx => by simpa [outOk] using h5 x hx⟩
 have := h4 r hr
 simp only [seqRow, Bool.and_eq_true, decide_eq_true_eq, List.all_eq_true] at this
 exact ⟨this.1, fun x hx => by simpa [inR] using this.2 x hx⟩
theorem walk_step {b : Int} {next : List (List Int)} {out : List Int} (h : isSeq b next out = true) {s d : Int} (hs : 0 ≤ s ∧ s < (next.length : Int)) (hd : 0 ≤ d ∧ d < b) :
  d < ((rd_L2 next s).length : Int) ∧ 0 ≤ rd (rd_L2 next s) d ∧ rd (rd_L2 next s) d < (next.length : Int) := by
 obtain ⟨_, _, _, h4, _⟩ := isSeq_facts h
 obtain ⟨i, rfl⟩ := Int.eq_ofNat_of_zero_le hs.1
 obtain ⟨j, rfl⟩ := Int.eq_ofNat_of_zero_le hd.1
 have hr := h4 _ (rdLL_mem (show i < next.length by omega))
 exact ⟨by omega, hr.2 _ (rd_mem (by omega))⟩
theorem walkS_in {b : Int} {next : List (List Int)} {out : List Int} (h : isSeq b next out = true) : ∀ (l : List Int) (s : Int), 0 ≤ s ∧ s < (next.length : Int) → (∀ x ∈ l, 0 ≤ x ∧ x < b) → 0 ≤ walkS next s l ∧ walkS next s l < (next.length : Int) := by
 intro l
 induction l with
 | nil => intro s hs _; exact hs
 | cons d l ih =>
  intro s hs hl
  exact ih _ (walk_step h hs (hl d (by simp))).2 (fun x hx => hl x (by simp [hx]))
def termN (b : Nat) (next : List (List Int)) (out : List Int) (n : Nat) : Int := rd out (walkS next 0 (digs n b))
theorem pow_bd {b e : Nat} (hb : b ≤ 4) (he : e ≤ 16) : b ^ e ≤ 4294967296 := by
 refine Nat.le_trans (Nat.pow_le_pow_left hb e) (Nat.le_trans (Nat.pow_le_pow_right (by omega) he) ?_)
 decide
theorem spec_PowerOf_l0 (b e : Nat) (hb : b ≤ 4) (he : e ≤ 16) (d : Nat) : ∀ i : Nat, i + d = e → Ev (fun k => spec_PowerOf.l0 k (b : Int) (e : Int) ((b ^ i : Nat) : Int) (i : Int)) ((b ^ e : Nat) : Int) := by
 induction d with
 | zero =>
  intro i hi
  refine ev_succ ?_
  simp only [spec_PowerOf.l0]
  exact ev_neg (by omega) (ev_some (by rw [show i = e by omega]))
 | succ d ih =>
  intro i hi
  have := ih (i + 1) (by omega)
  have h1 := pow_bd hb (show i + 1 ≤ 16 by omega)
  refine ev_succ ?_
  simp only [spec_PowerOf.l0]
  rw [← Int.natCast_mul, ← Nat.pow_succ, wr_nat (show b ^ (i + 1) ≤ 4611686018427387904 by omega), wr1 (by omega) (by omega)]
  exact ev_pos (by omega) this
theorem spec_PowerOf16_ev (b : Nat) (hb1 : 2 ≤ b) (hb : b ≤ 4) : Ev (fun k => spec_PowerOf.f k (b : Int) 16) ((b ^ 16 : Nat) : Int) := by
 simp only [spec_PowerOf.f, l1In_eq, Option.bind_some]
 refine ev_pos (by simp; omega) (ev_succ ?_)
 simp only [spec_PowerOf.j0]
 refine ev_neg (by decide) ?_
 exact spec_PowerOf_l0 b 16 hb (Nat.le_refl _) 16 0 (by omega)
theorem spec_DigitsOf_l0 (b : Nat) (hb : 2 ≤ b) (hb2 : b ≤ 4) (f : Nat) : ∀ (n : Nat) (acc : List Int), n ≤ f → n ≤ 4294967296 → acc.length + f ≤ 8589934592 →
  Ev (fun k => spec_DigitsOf.l0 k (n : Int) (b : Int) acc) (digs n b ++ acc) := by
 induction f with
 | zero =>
  intro n acc hn hn2 ha
  obtain rfl : n = 0 := by omega
  refine ev_succ ?_
  simp only [spec_DigitsOf.l0]
  exact ev_neg (by omega) (ev_some (by simp [digs_zero]))
 | succ f ih =>
  intro n acc hn hn2 ha
  refine ev_succ ?_
  simp only [spec_DigitsOf.l0, tdiv_nat, tmod_nat, Option.bind_some]
  by_cases h0 : n = 0
  ·subst h0
   exact ev_neg (by omega) (ev_some (by simp [digs_zero]))
  ·have hlt : n / b < n := Nat.div_lt_self (by omega) (by omega)
   rw [wr_nat (show n / b ≤ 4611686018427387904 by omega)]
   refine ev_pos (by omega) (ev_neg (by omega) (ev_pos (by simp only [List.length_cons, List.length_nil]; omega) (ev_eq (ih (n / b) _ (by omega) (by omega) (by simp; omega)) ?_)))
   rw [digs_pos n b hb h0]; simp
theorem spec_DigitsOf_ev (n b : Nat) (hb : 2 ≤ b) (hb2 : b ≤ 4) (hn : n < b ^ 16) : Ev (fun k => spec_DigitsOf.f k (n : Int) (b : Int)) (digs n b) := by
 have hp := pow_bd hb2 (show 16 ≤ 16 by omega)
 simp only [spec_DigitsOf.f, l1In_eq, Option.bind_some]
 refine ev_neg (by omega) (ev_pos (by simp; omega) (ev_bind (spec_PowerOf16_ev b hb hb2) ?_))
 rw [decide_eq_false (by omega)]
 refine ev_succ ?_
 simp only [spec_DigitsOf.j0]
 exact ev_neg (by simp) (ev_eq (spec_DigitsOf_l0 b hb hb2 n n [] (Nat.le_refl _) (by omega) (by simp; omega)) (by simp))
theorem spec_AreDigits_l0 (l : List Int) (b : Int) (hb : 2 ≤ b ∧ b ≤ 4) (hl : ∀ x ∈ l, 0 ≤ x ∧ x < b) (hn : l.length ≤ 16) (d : Nat) : ∀ (i : Nat), i + d = l.length → Ev (fun k => spec_AreDigits.l0 k l b (i : Int)) true := by
 induction d with
 | zero =>
  intro i hi
  refine ev_succ ?_
  simp only [spec_AreDigits.l0, l1In_eq, Option.bind_some]
  exact ev_neg (by omega) (ev_pos (by simpa using hb) (ev_some (by simp; omega)))
 | succ d ih =>
  intro i hi
  have hd := hl _ (rd_mem (show i < l.length by omega))
  refine ev_succ ?_
  simp only [spec_AreDigits.l0, wr1 (show (0 : Int) ≤ (i : Int) by omega) (by omega)]
  exact ev_pos (by omega) (ev_pos (by omega) (ev_neg (by omega) (ev_neg (by omega) (ih (i + 1) (by omega)))))
theorem spec_after_l0 {b : Int} {next : List (List Int)} {out : List Int} (h : isSeq b next out = true) (l : List Int) (hn : l.length ≤ 1048576) (hl : ∀ x ∈ l, 0 ≤ x ∧ x < b) (d : Nat) : ∀ (i : Nat) (s : Int), i + d = l.length → 0 ≤ s ∧ s < (next.length : Int) →
  Ev (fun k => spec_StateAfter.l0 k l s (i : Int) b next out) (walkS next s (l.drop i)) := by
 induction d with
 | zero =>
  intro i s hi hs
  refine ev_succ ?_
  simp only [spec_StateAfter.l0]
  refine ev_neg (by omega) (ev_some ?_)
  rw [List.drop_of_length_le (by omega)]; rfl
 | succ d ih =>
  intro i s hi hs
  have hd := hl _ (rd_mem (show i < l.length by omega))
  have hw := walk_step h hs hd
  refine ev_succ ?_
  simp only [spec_StateAfter.l0, wr1 (show (0 : Int) ≤ (i : Int) by omega) (by omega)]
  rw [drop_rd (show i < l.length by omega)]
  exact ev_pos (by omega) (ev_pos hs.1 (ev_pos hs.2 (ev_pos (by omega) (ev_pos hd.1 (ev_pos hw.1 (ih (i + 1) _ (by omega) hw.2))))))
theorem spec_StateAfter_ev {b : Int} {next : List (List Int)} {out : List Int} (h : isSeq b next out = true) (h1 : fit2 next) (h2 : fit1 out) (l : List Int) (hn : l.length ≤ 16) (hl : ∀ x ∈ l, 0 ≤ x ∧ x < b) :
  Ev (fun k => spec_StateAfter.f k b next out l) (walkS next 0 l) := by
 simp only [spec_StateAfter.f, spec_AreDigits.f]
 have hb := (isSeq_facts h).1
 have hm := (isSeq_facts h).2.1
 refine ev_bind (spec_IsSequence_ev b next out h1 h2) (ev_pos h (ev_bind (spec_AreDigits_l0 l b hb hl hn l.length 0 (by omega)) (ev_succ ?_)))
 simp only [spec_StateAfter.j0]
 exact ev_neg (by simp) (spec_after_l0 h l (by omega) hl l.length 0 0 (by omega) ⟨by omega, by omega⟩)
theorem spec_TermAt_ev {b : Nat} {next : List (List Int)} {out : List Int} (h : isSeq (b : Int) next out = true) (h1 : fit2 next) (h2 : fit1 out) (n : Nat) (hn : n < b ^ 16) : Ev (fun k => spec_TermAt.f k (b : Int) next out (n : Int)) (termN b next out n) := by
 obtain ⟨g1, g2, g3, g4, g5⟩ := isSeq_facts h
 have hm := digs_mem b (by omega) n n (Nat.le_refl _)
 have hl := digs_len b (by omega) 16 n hn
 simp only [spec_TermAt.f]
 refine ev_neg (by omega) (ev_bind (spec_IsSequence_ev _ next out h1 h2) (ev_pos h (ev_bind (spec_PowerOf16_ev b (by omega) (by omega)) ?_)))
 rw [decide_eq_false (by omega)]
 refine ev_succ ?_
 simp only [spec_TermAt.j0]
 refine ev_neg (by simp) (ev_bind (spec_DigitsOf_ev n b (by omega) (by omega) hn) (ev_bind (spec_StateAfter_ev h h1 h2 _ hl hm) ?_))
 have hw := walkS_in h (digs n b) 0 ⟨by omega, by omega⟩ hm
 exact ev_pos hw.1 (ev_pos (by omega) (ev_some rfl))
def areL (m : Int) (l : List Int) : Bool := l.all fun x => decide (0 ≤ x ∧ x < m)
theorem impl_areLetters_l0 (l : List Int) (m : Int) (hn : l.length ≤ 4611686018427387904) (d : Nat) : ∀ (i : Nat), i + d = l.length →
  Ev (fun k => impl_areLetters.l0 k m l (l.length : Int) (i : Int)) (areL m (l.drop i)) := by
 induction d with
 | zero =>
  intro i hi
  refine ev_succ ?_
  simp only [impl_areLetters.l0]
  refine ev_neg (by omega) (ev_some ?_)
  rw [List.drop_of_length_le (by omega)]; rfl
 | succ d ih =>
  intro i hi
  refine ev_succ ?_
  simp only [impl_areLetters.l0, wr1 (show (0 : Int) ≤ (i : Int) by omega) (by omega)]
  refine ev_pos (by omega) (ev_pos (by omega) (ev_pos (by omega) ?_))
  rw [drop_rd (by omega : i < l.length)]
  refine ev_ite (fun h => ev_some ?_) (fun h => ev_ite (fun h' => ev_some ?_) (fun h' => ev_eq (ih (i + 1) (by omega)) ?_))
  ·simp only [areL, List.all_cons, decide_eq_false (show ¬ (0 ≤ rd l (i : Int) ∧ rd l (i : Int) < m) by omega), Bool.false_and]
  ·simp only [areL, List.all_cons, decide_eq_false (show ¬ (0 ≤ rd l (i : Int) ∧ rd l (i : Int) < m) by omega), Bool.false_and]
  ·simp only [areL, List.all_cons, decide_eq_true (show (0 ≤ rd l (i : Int) ∧ rd l (i : Int) < m) by omega), Bool.true_and]
theorem impl_areLetters_ev (l : List Int) (m : Int) (hn : l.length ≤ 4611686018427387904) : Ev (fun k => impl_areLetters.f k l m) (areL m l) := by
 simp only [impl_areLetters.f]
 exact impl_areLetters_l0 l m hn l.length 0 (by omega)
theorem spec_IsWord_l0 (l : List Int) (m : Int) (hn : l.length ≤ 4611686018427387904) (d : Nat) : ∀ (i : Nat), i + d = l.length →
  Ev (fun k => spec_IsWord.l0 k l m (i : Int)) (areL m (l.drop i) && decide (1 ≤ m ∧ m ≤ 16) && decide ((l.length : Int) ≤ 400)) := by
 induction d with
 | zero =>
  intro i hi
  refine ev_succ ?_
  simp only [spec_IsWord.l0, l1In_eq, Option.bind_some]
  refine ev_neg (by omega) ?_
  rw [List.drop_of_length_le (by omega)]
  refine ev_ite (fun h => ev_some ?_) (fun h => ev_some ?_)
  ·rw [h]; rfl
  ·rw [Bool.not_eq_true] at h; rw [h]; rfl
 | succ d ih =>
  intro i hi
  refine ev_succ ?_
  simp only [spec_IsWord.l0, wr1 (show (0 : Int) ≤ (i : Int) by omega) (by omega)]
  refine ev_pos (by omega) (ev_pos (by omega) ?_)
  rw [drop_rd (by omega : i < l.length)]
  refine ev_ite (fun h => ev_some ?_) (fun h => ev_ite (fun h' => ev_some ?_) (fun h' => ev_eq (ih (i + 1) (by omega)) ?_))
  ·simp only [areL, List.all_cons, decide_eq_false (show ¬ (0 ≤ rd l (i : Int) ∧ rd l (i : Int) < m) by omega), Bool.false_and]
  ·simp only [areL, List.all_cons, decide_eq_false (show ¬ (0 ≤ rd l (i : Int) ∧ rd l (i : Int) < m) by omega), Bool.false_and]
  ·simp only [areL, List.all_cons, decide_eq_true (show (0 ≤ rd l (i : Int) ∧ rd l (i : Int) < m) by omega), Bool.true_and]
theorem spec_IsWord_ev (l : List Int) (m : Int) (hn : l.length ≤ 4611686018427387904) : Ev (fun k => spec_IsWord.f k l m) (areL m l && decide (1 ≤ m ∧ m ≤ 16) && decide ((l.length : Int) ≤ 400)) := by
 simp only [spec_IsWord.f]
 exact spec_IsWord_l0 l m hn l.length 0 (by omega)
def lettersW (m : Int) (n : Nat) (y : List Int) : Prop := y.length ≤ n ∧ ∀ x ∈ y, 0 ≤ x ∧ x < m
theorem l7Word8_l0 (m : Int) (hm : 1 ≤ m ∧ m ≤ 256) (b : List Int) (d : Nat) : ∀ (acc : List Int) (n : Nat) (i h : Int), n = d → curOk b i → acc.length + n ≤ 11 → (∀ x ∈ acc, 0 ≤ x ∧ x < m) →
  Tot (fun k => spec_l7Word.l0 k m acc (n : Int) b i h) (fun r => lettersW m 11 r.1 ∧ curOk b r.2.1) := by
 induction d with
 | zero =>
  intro acc n i h hn hc hl ha
  subst hn
  refine tot_succ ?_
  simp only [spec_l7Word.l0]
  exact tot_neg (by omega) (tot_some ⟨⟨by simp only; omega, ha⟩, hc⟩)
 | succ d ih =>
  intro acc n i h hn hc hl ha
  subst hn
  have hs : wrap64 (((d + 1 : Nat) : Int) - 1) = (d : Int) := by rw [wr (by omega) (by omega)]; omega
  refine tot_succ ?_
  simp only [spec_l7Word.l0, hs]
  refine tot_pos (by omega) ?_
  refine tot_bind0 (l1Below_tot b i h m hc hm.1 hm.2) (fun r hr => ?_)
  refine tot_pos (by omega) (ih _ d _ _ rfl hr.2 (by simp; omega) (fun x hx => ?_))
  rcases List.mem_append.1 hx with hx | hx
  ·exact ha x hx
  ·have : x = r.1 := by simpa using hx
   omega
theorem l7Word8_tot (m : Int) (hm : 1 ≤ m ∧ m ≤ 256) (b : List Int) (i h : Int) (hc : curOk b i) : Tot (fun k => spec_l7Word.f k b i h m) (fun r => lettersW m 11 r.1 ∧ curOk b r.2.1) := by
 simp only [spec_l7Word.f]
 refine tot_bind0 (l1Below_tot b i h 12 hc (by omega) (by omega)) (fun r hr => ?_)
 obtain ⟨n, hn⟩ := Int.eq_ofNat_of_zero_le hr.1.1
 rw [hn]
 exact l7Word8_l0 m hm b n [] n _ _ rfl hr.2 (by simp; omega) (by simp)
def seqSmall (next : List (List Int)) (out : List Int) : Prop := fit2 next ∧ fit1 out
theorem l3r_l1 (b : List Int) (bs m : Nat) (hb : bs ≤ 4) (hm : 1 ≤ m ∧ m ≤ 16) (st : Nat) (rows : List (List Int)) (out : List Int) (hr : rows.length ≤ 16) (ho : out.length ≤ 16) (base : Int) {Q : Int × List (List Int) × List Int × Int × Int → Prop}
  (H : ∀ (row : List Int) (x : Int) (i h : Int), row.length = bs → curOk b i → Tot (fun k => spec_l3Random.l0 k (bs : Int) (m : Int) ((st : Nat) : Int) b i h base (rows ++ [row]) (out ++ [x])) Q) (stp : Int) (hst : wrap64 (stp + 1) = (st : Int)) (d : Nat) :
  ∀ (row : List Int) (j : Nat) (i h : Int), j + d = bs → row.length = j → curOk b i → Tot (fun k => spec_l3Random.l1 k (bs : Int) (m : Int) stp row (j : Int) b i h base rows out) Q := by
 induction d with
 | zero =>
  intro row j i h hj hl hc
  refine tot_succ ?_
  simp only [spec_l3Random.l1]
  refine tot_neg (by omega) (tot_pos (by omega) ?_)
  refine tot_bind0 (l1Below_tot b i h 2 hc (by omega) (by omega)) (fun r1 hr1 => ?_)
  rw [wr (by omega) (by omega)]
  refine tot_bind0 (l1Below_tot b _ _ _ hr1.2 (by omega) (by omega)) (fun r2 hr2 => ?_)
  rw [hst]
  exact tot_pos (by omega) (H row _ _ _ (by omega) hr2.2)
 | succ d ih =>
  intro row j i h hj hl hc
  refine tot_succ ?_
  simp only [spec_l3Random.l1, wr1 (show (0 : Int) ≤ (j : Int) by omega) (by omega)]
  refine tot_pos (by omega) (tot_bind0 (l1Below_tot b i h m hc (by omega) (by omega)) (fun r hr => ?_))
  exact tot_pos (by omega) (ih _ (j + 1) _ _ (by omega) (by simp; omega) hr.2)
theorem l3r_l0 (b : List Int) (bs m : Nat) (hb : 1 ≤ bs ∧ bs ≤ 4) (hm : 1 ≤ m ∧ m ≤ 16) (base : Int) (d : Nat) :
  ∀ (rows : List (List Int)) (out : List Int) (st : Nat) (i h : Int), st + d = m → rows.length = st → out.length = st → (∀ r ∈ rows, r.length = bs) → curOk b i →
  Tot (fun k => spec_l3Random.l0 k (bs : Int) (m : Int) (st : Int) b i h base rows out) (fun r => r.1 = base ∧ seqSmall r.2.1 r.2.2.1 ∧ curOk b r.2.2.2.1) := by
 induction d with
 | zero =>
  intro rows out st i h hs hr ho hl hc
  refine tot_succ ?_
  simp only [spec_l3Random.l0]
  refine tot_neg (by omega) (tot_bind0 (l1Once_tot b i h 2 hc (by omega) (by omega)) (fun r1 hr1 => ?_))
  have hsm : seqSmall rows out := ⟨⟨by omega, fun r h => by unfold fit1; rw [hl r h]; omega⟩, by unfold fit1; omega⟩
  refine tot_ite (fun _ => ?_) (fun _ => tot_some ⟨rfl, hsm, hr1⟩)
  have h0 : rows.getD 0 [] ∈ rows := by
   rw [List.getD_eq_getElem?_getD, List.getElem?_eq_getElem (show 0 < rows.length by omega)]
   exact List.getElem_mem _
  refine tot_pos (by omega) (tot_pos (by rw [hl _ h0]; omega) (tot_some ⟨rfl, ⟨⟨by simp only [List.length_set]; omega, fun r h => ?_⟩, hsm.2⟩, hr1⟩))
  rcases List.mem_or_eq_of_mem_set h with h | h
  ·exact hsm.1.2 r h
  ·subst h; unfold fit1; rw [List.length_set, hl _ h0]; omega
 | succ d ih =>
  intro rows out st i h hs hr ho hl hc
  refine tot_succ ?_
  simp only [spec_l3Random.l0]
  refine tot_pos (by omega) ?_
  have hw := wr1 (show (0 : Int) ≤ (st : Int) by omega) (by omega)
  refine l3r_l1 b bs m hb.2 hm (st + 1) rows out (by omega) (by omega) base (fun row x i h hrow hc => ?_) (st : Int) (by rw [hw]; omega) bs [] 0 i h (by omega) rfl hc
  refine ih _ _ (st + 1) i h (by omega) (by simp; omega) (by simp; omega) (fun r hr => ?_) hc
  rcases List.mem_append.1 hr with hr | hr
  ·exact hl r hr
  ·have : r = row := by simpa using hr
   rw [this]; exact hrow
theorem l3Random_tot (b : List Int) (i h : Int) (bs m : Nat) (hb : 1 ≤ bs ∧ bs ≤ 4) (hm : 1 ≤ m ∧ m ≤ 16) (hc : curOk b i) : Tot (fun k => spec_l3Random.f k b i h (bs : Int) (m : Int)) (fun r => r.1 = (bs : Int) ∧ seqSmall r.2.1 r.2.2.1 ∧ curOk b r.2.2.2.1) := by
 simp only [spec_l3Random.f]
 exact l3r_l0 b bs m hb hm _ m [] [] 0 i h (by omega) rfl rfl (by simp) hc
theorem l1Pick_tot (b : List Int) (i h : Int) (l : List ByteArray) (hc : curOk b i) (h1 : 1 ≤ l.length) (h2 : l.length ≤ 256) : ∃ r, spec_l1Pick.f b i h l = some r ∧ curOk b r.2.1 := by
 unfold spec_l1Pick.f
 obtain ⟨⟨x, i', h'⟩, e, ⟨hx0, hx1⟩, hc'⟩ := l1Below_tot b i h (l.length : Int) hc (by omega) (by omega)
 rw [e]
 simp only [Option.bind_some] at *
 rw [if_pos hx0, if_pos hx1]
 exact ⟨_, rfl, hc'⟩
theorem named_tot (s : ByteArray) : ∃ r, spec_NamedSequence.f s = some r ∧ seqSmall r.2.1 r.2.2.1 := by
 have key : ∀ (a : Int) (n : List (List Int)) (o : List Int) (t : Bool), (n.length ≤ 4 ∧ (∀ r ∈ n, r.length ≤ 4) ∧ o.length ≤ 4) → ∃ r, (some (a, n, o, t) : Option (Int × List (List Int) × List Int × Bool)) = some r ∧ seqSmall r.2.1 r.2.2.1 :=
  fun a n o t h => ⟨_, rfl, ⟨⟨by have := h.1; simp only; omega, fun r hr => by have := h.2.1 r hr; unfold fit1; omega⟩, by have := h.2.2; unfold fit1; simp only; omega⟩⟩
 unfold spec_NamedSequence.f
 repeat' split
 all_goals exact key _ _ _ _ (by decide)
theorem l3Draw_tot (b : List Int) (i h : Int) (hc : curOk b i) : Tot (fun k => spec_l3Draw.f k b i h) (fun r => seqSmall r.2.1 r.2.2.1 ∧ curOk b r.2.2.2.1) := by
 simp only [spec_l3Draw.f]
 refine tot_bind0 (l1Once_tot b i h 3 hc (by omega) (by omega)) (fun r1 hr1 => tot_ite (fun _ => ?_) (fun _ => ?_))
 ·refine tot_bind0 (l1Pick_tot b _ _ _ hr1 (by decide) (by decide)) (fun r2 hr2 => ?_)
  exact tot_bind0 (named_tot r2.1) (fun r3 hr3 => tot_some ⟨hr3, hr2⟩)
 ·refine tot_bind0 (l1Below_tot b _ _ 2 hr1 (by omega) (by omega)) (fun r2 hr2 => tot_bind0 (l1Below_tot b _ _ 5 hr2.2 (by omega) (by omega)) (fun r3 hr3 => ?_))
  obtain ⟨x, hx⟩ := Int.eq_ofNat_of_zero_le hr2.1.1
  obtain ⟨y, hy⟩ := Int.eq_ofNat_of_zero_le hr3.1.1
  rw [wr (by omega) (by omega), wr (by omega) (by omega), show 2 + r2.1 = ((2 + x : Nat) : Int) by omega, show 1 + r3.1 = ((1 + y : Nat) : Int) by omega]
  exact tot_bind (l3Random_tot b _ _ _ _ (by omega) (by omega) hr3.2) (fun r4 hr4 => tot_some hr4.2)
theorem termN_out {b : Nat} {next : List (List Int)} {out : List Int} (h : isSeq (b : Int) next out = true) (n : Nat) : 0 ≤ termN b next out n ∧ termN b next out n ≤ 3 := by
 obtain ⟨g1, g2, g3, g4, g5⟩ := isSeq_facts h
 have hw := walkS_in h (digs n b) 0 ⟨by omega, by omega⟩ (digs_mem b (by omega) n n (Nat.le_refl _))
 obtain ⟨j, hj⟩ := Int.eq_ofNat_of_zero_le hw.1
 unfold termN
 rw [hj]
 exact g5 _ (rd_mem (by omega))
theorem prefixOf_l0 (b : Int) (next : List (List Int)) (out : List Int) (hs : seqSmall next out) (n : Nat) (hn : n ≤ 256) (d : Nat) : ∀ (i : Nat) (acc : List Int), i + d = n → acc.length = i → (∀ x ∈ acc, 0 ≤ x ∧ x ≤ 3) →
  Tot (fun k => spec_PrefixOf.l0 k (n : Int) acc (i : Int) b next out) (fun r => r.length ≤ n ∧ ∀ x ∈ r, 0 ≤ x ∧ x ≤ 3) := by
 induction d with
 | zero =>
  intro i acc hi ha hx
  refine tot_succ ?_
  simp only [spec_PrefixOf.l0]
  exact tot_neg (by omega) (tot_some ⟨by omega, hx⟩)
 | succ d ih =>
  intro i acc hi ha hx
  refine tot_succ ?_
  simp only [spec_PrefixOf.l0, wr1 (show (0 : Int) ≤ (i : Int) by omega) (by omega)]
  refine tot_pos (by omega) (tot_pos (by omega) (tot_bind (tot_of (spec_IsSequence_ev b next out hs.1 hs.2) rfl) (fun t ht => tot_ite (fun h => ?_) (fun _ => tot_some ⟨by omega, hx⟩))))
  rw [← ht] at h
  have hb := (isSeq_facts h).1
  obtain ⟨c, rfl⟩ := Int.eq_ofNat_of_zero_le (show 0 ≤ b by omega)
  have hpow : i < c ^ 16 := Nat.lt_of_lt_of_le (show i < 2 ^ 16 by omega) (Nat.pow_le_pow_left (by omega) 16)
  refine tot_bind (tot_of (spec_TermAt_ev h hs.1 hs.2 i hpow) rfl) (fun v hv => tot_pos (by omega) (ih (i + 1) _ (by omega) (by simp; omega) (fun x hxx => ?_)))
  rcases List.mem_append.1 hxx with hxx | hxx
  ·exact hx x hxx
  ·have : x = v := by simpa using hxx
   rw [this, ← hv]; exact termN_out h i
theorem prefixOf_tot (b : Int) (next : List (List Int)) (out : List Int) (hs : seqSmall next out) (n : Nat) (hn : n ≤ 256) : Tot (fun k => spec_PrefixOf.f k b next out (n : Int)) (fun r => r.length ≤ n ∧ ∀ x ∈ r, 0 ≤ x ∧ x ≤ 3) := by
 simp only [spec_PrefixOf.f]
 exact prefixOf_l0 b next out hs n hn n 0 [] (by omega) rfl (by simp)
def mor (m : List (List Int)) : Prop := (1 ≤ m.length ∧ m.length ≤ 16) ∧ ∀ r ∈ m, r.length ≤ 8 ∧ ∀ x ∈ r, 0 ≤ x ∧ x < (m.length : Int)
def morFit (m : List (List Int)) : Prop := m.length ≤ 3 ∧ ∀ r ∈ m, r.length ≤ 4
theorem areL_mem {m : Int} {l : List Int} (h : areL m l = true) : ∀ x ∈ l, 0 ≤ x ∧ x < m := by
 unfold areL at h
 simp only [List.all_eq_true] at h
 intro x hx
 have := h x hx
 simp at this
 omega
theorem isMor_l0 (m : List (List Int)) (hf : morFit m) (d : Nat) : ∀ i : Nat, i + d = m.length → (∀ r ∈ m.take i, r.length ≤ 8 ∧ ∀ x ∈ r, 0 ≤ x ∧ x < (m.length : Int)) → Tot (fun k => spec_IsMorphism.l0 k (i : Int) m) (fun b => b = true → mor m) := by
 have hm := hf.1
 induction d with
 | zero =>
  intro i hi ht
  refine tot_succ ?_
  simp only [spec_IsMorphism.l0, l1In_eq, Option.bind_some]
  refine tot_neg (by omega) (tot_some (fun h => ⟨?_, ?_⟩))
  ·have := of_decide_eq_true h; omega
  ·rwa [List.take_of_length_le (by omega)] at ht
 | succ d ih =>
  intro i hi ht
  have hr := hf.2 _ (rdLL_mem (show i < m.length by omega))
  refine tot_succ ?_
  simp only [spec_IsMorphism.l0, wr1 (show (0 : Int) ≤ (i : Int) by omega) (by omega)]
  refine tot_pos (by omega) (tot_pos (by omega) (tot_bind (tot_of (spec_IsWord_ev (rd_L2 m (i : Int)) (m.length : Int) (by omega)) rfl) (fun t ht2 => ?_)))
  refine tot_ite (fun h => tot_ite (fun h8 => tot_some (fun e => by cases e)) (fun h8 => ih (i + 1) (by omega) (fun r hrm => ?_))) (fun _ => tot_some (fun e => by cases e))
  rw [List.take_succ_eq_append_getElem (by omega)] at hrm
  rcases List.mem_append.1 hrm with hrm | hrm
  ·exact ht r hrm
  ·have e : r = rd_L2 m (i : Int) := by rw [rdLL_at (by omega)]; simpa using hrm
   rw [← ht2] at h
   simp only [Bool.and_eq_true] at h
   subst e
   exact ⟨by omega, areL_mem h.1.1⟩
theorem isMor_tot (m : List (List Int)) (hf : morFit m) : Tot (fun k => spec_IsMorphism.f k m) (fun b => b = true → mor m) := by
 simp only [spec_IsMorphism.f]
 exact isMor_l0 m hf m.length 0 (by omega) (by simp)
def alive (m : List (List Int)) : Nat → Int → Bool
 | 0, _ => true
 | t + 1, x => (rd_L2 m x).any (alive m t)
theorem alive_down (m : List (List Int)) (t : Nat) : ∀ x, alive m (t + 1) x = true → alive m t x = true := by
 induction t with
 | zero => intro x _; rfl
 | succ t ih =>
  intro x h
  unfold alive at h ⊢
  rw [List.any_eq_true] at h ⊢
  obtain ⟨y, hy, ha⟩ := h
  exact ⟨y, hy, ih y ha⟩
def letters (m : List (List Int)) : List Int := (List.range m.length).map Int.ofNat
theorem mem_letters {m : List (List Int)} {x : Int} (h : 0 ≤ x ∧ x < (m.length : Int)) : x ∈ letters m := by
 unfold letters
 rw [List.mem_map]
 exact ⟨x.toNat, by rw [List.mem_range]; omega, by show ((x.toNat : Nat) : Int) = x; omega⟩
def still (m : List (List Int)) (t : Nat) : Prop := ∀ x ∈ letters m, alive m t x = true → alive m (t + 1) x = true
theorem filter_len_lt {l : List Int} {p q : Int → Bool} (h : ∀ x ∈ l, q x = true → p x = true) : (l.filter q).length ≤ (l.filter p).length ∧ ((l.filter q).length = (l.filter p).length → ∀ x ∈ l, p x = true → q x = true) := by
 induction l with
 | nil => exact ⟨Nat.le_refl _, fun _ x hx => by cases hx⟩
 | cons a l ih =>
  obtain ⟨h1, h2⟩ := ih (fun x hx => h x (List.mem_cons_of_mem _ hx))
  have ha := h a (List.mem_cons_self ..)
  by_cases hq : q a = true
  ·have hp := ha hq
   rw [List.filter_cons_of_pos hq, List.filter_cons_of_pos hp]
   refine ⟨by simp only [List.length_cons]; omega, fun e x hx => ?_⟩
   simp only [List.length_cons] at e
   rcases List.mem_cons.1 hx with rfl | hx
   ·intro _; exact hq
   ·exact h2 (by omega) x hx
  ·by_cases hp : p a = true
   ·rw [List.filter_cons_of_neg hq, List.filter_cons_of_pos hp]
    exact ⟨by simp only [List.length_cons]; omega, fun e => by simp only [List.length_cons] at e; omega⟩
   ·rw [List.filter_cons_of_neg hq, List.filter_cons_of_neg hp]
    refine ⟨h1, fun e x hx => ?_⟩
    rcases List.mem_cons.1 hx with rfl | hx
    ·intro h'; exact absurd h' hp
    ·exact h2 e x hx
theorem still_next {m : List (List Int)} (hm : mor m) {t : Nat} (h : still m t) : still m (t + 1) := by
 intro x hx ha
 unfold alive at ha ⊢
 rw [List.any_eq_true] at ha ⊢
 obtain ⟨y, hy, hya⟩ := ha
 refine ⟨y, hy, h y ?_ hya⟩
 unfold letters at hx
 rw [List.mem_map] at hx
 obtain ⟨i, hi, rfl⟩ := hx
 rw [List.mem_range] at hi
 exact mem_letters ((hm.2 _ (rdLL_mem hi)).2 y hy)
theorem still_or {m : List (List Int)} (hm : mor m) (t : Nat) : still m t ∨ ((letters m).filter (alive m t)).length + t ≤ m.length := by
 induction t with
 | zero =>
  refine .inr ?_
  have := List.length_filter_le (alive m 0) (letters m)
  have e : (letters m).length = m.length := by simp [letters]
  omega
 | succ t ih =>
  rcases ih with h | h
  ·exact .inl (still_next hm h)
  ·obtain ⟨h1, h2⟩ := filter_len_lt (l := letters m) (p := alive m t) (q := alive m (t + 1)) (fun x _ => alive_down m t x)
   by_cases e : ((letters m).filter (alive m (t + 1))).length = ((letters m).filter (alive m t)).length
   ·exact .inl (still_next hm (h2 e))
   ·exact .inr (by omega)
theorem still_at {m : List (List Int)} (hm : mor m) : still m m.length := by
 rcases still_or hm m.length with h | h
 ·exact h
 ·intro x hx ha
  have : x ∈ (letters m).filter (alive m m.length) := List.mem_filter.2 ⟨hx, ha⟩
  have := List.length_pos_of_mem this
  omega
theorem alive_next {m : List (List Int)} (hm : mor m) {x : Int} (hx : 0 ≤ x ∧ x < (m.length : Int)) (h : alive m m.length x = true) : ∃ y ∈ rd_L2 m x, alive m m.length y = true := by
 have h2 := still_at hm x (mem_letters hx) h
 unfold alive at h2
 rw [List.any_eq_true] at h2
 exact h2
theorem l4Has_l0 (l : List Int) (x : Int) (hn : l.length ≤ 1048576) (d : Nat) : ∀ i : Nat, i + d = l.length → Tot (fun k => spec_l4Has.l0 k l x (i : Int)) (fun _ => True) := by
 induction d with
 | zero =>
  intro i hi
  refine tot_succ ?_
  simp only [spec_l4Has.l0]
  exact tot_neg (by omega) (tot_some trivial)
 | succ d ih =>
  intro i hi
  refine tot_succ ?_
  simp only [spec_l4Has.l0, wr1 (show (0 : Int) ≤ (i : Int) by omega) (by omega)]
  exact tot_pos (by omega) (tot_pos (by omega) (tot_ite (fun _ => tot_some trivial) (fun _ => ih (i + 1) (by omega))))
theorem grow_l2 (m : List (List Int)) (hm : mor m) (rest : List Int) (hrest : ∀ x ∈ rest, 0 ≤ x ∧ x < (m.length : Int)) (n : Int) (i : Nat) (hi : i < rest.length) (hrl : rest.length ≤ 100000) {Q : Bool → Prop}
  (H : ∀ next : List Int, next.length ≤ 8 * (i + 1) → (∀ y ∈ next, ∃ x ∈ rest, y ∈ rd_L2 m x) → Tot (fun k => spec_IsGrowing.l1 k rest n next ((i + 1 : Nat) : Int) m) Q) (d : Nat) :
  ∀ (j : Nat) (next : List Int), j + d = (rd_L2 m (rd rest (i : Int))).length → next.length ≤ 8 * i + j → (∀ y ∈ next, ∃ x ∈ rest, y ∈ rd_L2 m x) → Tot (fun k => spec_IsGrowing.l2 k rest n next (i : Int) (j : Int) m) Q := by
 have hx := hrest _ (rd_mem hi)
 obtain ⟨a, ha⟩ := Int.eq_ofNat_of_zero_le hx.1
 have hrow := hm.2 _ (rdLL_mem (l := m) (i := a) (by omega))
 rw [← ha] at hrow
 induction d with
 | zero =>
  intro j next hj hl hn
  refine tot_succ ?_
  simp only [spec_IsGrowing.l2, wr1 (show (0 : Int) ≤ (i : Int) by omega) (by omega)]
  exact tot_pos (by omega) (tot_pos (by omega) (tot_pos hx.1 (tot_pos hx.2 (tot_neg (by omega) (H next (by omega) hn)))))
 | succ d ih =>
  intro j next hj hl hn
  refine tot_succ ?_
  simp only [spec_IsGrowing.l2, spec_l4Has.f, wr1 (show (0 : Int) ≤ (j : Int) by omega) (by omega)]
  refine tot_pos (by omega) (tot_pos (by omega) (tot_pos hx.1 (tot_pos hx.2 (tot_pos (by omega) (tot_pos (by omega) (tot_bind (l4Has_l0 next _ (by omega) next.length 0 (by omega)) (fun t _ => ?_)))))))
  refine tot_ite (fun _ => ih (j + 1) next (by omega) (by omega) hn) (fun _ => tot_pos (by omega) (ih (j + 1) _ (by omega) (by simp; omega) (fun y hy => ?_)))
  rcases List.mem_append.1 hy with hy | hy
  ·exact hn y hy
  ·have e : y = rd (rd_L2 m (rd rest (i : Int))) (j : Int) := by simpa using hy
   exact ⟨_, rd_mem hi, by rw [e]; exact rd_mem (by omega)⟩
theorem grow_l1 (m : List (List Int)) (hm : mor m) (rest : List Int) (hrest : ∀ x ∈ rest, 0 ≤ x ∧ x < (m.length : Int)) (n : Int) (hrl : rest.length ≤ 100000) {Q : Bool → Prop}
  (H : ∀ next : List Int, next.length ≤ 8 * rest.length → (∀ y ∈ next, ∃ x ∈ rest, y ∈ rd_L2 m x) → Tot (fun k => spec_IsGrowing.l0 k next (wrap64 (n + 1)) m) Q) (d : Nat) :
  ∀ (i : Nat) (next : List Int), i + d = rest.length → next.length ≤ 8 * i → (∀ y ∈ next, ∃ x ∈ rest, y ∈ rd_L2 m x) → Tot (fun k => spec_IsGrowing.l1 k rest n next (i : Int) m) Q := by
 induction d with
 | zero =>
  intro i next hi hl hn
  refine tot_succ ?_
  simp only [spec_IsGrowing.l1]
  exact tot_neg (by omega) (H next (by omega) hn)
 | succ d ih =>
  intro i next hi hl hn
  refine tot_succ ?_
  simp only [spec_IsGrowing.l1]
  exact tot_pos (by omega) (grow_l2 m hm rest hrest n i (by omega) hrl (fun nx hl2 hn2 => ih (i + 1) nx (by omega) (by omega) hn2) (rd_L2 m (rd rest (i : Int))).length 0 next (by omega) (by omega) hn)
theorem grow_l0 (m : List (List Int)) (hm : mor m) (h3 : m.length ≤ 3) (d : Nat) : ∀ (n : Nat) (rest : List Int), n + d = m.length + 1 → rest.length ≤ 8 ^ (n + 1) → (∀ x ∈ rest, 0 ≤ x ∧ x < (m.length : Int)) →
  Tot (fun k => spec_IsGrowing.l0 k rest (n : Int) m) (fun g => g = true → ∃ x ∈ rest, alive m d x = true) := by
 induction d with
 | zero =>
  intro n rest hn hl hr
  refine tot_succ ?_
  simp only [spec_IsGrowing.l0]
  refine tot_neg (by omega) (tot_some (fun h => ?_))
  have h := of_decide_eq_true h
  exact ⟨rd rest ((0 : Nat) : Int), rd_mem (by omega), rfl⟩
 | succ d ih =>
  intro n rest hn hl hr
  have h8 : 8 ^ (n + 1) ≤ 32768 := Nat.pow_le_pow_right (by omega) (show n + 1 ≤ 5 by omega)
  refine tot_succ ?_
  simp only [spec_IsGrowing.l0]
  refine tot_pos (by omega) (grow_l1 m hm rest hr (n : Int) (by omega) (fun next hl2 hn2 => ?_) rest.length 0 [] (by omega) (by simp) (by simp))
  rw [wr1 (by omega) (by omega)]
  refine tot_mono (ih (n + 1) next (by omega) (by rw [Nat.pow_succ]; omega) (fun y hy => ?_)) (fun g hg e => ?_)
  ·obtain ⟨x, hx, hy⟩ := hn2 y hy
   obtain ⟨a, ha⟩ := Int.eq_ofNat_of_zero_le (hr x hx).1
   rw [ha] at hy
   have := hr x hx
   exact (hm.2 _ (rdLL_mem (l := m) (i := a) (by omega))).2 y hy
  ·obtain ⟨y, hy, ha⟩ := hg e
   obtain ⟨x, hx, hxy⟩ := hn2 y hy
   exact ⟨x, hx, by unfold alive; rw [List.any_eq_true]; exact ⟨y, hxy, ha⟩⟩
def grows (m : List (List Int)) : Prop := mor m ∧ 2 ≤ (rd_L2 m 0).length ∧ rd (rd_L2 m 0) 0 = 0 ∧ ∃ x ∈ (rd_L2 m 0).drop 1, alive m m.length x = true
theorem grow_tot (m : List (List Int)) (hf : morFit m) : Tot (fun k => spec_IsGrowing.f k m 0) (fun g => g = true → grows m) := by
 have no : Tot (fun k => spec_IsGrowing.j0 k 0 true m) (fun g => g = true → grows m) := by
  refine tot_succ ?_
  simp only [spec_IsGrowing.j0]
  exact tot_pos trivial (tot_some (fun e => by cases e))
 have h3 := hf.1
 simp only [spec_IsGrowing.f]
 refine tot_bind (isMor_tot m hf) (fun t ht => tot_ite (fun h => ?_) (fun _ => no))
 have hm := ht h
 have h1 := hm.1
 refine tot_neg (by omega) (tot_neg (by omega) (tot_pos (by omega) (tot_pos (by omega) (tot_ite (fun _ => no) (fun h2 => tot_pos (by omega) ?_)))))
 have hr0 : rd_L2 m 0 = rd_L2 m ((0 : Nat) : Int) := rfl
 have hrow := hm.2 _ (rdLL_mem (l := m) (i := 0) (by omega))
 by_cases hz : rd (rd_L2 m 0) 0 = 0
 ·rw [hz]
  refine tot_succ ?_
  simp only [spec_IsGrowing.j0]
  refine tot_neg (by simp) (tot_pos (by omega) (tot_pos (by omega) (tot_pos (by omega) ?_)))
  refine tot_mono (grow_l0 m hm h3 (m.length + 1) 0 _ (by omega) (by rw [List.length_drop, hr0]; omega) (fun x hx => hrow.2 x (List.mem_of_mem_drop hx))) (fun g hg e => ⟨hm, by omega, hz, ?_⟩)
  obtain ⟨x, hx, ha⟩ := hg e
  exact ⟨x, hx, alive_down m m.length x ha⟩
 ·have : (rd (rd_L2 m 0) 0 != 0) = true := by simpa using hz
  rw [this]; exact no
theorem fixed8_l0 (m : List (List Int)) (hm : mor m) (n : Nat) (hn : n ≤ 256) (d : Nat) : ∀ (i : Nat) (w : List Int), i + d = 256 → (∀ x ∈ w, 0 ≤ x ∧ x < (m.length : Int)) → w.length ≤ 1048576 + 8 * i →
  (∃ j, i ≤ j ∧ j < w.length ∧ alive m m.length (rd w (j : Int)) = true) → Tot (fun k => spec_FixedPrefix.l0 k (n : Int) w (i : Int) m) (fun r => r.1.length ≤ n ∧ ∀ x ∈ r.1, 0 ≤ x ∧ x < (m.length : Int)) := by
 have fin : ∀ w : List Int, (∀ x ∈ w, 0 ≤ x ∧ x < (m.length : Int)) → (n : Int) ≤ (w.length : Int) → Tot (fun _ => if (0 : Int) ≤ (n : Int) then (if (n : Int) ≤ (w.length : Int) then (some (w.take (n : Int).toNat, true)) else none) else none) (fun r => r.1.length ≤ n ∧ ∀ x ∈ r.1, 0 ≤ x ∧ x < (m.length : Int)) := by
  intro w hw hl
  refine tot_pos (by omega) (tot_pos hl (tot_some ⟨?_, fun x hx => hw x (List.mem_of_mem_take hx)⟩))
  simp only [List.length_take]; omega
 induction d with
 | zero =>
  intro i w hi hw hl hj
  refine tot_succ ?_
  simp only [spec_FixedPrefix.l0]
  refine tot_neg (by omega) (tot_ite (fun _ => tot_some ⟨by simp, by simp⟩) (fun h => fin w hw (by omega)))
 | succ d ih =>
  intro i w hi hw hl hj
  obtain ⟨j, hj1, hj2, hj3⟩ := hj
  have hx := hw _ (rd_mem (show i < w.length by omega))
  obtain ⟨a, ha⟩ := Int.eq_ofNat_of_zero_le hx.1
  have hrow := hm.2 _ (rdLL_mem (l := m) (i := a) (by omega))
  rw [← ha] at hrow
  refine tot_succ ?_
  simp only [spec_FixedPrefix.l0, wr1 (show (0 : Int) ≤ (i : Int) by omega) (by omega)]
  refine tot_ite (fun h1 => tot_ite (fun h2 => ?_) (fun h2 => fin w hw (by omega))) (fun h1 => tot_ite (fun _ => tot_some ⟨by simp, by simp⟩) (fun h => fin w hw (by omega)))
  refine tot_pos (by omega) (tot_pos (by omega) (tot_pos hx.1 (tot_pos hx.2 (tot_pos (by omega) (ih (i + 1) _ (by omega) (fun x hxm => ?_) (by simp only [List.length_append]; omega) ?_)))))
  ·rcases List.mem_append.1 hxm with hxm | hxm
   ·exact hw x hxm
   ·exact hrow.2 x hxm
  ·by_cases e : j = i
   ·subst e
    obtain ⟨y, hy, hya⟩ := alive_next hm hx hj3
    obtain ⟨q, hq, rfl⟩ := List.getElem_of_mem hy
    refine ⟨w.length + q, by omega, by rw [List.length_append]; omega, ?_⟩
    rw [rd_get (by rw [List.length_append]; omega), List.getElem_append_right (by omega)]
    simpa using hya
   ·refine ⟨j, by omega, by rw [List.length_append]; omega, ?_⟩
    rw [rd_get (by rw [List.length_append]; omega), List.getElem_append_left hj2, ← rd_get hj2]
    exact hj3
theorem fixedPrefix_tot (m : List (List Int)) (hf : morFit m) (n : Nat) (hn : n ≤ 256) : Tot (fun k => spec_FixedPrefix.f k m 0 (n : Int)) (fun r => r.1.length ≤ n ∧ ∀ x ∈ r.1, 0 ≤ x ∧ x < 3) := by
 have no : Tot (fun k => spec_FixedPrefix.j0 k 0 (n : Int) true m) (fun r => r.1.length ≤ n ∧ ∀ x ∈ r.1, 0 ≤ x ∧ x < 3) := by
  refine tot_succ ?_
  simp only [spec_FixedPrefix.j0]
  exact tot_pos trivial (tot_some ⟨by simp, by simp⟩)
 simp only [spec_FixedPrefix.f, l1In_eq, Option.bind_some]
 refine tot_bind (grow_tot m hf) (fun g hg => tot_ite (fun h => ?_) (fun _ => no))
 obtain ⟨hm, h2, h0, x, hx, ha⟩ := hg h
 have h1 := hm.1
 have h3 := hf.1
 rw [decide_eq_true (show (0 : Int) ≤ (n : Int) ∧ (n : Int) ≤ 256 by omega)]
 refine tot_succ ?_
 simp only [spec_FixedPrefix.j0, Option.bind_some, List.nil_append, List.length_nil]
 have hrow := hm.2 _ (rdLL_mem (l := m) (i := 0) (by omega))
 have hr0 : rd_L2 m ((0 : Nat) : Int) = rd_L2 m 0 := rfl
 rw [hr0] at hrow
 refine tot_neg (by simp) (tot_pos (by omega) (tot_pos (by omega) (tot_pos (by omega) ?_)))
 refine tot_mono (fixed8_l0 m hm n hn 255 1 _ (by omega) hrow.2 (by omega) ?_) (fun r hr => ⟨hr.1, fun x hx => by have := hr.2 x hx; omega⟩)
 obtain ⟨q, hq, rfl⟩ := List.getElem_of_mem hx
 rw [List.length_drop] at hq
 refine ⟨q + 1, by omega, by omega, ?_⟩
 rw [rd_get (by omega)]
 simpa using ha
theorem l7m_l1 (b : List Int) (n : Nat) (hn : 1 ≤ n ∧ n ≤ 3) (rows : List (List Int)) (st : Nat) (hr : rows.length ≤ 3) (stp : Int) (hst : wrap64 (stp + 1) = (st : Int)) {Q : List (List Int) × Int × Int → Prop}
  (H : ∀ (row : List Int) (i h : Int), row.length ≤ 3 → curOk b i → Tot (fun k => spec_l7Morphism.l0 k (n : Int) (st : Int) b i h (rows ++ [row])) Q) (d : Nat) :
  ∀ (row : List Int) (q : Nat) (i h : Int), q = d → row.length + q ≤ 3 → curOk b i → Tot (fun k => spec_l7Morphism.l1 k (n : Int) stp row (q : Int) b i h rows) Q := by
 induction d with
 | zero =>
  intro row q i h hq hl hc
  subst hq
  refine tot_succ ?_
  simp only [spec_l7Morphism.l1, hst]
  exact tot_neg (by omega) (tot_pos (by omega) (H row i h (by omega) hc))
 | succ d ih =>
  intro row q i h hq hl hc
  subst hq
  have hs : wrap64 (((d + 1 : Nat) : Int) - 1) = (d : Int) := by rw [wr (by omega) (by omega)]; omega
  refine tot_succ ?_
  simp only [spec_l7Morphism.l1, hs]
  refine tot_pos (by omega) (tot_bind0 (l1Below_tot b i h n hc (by omega) (by omega)) (fun r hr2 => ?_))
  exact tot_pos (by omega) (ih _ d _ _ rfl (by simp; omega) hr2.2)
theorem l7m_l0 (b : List Int) (n : Nat) (hn : 1 ≤ n ∧ n ≤ 3) (d : Nat) : ∀ (st : Nat) (rows : List (List Int)) (i h : Int), st + d = n → rows.length = st → (∀ r ∈ rows, r.length ≤ 3) → curOk b i →
  Tot (fun k => spec_l7Morphism.l0 k (n : Int) (st : Int) b i h rows) (fun r => morFit r.1 ∧ curOk b r.2.1) := by
 induction d with
 | zero =>
  intro st rows i h hs hl hr hc
  have hfit : morFit rows := ⟨by omega, fun r h => by have := hr r h; omega⟩
  refine tot_succ ?_
  simp only [spec_l7Morphism.l0]
  refine tot_neg (by omega) (tot_bind0 (l1Once_tot b i h 12 hc (by omega) (by omega)) (fun r1 hr1 => tot_ite (fun _ => ?_) (fun _ => tot_some ⟨hfit, hr1⟩)))
  refine tot_pos (by omega) (tot_bind0 (l1PickInt_tot b _ _ _ hr1 (by decide) (by decide)) (fun r2 hr2 => ?_))
  have hr0 : rd_L2 rows ((0 : Nat) : Int) = rd_L2 rows 0 := rfl
  have h0 := hr _ (rdLL_mem (l := rows) (i := 0) (by omega))
  rw [hr0] at h0
  refine tot_pos (by omega) (tot_some ⟨⟨by simp only [List.length_set]; omega, fun r h => ?_⟩, hr2.2⟩)
  rcases List.mem_or_eq_of_mem_set h with h | h
  ·exact hfit.2 r h
  ·subst h; simp only [List.length_append, List.length_cons, List.length_nil]; omega
 | succ d ih =>
  intro st rows i h hs hl hr hc
  refine tot_succ ?_
  simp only [spec_l7Morphism.l0]
  refine tot_pos (by omega) (tot_bind0 (l1Below_tot b i h 4 hc (by omega) (by omega)) (fun r1 hr1 => ?_))
  obtain ⟨q, hq⟩ := Int.eq_ofNat_of_zero_le hr1.1.1
  rw [hq]
  refine l7m_l1 b n hn rows (st + 1) (by omega) (st : Int) (by rw [wr1 (by omega) (by omega)]; omega) (fun row i h hrow hc => ?_) q [] q _ _ rfl (by simp; omega) hr1.2
  refine ih (st + 1) _ i h (by omega) (by simp; omega) (fun r hrm => ?_) hc
  rcases List.mem_append.1 hrm with hrm | hrm
  ·exact hr r hrm
  ·have : r = row := by simpa using hrm
   rw [this]; exact hrow
theorem l7Morphism_tot (b : List Int) (i h : Int) (hc : curOk b i) : Tot (fun k => spec_l7Morphism.f k b i h) (fun r => morFit r.1 ∧ curOk b r.2.1) := by
 simp only [spec_l7Morphism.f]
 refine tot_bind0 (l1Below_tot b i h 5 hc (by omega) (by omega)) (fun r1 hr1 => ?_)
 have lit : ∀ m : List (List Int), (m.length ≤ 3 ∧ ∀ r ∈ m, r.length ≤ 4) → Tot (fun _ => some (m, r1.2.1, r1.2.2)) (fun r => morFit r.1 ∧ curOk b r.2.1) := fun m hm => tot_some ⟨hm, hr1.2⟩
 refine tot_ite (fun _ => lit _ (by decide)) (fun _ => tot_ite (fun _ => lit _ (by decide)) (fun _ => tot_ite (fun _ => lit _ (by decide)) (fun _ => ?_)))
 refine tot_bind0 (l1Below_tot b _ _ 3 hr1.2 (by omega) (by omega)) (fun r2 hr2 => ?_)
 obtain ⟨x, hx⟩ := Int.eq_ofNat_of_zero_le hr2.1.1
 rw [wr (by omega) (by omega), show 1 + r2.1 = ((1 + x : Nat) : Int) by omega]
 exact l7m_l0 b (1 + x) (by omega) (1 + x) 0 [] _ _ (by omega) rfl (by simp) hr2.2
def l8W (y : List Int) : Prop := y.length ≤ 49 ∧ ∀ x ∈ y, 0 ≤ x ∧ x ≤ 3
theorem l8Long_tot (b : List Int) (i h : Int) (hc : curOk b i) : Tot (fun k => spec_l8Long.f k b i h) (fun r => l8W r.1 ∧ curOk b r.2.1) := by
 simp only [spec_l8Long.f]
 refine tot_bind0 (l1Below_tot b i h 4 hc (by omega) (by omega)) (fun r1 hr1 => ?_)
 refine tot_ite (fun _ => ?_) (fun _ => tot_ite (fun _ => ?_) (fun _ => tot_ite (fun _ => ?_) (fun _ => ?_)))
 ·refine tot_bind (l3Draw_tot b _ _ hr1.2) (fun r2 hr2 => tot_bind0 (l1Below_tot b _ _ 40 hr2.2 (by omega) (by omega)) (fun r3 hr3 => ?_))
  obtain ⟨x, hx⟩ := Int.eq_ofNat_of_zero_le hr3.1.1
  rw [wr (by omega) (by omega), show 10 + r3.1 = ((10 + x : Nat) : Int) by omega]
  exact tot_bind (prefixOf_tot _ _ _ hr2.1 (10 + x) (by omega)) (fun y hy => tot_some ⟨⟨by have := hy.1; simp only; omega, hy.2⟩, hr3.2⟩)
 ·refine tot_bind (l7Morphism_tot b _ _ hr1.2) (fun r2 hr2 => tot_bind0 (l1Below_tot b _ _ 40 hr2.2 (by omega) (by omega)) (fun r3 hr3 => ?_))
  obtain ⟨x, hx⟩ := Int.eq_ofNat_of_zero_le hr3.1.1
  rw [wr (by omega) (by omega), show 10 + r3.1 = ((10 + x : Nat) : Int) by omega]
  exact tot_bind (fixedPrefix_tot r2.1 hr2.1 (10 + x) (by omega)) (fun y hy => tot_some ⟨⟨by have := hy.1; simp only; omega, fun z hz => by have := hy.2 z hz; omega⟩, hr3.2⟩)
 ·refine tot_bind (l7Word8_tot 2 (by omega) b _ _ hr1.2) (fun r2 hr2 => ?_)
  have hl := hr2.1.1
  simp only [Option.bind_some, List.nil_append, List.length_nil]
  refine tot_pos (by omega) (tot_pos (by omega) (tot_pos (by simp only [List.length_append]; omega) (tot_some ⟨⟨by simp only [List.length_append]; omega, fun x hx => ?_⟩, hr2.2⟩)))
  simp only [List.mem_append, or_self] at hx
  have := hr2.1.2 x hx
  omega
 ·refine tot_bind (l7Word8_tot 3 (by omega) b _ _ hr1.2) (fun r2 hr2 => ?_)
  exact tot_some ⟨⟨by have := hr2.1.1; simp only; omega, fun x hx => by have := hr2.1.2 x hx; omega⟩, hr2.2⟩
def l8A (y : List Int) : Prop := l8W y ∨ ∃ z x, l8W z ∧ (x = -1 ∨ x = 16) ∧ y = z ++ [x]
theorem l8Any_tot (b : List Int) (i h : Int) (hc : curOk b i) : Tot (fun k => spec_l8Any.f k b i h) (fun r => l8A r.1 ∧ curOk b r.2.1) := by
 simp only [spec_l8Any.f]
 refine tot_bind (l8Long_tot b i h hc) (fun r1 hr1 => tot_bind0 (l1Once_tot b _ _ 16 hr1.2 (by omega) (by omega)) (fun r2 hr2 => tot_ite (fun _ => ?_) (fun _ => tot_some ⟨.inl hr1.1, hr2⟩)))
 refine tot_bind0 (l1PickInt_tot b _ _ _ hr2 (by decide) (by decide)) (fun r3 hr3 => ?_)
 have hl := hr1.1.1
 refine tot_pos (by omega) (tot_some ⟨.inr ⟨_, _, hr1.1, ?_, rfl⟩, hr3.2⟩)
 simpa using hr3.1
theorem l8A_len {y : List Int} (h : l8A y) : y.length ≤ 50 := by
 rcases h with h | ⟨z, x, h, _, rfl⟩
 ·have := h.1; omega
 ·have := h.1; simp only [List.length_append, List.length_cons, List.length_nil]; omega
def mwLet (p q s : Int) (i : Int) : Int := wrap64 ((wrap64 (Int.tdiv (wrap64 ((wrap64 ((wrap64 (i + 1)) * p)) + s)) q)) - (wrap64 (Int.tdiv (wrap64 ((wrap64 (i * p)) + s)) q)))
def mwRaw (p q s : Int) (n : Nat) : List Int := (List.range n).map fun (i : Nat) => mwLet p q s (i : Int)
theorem mwRaw_succ (p q s : Int) (i : Nat) : mwRaw p q s (i + 1) = mwRaw p q s i ++ [mwLet p q s (i : Int)] := by
 simp [mwRaw, List.range_succ]
theorem mwRaw_length (p q s : Int) (i : Nat) : (mwRaw p q s i).length = i := by simp [mwRaw]
def mwOk (p q s n : Int) : Bool := decide ((1 ≤ q ∧ q ≤ 1000) ∧ (0 ≤ p ∧ p ≤ q) ∧ (0 ≤ s ∧ s < q) ∧ (0 ≤ n ∧ n ≤ 256))
def mwRes (p q s n : Int) : List Int × Bool := if mwOk p q s n = true then (mwRaw p q s n.toNat, true) else ([], false)
theorem spec_MechanicalWord_l0 (p q s : Int) (n : Nat) (hq : q ≠ 0) (hn : n ≤ 1000) (d : Nat) : ∀ (i : Nat), i + d = n →
  Ev (fun k => spec_MechanicalWord.l0 k p q s (n : Int) (mwRaw p q s i) (i : Int)) (mwRaw p q s n, true) := by
 induction d with
 | zero =>
  intro i hi
  refine ev_succ ?_
  simp only [spec_MechanicalWord.l0]
  refine ev_neg (by omega) (ev_some ?_)
  rw [show i = n by omega]
 | succ d ih =>
  intro i hi
  have := ih (i + 1) (by omega)
  rw [mwRaw_succ] at this
  refine ev_succ ?_
  simp only [spec_MechanicalWord.l0]
  refine ev_pos (by omega) (ev_neg hq (ev_pos (by rw [mwRaw_length]; omega) ?_))
  rw [wr1 (show (0 : Int) ≤ (i : Int) by omega) (by omega)]
  simp only [mwLet, wr1 (show (0 : Int) ≤ (i : Int) by omega) (show (i : Int) ≤ 4611686018427387904 by omega)] at this
  exact this
theorem spec_MechanicalWord_ev (p q s n : Int) (hp : -9223372036854775808 ≤ q) : Ev (fun k => spec_MechanicalWord.f k p q s n) (mwRes p q s n) := by
 simp only [spec_MechanicalWord.f, l1In_eq, Option.bind_some]
 have no : mwOk p q s n = false → Ev (fun k => spec_MechanicalWord.j0 k p q s n true) (mwRes p q s n) := by
  intro h
  refine ev_succ ?_
  simp only [spec_MechanicalWord.j0]
  exact ev_pos trivial (ev_some (by simp [mwRes, h]))
 by_cases h1 : 1 ≤ q ∧ q ≤ 1000
 ·refine ev_pos (by simpa using h1) ?_
  by_cases h2 : 0 ≤ p ∧ p ≤ q
  ·refine ev_pos (by simpa using h2) ?_
   rw [wr (by omega) (by omega)]
   by_cases h3 : 0 ≤ s ∧ s ≤ q - 1
   ·refine ev_pos (by simpa using h3) ?_
    by_cases h4 : 0 ≤ n ∧ n ≤ 256
    ·rw [decide_eq_true h4]
     refine ev_succ ?_
     simp only [spec_MechanicalWord.j0]
     refine ev_neg (by simp) ?_
     obtain ⟨m, rfl⟩ := Int.eq_ofNat_of_zero_le h4.1
     have := spec_MechanicalWord_l0 p q s m (by omega) (by omega) m 0 (by omega)
     refine ev_eq this ?_
     rw [mwRes, if_pos (by simp only [mwOk, decide_eq_true_eq]; omega)]; simp
    ·rw [decide_eq_false h4]
     exact no (by simp only [mwOk, decide_eq_false_iff_not]; omega)
   ·refine ev_neg (by simpa using h3) (no (by simp only [mwOk, decide_eq_false_iff_not]; omega))
  ·refine ev_neg (by simpa using h2) (no (by simp only [mwOk, decide_eq_false_iff_not]; omega))
 ·refine ev_neg (by simpa using h1) (no (by simp only [mwOk, decide_eq_false_iff_not]; omega))
theorem mwRes_length (p q s n : Int) : (mwRes p q s n).1.length ≤ 256 := by
 unfold mwRes
 split
 ·rename_i h
  simp only [mwOk, decide_eq_true_eq] at h
  rw [mwRaw_length]; omega
 ·simp
def fibLet (n : Int) : Int := if 0 ≤ n ∧ n < 267914296 then (if (zeckRes n).length = 0 then 0 else rd (zeckRes n) (((zeckRes n).length - 1 : Nat) : Int)) else -1
theorem spec_FibonacciLetter_ev (n : Int) : Ev (fun k => spec_FibonacciLetter.f k n) (fibLet n) := by
 simp only [spec_FibonacciLetter.f]
 have no : ¬ (0 ≤ n ∧ n < 267914296) → Ev (fun m => spec_FibonacciLetter.j0 m n true) (fibLet n) := by
  intro h
  refine ev_succ ?_
  simp only [spec_FibonacciLetter.j0]
  exact ev_pos trivial (ev_some (by unfold fibLet; rw [if_neg h]))
 refine ev_ite (fun h => no (by omega)) (fun h => ev_bind (spec_FibonacciNumber_ev 40 (by omega)) ?_)
 rw [fp_40]
 by_cases h2 : n ≥ 267914296
 ·rw [decide_eq_true h2]; exact no (by omega)
 ·rw [decide_eq_false h2]
  refine ev_succ ?_
  simp only [spec_FibonacciLetter.j0]
  refine ev_neg (by simp) (ev_bind (spec_ZeckendorfOf_ev n) ?_)
  have hl := zeckRes_length n
  unfold fibLet
  rw [if_pos (show 0 ≤ n ∧ n < 267914296 from ⟨by omega, by omega⟩)]
  by_cases h3 : (zeckRes n).length = 0
  ·rw [if_pos h3]; exact ev_neg (by omega) (ev_some rfl)
  ·rw [if_neg h3]
   have hw : wrap64 (((zeckRes n).length : Int) - 1) = (((zeckRes n).length - 1 : Nat) : Int) := by rw [wr (by omega) (by omega)]; omega
   rw [hw]
   have hbit := zeckRes_bits n _ (rd_mem (l := zeckRes n) (i := (zeckRes n).length - 1) (by omega))
   refine ev_pos (by omega) (ev_pos (by omega) (ev_pos (by omega) (ev_ite (fun h4 => ev_some h4.symm) (fun h4 => ev_some ?_))))
   rcases hbit with e | e
   ·exact e.symm
   ·exact absurd e h4
def fibL : List Int := [0, 1, 0, 0, 1, 0, 1, 0, 0, 1, 0, 0, 1, 0, 1, 0, 0, 1, 0, 1, 0, 0, 1, 0, 0, 1, 0, 1, 0, 0, 1, 0, 0, 1, 0, 1, 0, 0, 1, 0, 1, 0, 0, 1, 0, 0, 1, 0, 1, 0, 0, 1, 0, 1, 0, 0, 1, 0, 0, 1, 0, 1, 0, 0, 1, 0, 0, 1, 0, 1, 0, 0, 1, 0, 1, 0, 0, 1, 0, 0, 1, 0, 1, 0, 0, 1, 0, 0, 1, 0, 1, 0, 0, 1, 0, 1, 0, 0, 1, 0, 0, 1, 0, 1, 0, 0, 1, 0, 1, 0, 0, 1, 0, 0, 1, 0, 1, 0, 0, 1, 0, 0, 1, 0, 1, 0, 0, 1, 0, 1, 0, 0, 1, 0, 0, 1, 0, 1, 0, 0, 1, 0, 1, 0, 0, 1, 0, 0, 1, 0, 1, 0, 0, 1, 0, 0, 1, 0, 1, 0, 0, 1, 0, 1, 0, 0, 1, 0, 0, 1, 0, 1, 0, 0, 1, 0, 0, 1, 0, 1, 0, 0, 1, 0, 1, 0, 0, 1, 0, 0, 1, 0, 1, 0, 0, 1, 0, 1, 0, 0, 1, 0, 0, 1, 0, 1, 0, 0, 1, 0, 0, 1, 0, 1, 0, 0, 1, 0, 1, 0, 0, 1, 0, 0, 1, 0, 1, 0, 0, 1, 0, 0, 1, 0, 1, 0, 0, 1, 0, 1, 0, 0, 1, 0, 0, 1, 0, 1, 0, 0, 1, 0, 1, 0, 0, 1]
theorem letters_all : ∀ i : Fin 256, fibLet ((i.val : Nat) : Int) = rd fibL ((i.val : Nat) : Int) := by decide +kernel
theorem spec_letter (i : Nat) (h : i < 256) : Ev (fun k => spec_FibonacciLetter.f k (i : Int)) (rd fibL (i : Int)) := ev_eq (spec_FibonacciLetter_ev (i : Int)) (letters_all ⟨i, h⟩)
theorem fibL_len : fibL.length = 256 := by decide +kernel
def fpRes (n : Int) : List Int := if 1 ≤ n ∧ n ≤ 256 then fibL.take n.toNat else []
theorem spec_fp_l0 (n : Nat) (hn : n ≤ 256) (d : Nat) : ∀ (i : Nat), i + d = n → Ev (fun k => spec_FibonacciPrefix.l0 k (n : Int) (fibL.take i) (i : Int)) (fibL.take n) := by
 have hl := fibL_len
 induction d with
 | zero =>
  intro i hi
  obtain rfl : i = n := by omega
  refine ev_succ ?_
  simp only [spec_FibonacciPrefix.l0]
  exact ev_neg (by omega) (ev_some rfl)
 | succ d ih =>
  intro i hi
  refine ev_succ ?_
  simp only [spec_FibonacciPrefix.l0]
  rw [wr1 (by omega) (by omega), show ((i : Int) + 1) = ((i + 1 : Nat) : Int) by omega]
  refine ev_pos (by omega) (ev_pos (by omega) (ev_bind (spec_letter i (by omega)) (ev_pos (by simp; omega) ?_)))
  have : fibL.take i ++ [rd fibL (i : Int)] = fibL.take (i + 1) := by rw [rd_get (by omega), List.take_append_getElem (by omega)]
  rw [this]
  exact ih (i + 1) (by omega)
theorem spec_FibonacciPrefix_ev (n : Int) : Ev (fun k => spec_FibonacciPrefix.f k n) (fpRes n) := by
 simp only [spec_FibonacciPrefix.f]
 unfold fpRes
 by_cases h : 1 ≤ n ∧ n ≤ 256
 ·rw [if_pos h]
  obtain ⟨m, rfl⟩ := Int.eq_ofNat_of_zero_le (show 0 ≤ n by omega)
  exact spec_fp_l0 m (by omega) m 0 (by omega)
 ·rw [if_neg h]
  refine ev_succ ?_
  simp only [spec_FibonacciPrefix.l0]
  exact ev_ite (fun h1 => ev_neg (by omega) (ev_some rfl)) (fun h1 => ev_some rfl)
theorem fpRes_length (n : Int) : (fpRes n).length ≤ 256 := by
 unfold fpRes
 split
 ·have := fibL_len; simp [this]; omega
 ·simp
theorem l26Word_tot (b : List Int) (i h : Int) (hc : curOk b i) : Tot (fun k => spec_l26Word.f k b i h) (fun r => r.1.length ≤ 256 ∧ curOk b r.2.1) := by
 simp only [spec_l26Word.f]
 refine tot_bind0 (l1Below_tot b i h 4 hc (by omega) (by omega)) (fun r1 hr1 => tot_ite (fun _ => ?_) (fun _ => tot_ite (fun _ => ?_) (fun _ => ?_)))
 ·refine tot_bind0 (l1Below_tot b _ _ 6 hr1.2 (by omega) (by omega)) (fun r2 hr2 => tot_bind0 (l1Below_tot b _ _ 8 hr2.2 (by omega) (by omega)) (fun r3 hr3 => tot_bind0 (l1Below_tot b _ _ 20 hr3.2 (by omega) (by omega)) (fun r4 hr4 => ?_)))
  refine tot_bind (tot_of (spec_MechanicalWord_ev _ (wrap64 (6 + r3.1)) 0 (wrap64 (10 + r4.1)) (by rw [wr (by omega) (by omega)]; omega)) rfl) (fun y hy => tot_some ⟨?_, hr4.2⟩)
  subst hy
  exact mwRes_length _ _ _ _
 ·refine tot_bind0 (l1Below_tot b _ _ 60 hr1.2 (by omega) (by omega)) (fun r2 hr2 => ?_)
  refine tot_bind (tot_of (spec_FibonacciPrefix_ev r2.1) rfl) (fun y hy => tot_some ⟨?_, hr2.2⟩)
  subst hy
  exact fpRes_length _
 ·refine tot_bind (l8Any_tot b _ _ hr1.2) (fun y hy => tot_some ⟨?_, hy.2⟩)
  have := l8A_len hy.1
  simp only
  omega
theorem drawUb_tot (l : List Int) (hn : l.length ≤ 1048576) : Tot (fun k => spec_DrawUnbalancedPair.f k l) (fun r => r.length ≤ 256) := by
 simp only [spec_DrawUnbalancedPair.f]
 refine tot_bind (l1New_tot l hn) (fun r hr => ?_)
 rw [hr.1, hr.2]
 exact tot_bind (l26Word_tot l 0 _ (curAt0 hn)) (fun y hy => tot_some hy.1)
theorem drawRich_tot (l : List Int) (hn : l.length ≤ 1048576) : Tot (fun k => spec_DrawRichnessOf.f k l) (fun r => r.length ≤ 256) := by
 simp only [spec_DrawRichnessOf.f]
 refine tot_bind (l1New_tot l hn) (fun r hr => ?_)
 rw [hr.1, hr.2]
 exact tot_bind (l26Word_tot l 0 _ (curAt0 hn)) (fun y hy => tot_some hy.1)
theorem drawSt_tot (l : List Int) (hn : l.length ≤ 1048576) : Tot (fun k => spec_DrawIsSturmianPrefix.f k l) (fun r => r.1.length ≤ 256) := by
 simp only [spec_DrawIsSturmianPrefix.f]
 refine tot_bind (l1New_tot l hn) (fun r hr => ?_)
 rw [hr.1, hr.2]
 exact tot_bind (l26Word_tot l 0 _ (curAt0 hn)) (fun y hy => tot_bind0 (l1Below_tot l _ _ 8 hy.2 (by omega) (by omega)) (fun z hz => tot_some hy.1))
theorem drawCB_tot (l : List Int) (hn : l.length ≤ 1048576) : Tot (fun k => spec_DrawCountBalanced.f k l) (fun r => -1 ≤ r ∧ r ≤ 9) := by
 simp only [spec_DrawCountBalanced.f]
 refine tot_bind (l1New_tot l hn) (fun r hr => ?_)
 rw [hr.1, hr.2]
 refine tot_bind0 (l1Below_tot l 0 _ 11 (curAt0 hn) (by omega) (by omega)) (fun z hz => tot_some ?_)
 rw [wr (by omega) (by omega)]
 omega
theorem spec_l3Same_l0 (a b : List Int) (hl : a.length = b.length) (hn : a.length ≤ 4611686018427387904) (d : Nat) : ∀ (i : Nat), i + d = a.length → Ev (fun k => spec_l3Same.l0 k a b (i : Int)) (decide (a.drop i = b.drop i)) := by
 induction d with
 | zero =>
  intro i hi
  refine ev_succ ?_
  simp only [spec_l3Same.l0]
  refine ev_neg (by omega) (ev_some ?_)
  rw [List.drop_of_length_le (by omega), List.drop_of_length_le (by omega)]; rfl
 | succ d ih =>
  intro i hi
  refine ev_succ ?_
  simp only [spec_l3Same.l0, wr1 (show (0 : Int) ≤ (i : Int) by omega) (by omega)]
  rw [drop_rd (by omega : i < a.length), drop_rd (by omega : i < b.length)]
  refine ev_pos (by omega) (ev_pos (by omega) (ev_pos (by omega) (ev_ite (fun h => ev_eq (ih (i + 1) (by omega)) ?_) (fun h => ev_some ?_))))
  ·rw [h]; simp
  ·simp [h]
theorem spec_l3Same_ev (a b : List Int) (hn : a.length ≤ 4611686018427387904) : Ev (fun k => spec_l3Same.f k a b) (decide (a = b)) := by
 simp only [spec_l3Same.f]
 refine ev_ite (fun h => ev_eq (spec_l3Same_l0 a b (by omega) hn a.length 0 (by omega)) (by simp)) (fun h => ev_some ?_)
 symm
 simp only [decide_eq_false_iff_not]
 rintro rfl
 exact h rfl
theorem occ_l0 (w u : List Int) (hw : w.length ≤ 1000000) (hu : u.length ≤ 1000000) (d : Nat) : ∀ (i : Nat) (acc : List Int), i + d = w.length + 1 → acc.length ≤ i → (0 < acc.length ∨ ∃ p, i ≤ p ∧ p + u.length ≤ w.length ∧ (w.take (p + u.length)).drop p = u) →
  Tot (fun k => spec_OccurrencesOf.l0 k w u acc (i : Int)) (fun r => 0 < r.length) := by
 induction d with
 | zero =>
  intro i acc hi ha h
  refine tot_succ ?_
  simp only [spec_OccurrencesOf.l0]
  rw [wr (n := (i : Int) + (u.length : Int)) (by omega) (by omega)]
  rcases h with h | ⟨p, h1, h2, _⟩
  ·exact tot_neg (by omega) (tot_some h)
  ·omega
 | succ d ih =>
  intro i acc hi ha h
  refine tot_succ ?_
  simp only [spec_OccurrencesOf.l0]
  have hs : wrap64 ((i : Int) + 1) = ((i + 1 : Nat) : Int) := by rw [wr1 (by omega) (by omega)]; rfl
  rw [wr (n := (i : Int) + (u.length : Int)) (by omega) (by omega), hs]
  refine tot_ite (fun h3 => ?_) (fun h3 => ?_)
  ·refine tot_pos (by omega) (tot_pos (by omega) ?_)
   have e : (w.take ((i : Int) + (u.length : Int)).toNat).drop ((i : Int)).toNat = (w.take (i + u.length)).drop i := by
    rw [show ((i : Int) + (u.length : Int)).toNat = i + u.length by omega, Int.toNat_natCast]
   rw [e]
   refine tot_bind (tot_of (spec_l3Same_ev _ u (by simp only [List.length_drop, List.length_take]; omega)) rfl) (fun b hb => ?_)
   refine tot_ite (fun h4 => ?_) (fun h4 => ?_)
   ·exact tot_pos (by omega) (ih (i + 1) _ (by omega) (by simp; omega) (.inl (by simp)))
   ·refine ih (i + 1) acc (by omega) (by omega) ?_
    rcases h with h | ⟨p, h1, h2, h5⟩
    ·exact .inl h
    ·refine .inr ⟨p, ?_, h2, h5⟩
     rcases Nat.lt_or_ge i p with h6 | h6
     ·exact h6
     ·obtain rfl : p = i := by omega
      rw [h5] at hb
      subst hb
      simp at h4
  ·rcases h with h | ⟨p, h1, h2, h5⟩
   ·exact tot_some h
   ·omega
theorem spec_IsFactor_true (w u : List Int) (p : Nat) (hw : w.length ≤ 1000000) (hp : p + u.length ≤ w.length) (h : (w.take (p + u.length)).drop p = u) : Ev (fun k => spec_IsFactor.f k w u) true := by
 obtain ⟨r, hr, h0⟩ := occ_l0 w u hw (by omega) (w.length + 1) 0 [] (by omega) (by simp) (.inr ⟨p, by omega, hp, h⟩)
 simp only [spec_IsFactor.f, spec_OccurrencesOf.f]
 exact ev_bind hr (ev_some (decide_eq_true (by omega)))
theorem laws_gcd_l0 (n : Nat) : ∀ (a b : Nat), b ≤ n → Ev (fun k => laws_gcd.l0 k (a : Int) (b : Int)) ((Nat.gcd a b : Nat) : Int) := by
 induction n with
 | zero =>
  intro a b h
  obtain rfl : b = 0 := by omega
  refine ev_succ ?_
  simp only [laws_gcd.l0]
  exact ev_neg (by omega) (ev_some (by simp))
 | succ n ih =>
  intro a b h
  refine ev_succ ?_
  simp only [laws_gcd.l0, tmod_nat]
  refine ev_ite (fun h0 => ?_) (fun h0 => ev_some ?_)
  ·refine ev_neg (by omega) ?_
   rw [gcd_step a b (by omega)]
   exact ih b (a % b) (by have := Nat.mod_lt a (show b > 0 by omega); omega)
  ·obtain rfl : b = 0 := by omega
   simp
theorem laws_gcd_ev (a b : Nat) : Ev (fun k => laws_gcd.f k (a : Int) (b : Int)) ((Nat.gcd a b : Nat) : Int) := by
 simp only [laws_gcd.f]; exact laws_gcd_l0 b a b (Nat.le_refl _)
def pre1 (w : List Int) (i : Nat) : Int := cnt 1 (w.take i)
theorem cnt_append (a : Int) (u v : List Int) : cnt a (u ++ v) = cnt a u + cnt a v := by
 induction u with
 | nil => simp [cnt]
 | cons x u ih => simp only [List.cons_append, cnt, ih]; omega
theorem pre1_succ (w : List Int) (i : Nat) (h : i < w.length) : pre1 w (i + 1) = pre1 w i + (if rd w (i : Int) = 1 then 1 else 0) := by
 unfold pre1
 rw [List.take_succ_eq_append_getElem h, cnt_append, ← rd_get h]
 simp [cnt]
theorem pre1_bd (w : List Int) (i : Nat) : 0 ≤ pre1 w i ∧ pre1 w i ≤ i := by
 have := cnt_bd 1 (w.take i)
 have h2 : (w.take i).length ≤ i := List.length_take_le _ _
 unfold pre1
 omega
def dif (w : List Int) (n i j : Nat) : Int := pre1 w (i + n) - pre1 w i - pre1 w (j + n) + pre1 w j
def bad (w : List Int) (n i j : Nat) : Bool := decide (dif w n i j > 1 ∨ dif w n i j < -1)
def sJ (w : List Int) (n i : Nat) : Nat → Nat → Option (Nat × Nat × Nat)
 | 0, _ => none
 | r + 1, j => if bad w n i j = true then some (n, i, j) else sJ w n i r (j + 1)
def sI (w : List Int) (n : Nat) : Nat → Nat → Option (Nat × Nat × Nat)
 | 0, _ => none
 | r + 1, i => match sJ w n i (w.length - n - i) (i + 1) with
  | some t => some t
  | none => sI w n r (i + 1)
def sN (w : List Int) : Nat → Nat → Option (Nat × Nat × Nat)
 | 0, _ => none
 | r + 1, n => match sI w n (w.length - n + 1) 0 with
  | some t => some t
  | none => sN w r (n + 1)
def ubFind (w : List Int) : Option (Nat × Nat × Nat) := sN w (w.length - 1) 1
def ubTell : Option (Nat × Nat × Nat) → Int × Int × Int × Bool
 | none => (0, 0, 0, false)
 | some (n, i, j) => ((n : Int), (i : Int), (j : Int), true)
def sums (w : List Int) (m : Nat) : List Int := (List.range m).map fun (i : Nat) => pre1 w i
theorem sums_length (w : List Int) (m : Nat) : (sums w m).length = m := by simp [sums]
theorem sums_succ (w : List Int) (m : Nat) : sums w (m + 1) = sums w m ++ [pre1 w m] := by simp [sums, List.range_succ]
theorem sums_rd (w : List Int) (m i : Nat) (h : i < m) : rd (sums w m) (i : Int) = pre1 w i := by
 rw [rd_get (by rw [sums_length]; exact h)]; simp [sums]
theorem unb_l0 (w : List Int) (hn : w.length ≤ 1000000) (R : Int × Int × Int × Bool) (H : Ev (fun k => impl_unbalanced.l1 k w (sums w (w.length + 1)) 1) R) (d : Nat) : ∀ i : Nat, i + d = w.length →
  Ev (fun k => impl_unbalanced.l0 k w (sums w (i + 1)) w (w.length : Int) (i : Int)) R := by
 induction d with
 | zero =>
  intro i hi
  refine ev_succ ?_
  simp only [impl_unbalanced.l0]
  refine ev_neg (by omega) ?_
  rw [show i = w.length by omega]; exact H
 | succ d ih =>
  intro i hi
  have hb := pre1_bd w i
  refine ev_succ ?_
  simp only [impl_unbalanced.l0, oneIf_eq, Option.bind_some, beq_iff_eq, sums_length]
  rw [show (((i + 1 : Nat) : Int) - 1) = (i : Int) by omega, wr_nat (by omega), wr1 (by omega) (by omega), sums_rd w (i + 1) i (by omega)]
  refine ev_pos (by omega) (ev_pos (by omega) (ev_pos (by omega) (ev_pos (by omega) (ev_pos (by omega) (ev_pos (by omega) ?_)))))
  rw [wr (n := pre1 w i + _) (by split <;> omega) (by split <;> omega), ← pre1_succ w i (by omega), ← sums_succ]
  exact ih (i + 1) (by omega)
theorem unb_l3 (w : List Int) (n i : Nat) (hn : w.length ≤ 1000000) (h1 : 1 ≤ n) (hi : i + n ≤ w.length) (R : Int × Int × Int × Bool) (d : Nat) :
  ∀ j : Nat, j + n + d = w.length + 1 → (sJ w n i d j = none → Ev (fun k => impl_unbalanced.l2 k w (sums w (w.length + 1)) (n : Int) ((i + 1 : Nat) : Int)) R) → (∀ t, sJ w n i d j = some t → ubTell (some t) = R) →
  Ev (fun k => impl_unbalanced.l3 k w (sums w (w.length + 1)) (n : Int) (i : Int) (j : Int)) R := by
 induction d with
 | zero =>
  intro j hj H ht
  refine ev_succ ?_
  simp only [impl_unbalanced.l3]
  rw [wr (n := (j : Int) + n) (by omega) (by omega), wr1 (show (0 : Int) ≤ (i : Int) by omega) (by omega)]
  exact ev_neg (by omega) (H rfl)
 | succ d ih =>
  intro j hj H ht
  refine ev_succ ?_
  simp only [impl_unbalanced.l3, sums_length]
  have b1 := pre1_bd w (i + n)
  have b2 := pre1_bd w i
  have b3 := pre1_bd w (j + n)
  have b4 := pre1_bd w j
  rw [show (j : Int) + (n : Int) = ((j + n : Nat) : Int) by omega, show (i : Int) + (n : Int) = ((i + n : Nat) : Int) by omega, wr_nat (show j + n ≤ 4611686018427387904 by omega), wr_nat (show i + n ≤ 4611686018427387904 by omega)]
  refine ev_pos (by omega) (ev_pos (by omega) (ev_pos (by omega) (ev_pos (by omega) (ev_pos (by omega) (ev_pos (by omega) (ev_pos (by omega) (ev_pos (by omega) (ev_pos (by omega) ?_))))))))
  rw [sums_rd _ _ (i + n) (by omega), sums_rd _ _ i (by omega), sums_rd _ _ (j + n) (by omega), sums_rd _ _ j (by omega)]
  rw [wr (n := pre1 w (i + n) - pre1 w i) (by omega) (by omega), wr (n := pre1 w (i + n) - pre1 w i - pre1 w (j + n)) (by omega) (by omega), wr (n := pre1 w (i + n) - pre1 w i - pre1 w (j + n) + pre1 w j) (by omega) (by omega), wr1 (show (0 : Int) ≤ (j : Int) by omega) (by omega)]
  have hd : dif w n i j = pre1 w (i + n) - pre1 w i - pre1 w (j + n) + pre1 w j := rfl
  rw [← hd]
  simp only [sJ] at ht H
  refine ev_ite (fun h => ev_some ?_) (fun h => ev_ite (fun h' => ev_some ?_) (fun h' => ?_))
  ·rw [if_pos (by simp [bad]; omega)] at ht
   exact ht _ rfl
  ·rw [if_pos (by simp [bad]; omega)] at ht
   exact ht _ rfl
  ·rw [if_neg (by simp [bad]; omega)] at ht H
   exact ih (j + 1) (by omega) H ht
theorem unb_l2 (w : List Int) (n : Nat) (hn : w.length ≤ 1000000) (h1 : 1 ≤ n) (R : Int × Int × Int × Bool) (d : Nat) :
  ∀ i : Nat, i + n + d = w.length + 1 → (sI w n d i = none → Ev (fun k => impl_unbalanced.l1 k w (sums w (w.length + 1)) ((n + 1 : Nat) : Int)) R) → (∀ t, sI w n d i = some t → ubTell (some t) = R) →
  Ev (fun k => impl_unbalanced.l2 k w (sums w (w.length + 1)) (n : Int) (i : Int)) R := by
 induction d with
 | zero =>
  intro i hi H ht
  refine ev_succ ?_
  simp only [impl_unbalanced.l2]
  rw [wr (n := (i : Int) + n) (by omega) (by omega), wr1 (show (0 : Int) ≤ (n : Int) by omega) (by omega)]
  exact ev_neg (by omega) (H rfl)
 | succ d ih =>
  intro i hi H ht
  refine ev_succ ?_
  simp only [impl_unbalanced.l2]
  rw [wr (n := (i : Int) + n) (by omega) (by omega), wr1 (show (0 : Int) ≤ (i : Int) by omega) (by omega)]
  refine ev_pos (by omega) ?_
  simp only [sI] at ht H
  refine unb_l3 w n i hn h1 (by omega) R (w.length - n - i) (i + 1) (by omega) (fun h => ?_) (fun t h => ?_)
  ·rw [h] at ht H
   exact ih (i + 1) (by omega) H ht
  ·rw [h] at ht
   exact ht _ rfl
theorem unb_l1 (w : List Int) (hn : w.length ≤ 1000000) (d : Nat) :
  ∀ n : Nat, 1 ≤ n → n + d = max w.length 1 → Ev (fun k => impl_unbalanced.l1 k w (sums w (w.length + 1)) (n : Int)) (ubTell (sN w d n)) := by
 induction d with
 | zero =>
  intro n h1 hd
  refine ev_succ ?_
  simp only [impl_unbalanced.l1]
  exact ev_neg (by omega) (ev_some rfl)
 | succ d ih =>
  intro n h1 hd
  refine ev_succ ?_
  simp only [impl_unbalanced.l1]
  refine ev_pos (by omega) ?_
  simp only [sN]
  have := ih (n + 1) (by omega) (by omega)
  refine unb_l2 w n hn h1 _ (w.length - n + 1) 0 (by omega) (fun h => ?_) (fun t h => ?_)
  ·rw [h]; exact this
  ·rw [h]
theorem impl_unbalanced_ev (w : List Int) (hn : w.length ≤ 1000000) : Ev (fun k => impl_unbalanced.f k w) (ubTell (ubFind w)) := by
 simp only [impl_unbalanced.f]
 refine unb_l0 w hn _ ?_ w.length 0 (by omega)
 exact unb_l1 w hn (w.length - 1) 1 (by omega) (by omega)
def isBal (w : List Int) : Bool := decide (w.length ≤ 64) && areL 2 w && (ubFind w).isNone
theorem ubTell_found (o : Option (Nat × Nat × Nat)) : (ubTell o).2.2.2 = o.isSome := by cases o <;> rfl
theorem impl_IsBalanced_ev (w : List Int) (hn : w.length ≤ 4611686018427387904) : Ev (fun k => impl_IsBalanced.f k w) (isBal w) := by
 simp only [impl_IsBalanced.f]
 unfold isBal
 refine ev_ite (fun h => ev_some ?_) (fun h => ?_)
 ·rw [decide_eq_false (by omega)]; rfl
 ·rw [decide_eq_true (by omega)]
  refine ev_bind (impl_areLetters_ev w 2 hn) (ev_ite (fun h' => ?_) (fun h' => ev_some ?_))
  ·refine ev_bind (impl_unbalanced_ev w (by omega)) (ev_some ?_)
   rw [ubTell_found, h']
   cases ubFind w <;> rfl
  ·rw [Bool.not_eq_true] at h'; rw [h']; rfl
theorem cnt_part (w : List Int) (i n : Nat) : cnt 1 ((w.take (i + n)).drop i) = pre1 w (i + n) - pre1 w i := by
 have h : w.take (i + n) = w.take i ++ (w.take (i + n)).drop i := by
  conv => lhs; rw [← List.take_append_drop i (w.take (i + n))]
  rw [List.take_take, Nat.min_eq_left (by omega)]
 unfold pre1
 conv => rhs; rw [h]
 rw [cnt_append]; omega
def part (w : List Int) (i n : Nat) : List Int := (w.take (i + n)).drop i
def ubPair (w : List Int) : List Int × List Int × Bool := if w.length ≤ 64 then (match ubFind w with
 | none => ([], [], false)
 | some (n, i, j) => (part w i n, part w j n, true)) else ([], [], false)
theorem part_length (w : List Int) (i n : Nat) : (part w i n).length ≤ w.length := by
 simp only [part, List.length_drop, List.length_take]; omega
def ubOf (w : List Int) : Option (Nat × Nat × Nat) → List Int × List Int × Bool
 | none => ([], [], false)
 | some (n, i, j) => (part w i n, part w j n, true)
theorem spec_ub_l2 (w : List Int) (n i : Nat) (hn : w.length ≤ 64) (h1 : 1 ≤ n) (hi : i + n ≤ w.length) (R : List Int × List Int × Bool) (d : Nat) :
  ∀ j : Nat, j + n + d = w.length + 1 → (sJ w n i d j = none → Ev (fun k => spec_UnbalancedPair.l1 k w (n : Int) ((i + 1 : Nat) : Int)) R) → (∀ t, sJ w n i d j = some t → ubOf w (some t) = R) →
  Ev (fun k => spec_UnbalancedPair.l2 k w (n : Int) (i : Int) (j : Int)) R := by
 induction d with
 | zero =>
  intro j hj H ht
  refine ev_succ ?_
  simp only [spec_UnbalancedPair.l2]
  rw [wr (n := (j : Int) + n) (by omega) (by omega), wr1 (show (0 : Int) ≤ (i : Int) by omega) (by omega)]
  exact ev_neg (by omega) (H rfl)
 | succ d ih =>
  intro j hj H ht
  refine ev_succ ?_
  simp only [spec_UnbalancedPair.l2, Option.bind_some, List.nil_append, List.length_nil]
  have b1 := pre1_bd w (i + n)
  have b2 := pre1_bd w i
  have b3 := pre1_bd w (j + n)
  have b4 := pre1_bd w j
  rw [show (j : Int) + (n : Int) = ((j + n : Nat) : Int) by omega, show (i : Int) + (n : Int) = ((i + n : Nat) : Int) by omega, wr_nat (show j + n ≤ 4611686018427387904 by omega), wr_nat (show i + n ≤ 4611686018427387904 by omega)]
  simp only [Int.toNat_natCast]
  have l1 := part_length w i n
  have l2 := part_length w j n
  have c1 := cnt_part w i n
  have c2 := cnt_part w j n
  change cnt 1 (part w i n) = _ at c1
  change cnt 1 (part w j n) = _ at c2
  change Ev (fun k => if ((j + n : Nat) : Int) ≤ (w.length : Int) then (if 0 ≤ (i : Int) then (if (i : Int) ≤ ((i + n : Nat) : Int) then (if ((i + n : Nat) : Int) ≤ (w.length : Int) then ((spec_CountLetters.f k (part w i n) 1).bind fun t109 => (if 0 ≤ (j : Int) then (if (j : Int) ≤ ((j + n : Nat) : Int) then ((spec_CountLetters.f k (part w j n) 1).bind fun t111 => (if (wrap64 (t109 - t111)) > 1 then (if 0 + (part w i n).length < 17592186044416 then (if 0 + (part w j n).length < 17592186044416 then (some (part w i n, part w j n, true)) else (none)) else (none)) else (if (wrap64 (t111 - t109)) > 1 then (if 0 + (part w i n).length < 17592186044416 then (if 0 + (part w j n).length < 17592186044416 then (some (part w i n, part w j n, true)) else (none)) else (none)) else (spec_UnbalancedPair.l2 k w (n : Int) (i : Int) (wrap64 ((j : Int) + 1)))))) else (none)) else (none))) else (none)) else (none)) else (none)) else (spec_UnbalancedPair.l1 k w (n : Int) (wrap64 ((i : Int) + 1)))) R
  refine ev_pos (by omega) (ev_pos (by omega) (ev_pos (by omega) (ev_pos (by omega) (ev_bind (spec_CountLetters_ev (part w i n) 1 (by omega)) (ev_pos (by omega) (ev_pos (by omega) (ev_bind (spec_CountLetters_ev (part w j n) 1 (by omega)) ?_)))))))
  rw [c1, c2, wr (n := pre1 w (i + n) - pre1 w i - (pre1 w (j + n) - pre1 w j)) (by omega) (by omega), wr (n := pre1 w (j + n) - pre1 w j - (pre1 w (i + n) - pre1 w i)) (by omega) (by omega), wr1 (show (0 : Int) ≤ (j : Int) by omega) (by omega)]
  have hd : dif w n i j = pre1 w (i + n) - pre1 w i - pre1 w (j + n) + pre1 w j := rfl
  simp only [sJ] at ht H
  refine ev_ite (fun h => ?_) (fun h => ev_ite (fun h' => ?_) (fun h' => ?_))
  ·refine ev_pos (by omega) (ev_pos (by omega) (ev_some ?_))
   rw [if_pos (by simp [bad]; omega)] at ht
   exact ht _ rfl
  ·refine ev_pos (by omega) (ev_pos (by omega) (ev_some ?_))
   rw [if_pos (by simp [bad]; omega)] at ht
   exact ht _ rfl
  ·rw [if_neg (by simp [bad]; omega)] at ht H
   exact ih (j + 1) (by omega) H ht
theorem spec_ub_l1 (w : List Int) (n : Nat) (hn : w.length ≤ 64) (h1 : 1 ≤ n) (R : List Int × List Int × Bool) (d : Nat) :
  ∀ i : Nat, i + n + d = w.length + 1 → (sI w n d i = none → Ev (fun k => spec_UnbalancedPair.l0 k w ((n + 1 : Nat) : Int)) R) → (∀ t, sI w n d i = some t → ubOf w (some t) = R) →
  Ev (fun k => spec_UnbalancedPair.l1 k w (n : Int) (i : Int)) R := by
 induction d with
 | zero =>
  intro i hi H ht
  refine ev_succ ?_
  simp only [spec_UnbalancedPair.l1]
  rw [wr (n := (i : Int) + n) (by omega) (by omega), wr1 (show (0 : Int) ≤ (n : Int) by omega) (by omega)]
  exact ev_neg (by omega) (H rfl)
 | succ d ih =>
  intro i hi H ht
  refine ev_succ ?_
  simp only [spec_UnbalancedPair.l1]
  rw [wr (n := (i : Int) + n) (by omega) (by omega), wr1 (show (0 : Int) ≤ (i : Int) by omega) (by omega)]
  refine ev_pos (by omega) ?_
  simp only [sI] at ht H
  refine spec_ub_l2 w n i hn h1 (by omega) R (w.length - n - i) (i + 1) (by omega) (fun h => ?_) (fun t h => ?_)
  ·rw [h] at ht H
   exact ih (i + 1) (by omega) H ht
  ·rw [h] at ht
   exact ht _ rfl
theorem spec_ub_l0 (w : List Int) (hn : w.length ≤ 64) (d : Nat) :
  ∀ n : Nat, 1 ≤ n → n + d = w.length + 1 → Ev (fun k => spec_UnbalancedPair.l0 k w (n : Int)) (ubOf w (sN w d n)) := by
 induction d with
 | zero =>
  intro n h1 hd
  refine ev_succ ?_
  simp only [spec_UnbalancedPair.l0]
  refine ev_neg (by omega) (ev_succ ?_)
  simp only [spec_UnbalancedPair.j1]
  exact ev_neg (by simp) (ev_some rfl)
 | succ d ih =>
  intro n h1 hd
  refine ev_succ ?_
  simp only [spec_UnbalancedPair.l0]
  refine ev_pos (by omega) (ev_succ ?_)
  simp only [spec_UnbalancedPair.j1]
  refine ev_pos (by simp; omega) ?_
  simp only [sN]
  have := ih (n + 1) (by omega) (by omega)
  refine spec_ub_l1 w n hn h1 _ (w.length - n + 1) 0 (by omega) (fun h => ?_) (fun t h => ?_)
  ·rw [h]; exact this
  ·rw [h]
theorem sN_last (w : List Int) (r : Nat) : ∀ n, n + r = w.length → 1 ≤ n → sN w (r + 1) n = sN w r n := by
 induction r with
 | zero =>
  intro n hn h1
  simp only [sN]
  rw [show w.length - n + 1 = 0 + 1 by omega]
  simp only [sI]
  rw [show w.length - n - 0 = 0 by omega]
  rfl
 | succ r ih =>
  intro n hn h1
  have := ih (n + 1) (by omega) (by omega)
  conv => lhs; unfold sN
  conv => rhs; unfold sN
  rw [this]
theorem ubFind_all (w : List Int) : sN w w.length 1 = ubFind w := by
 unfold ubFind
 cases hl : w.length with
 | zero => rfl
 | succ m =>
  rw [Nat.succ_sub_one]
  exact sN_last w m 1 (by omega) (by omega)
theorem ubPair_of (w : List Int) (h : w.length ≤ 64) : ubPair w = ubOf w (ubFind w) := by
 unfold ubPair
 rw [if_pos h]
 cases ubFind w <;> rfl
theorem spec_UnbalancedPair_ev (w : List Int) (hn : w.length ≤ 4611686018427387904) : Ev (fun k => spec_UnbalancedPair.f k w) (ubPair w) := by
 simp only [spec_UnbalancedPair.f]
 by_cases h : w.length ≤ 64
 ·rw [ubPair_of w h, ← ubFind_all]
  exact spec_ub_l0 w h w.length 1 (by omega) (by omega)
 ·unfold ubPair
  rw [if_neg h]
  refine ev_succ ?_
  simp only [spec_UnbalancedPair.l0]
  rw [decide_eq_false (by omega)]
  refine ev_pos (by omega) (ev_succ ?_)
  simp only [spec_UnbalancedPair.j1]
  exact ev_neg (by simp) (ev_some rfl)
theorem sJ_in (w : List Int) (n i : Nat) (r : Nat) : ∀ j t, j + n + r ≤ w.length + 1 → sJ w n i r j = some t → ∃ j', t = (n, i, j') ∧ j' + n ≤ w.length := by
 induction r with
 | zero => intro j t _ h; cases h
 | succ r ih =>
  intro j t hj h
  simp only [sJ] at h
  split at h
  ·exact ⟨j, (Option.some.inj h).symm, by omega⟩
  ·exact ih (j + 1) t (by omega) h
theorem sI_in (w : List Int) (n : Nat) (h1 : 1 ≤ n) (r : Nat) : ∀ i t, i + n + r ≤ w.length + 1 → sI w n r i = some t → ∃ i' j', t = (n, i', j') ∧ i' + n ≤ w.length ∧ j' + n ≤ w.length := by
 induction r with
 | zero => intro i t _ h; cases h
 | succ r ih =>
  intro i t hi h
  simp only [sI] at h
  split at h
  ·rename_i t' ht
   obtain ⟨j', rfl, hj⟩ := sJ_in w n i _ _ _ (by omega) ht
   exact ⟨i, j', (Option.some.inj h).symm, by omega, hj⟩
  ·exact ih (i + 1) t (by omega) h
theorem sN_in (w : List Int) (r : Nat) : ∀ n t, 1 ≤ n → n + r ≤ max w.length 1 → sN w r n = some t → ∃ n' i' j', t = (n', i', j') ∧ 1 ≤ n' ∧ i' + n' ≤ w.length ∧ j' + n' ≤ w.length := by
 induction r with
 | zero => intro n t _ _ h; cases h
 | succ r ih =>
  intro n t h1 hn h
  simp only [sN] at h
  split at h
  ·rename_i t' ht
   obtain ⟨i', j', rfl, hi, hj⟩ := sI_in w n h1 _ _ _ (by omega) ht
   exact ⟨n, i', j', (Option.some.inj h).symm, h1, hi, hj⟩
  ·exact ih (n + 1) t (by omega) (by omega) h
theorem ubFind_in (w : List Int) (t : Nat × Nat × Nat) (h : ubFind w = some t) : 1 ≤ t.1 ∧ t.2.1 + t.1 ≤ w.length ∧ t.2.2 + t.1 ≤ w.length := by
 obtain ⟨n, i, j, rfl, h1, h2, h3⟩ := sN_in w _ 1 t (by omega) (by omega) h
 exact ⟨h1, h2, h3⟩
theorem impl_UnbalancedPair_ev (w : List Int) (hn : w.length ≤ 4611686018427387904) : Ev (fun k => impl_UnbalancedPair.f k w) (ubPair w) := by
 simp only [impl_UnbalancedPair.f, Option.bind_some, List.nil_append]
 refine ev_ite (fun h => ev_some ?_) (fun h => ?_)
 ·unfold ubPair; rw [if_neg (by omega)]
 ·rw [ubPair_of w (by omega)]
  refine ev_bind (impl_unbalanced_ev w (by omega)) ?_
  cases hf : ubFind w with
  | none => exact ev_neg (by simp [ubTell]) (ev_some rfl)
  | some t =>
   obtain ⟨h1, h2, h3⟩ := ubFind_in w t hf
   obtain ⟨n, i, j⟩ := t
   simp only at h1 h2 h3
   have l1 := part_length w i n
   have l2 := part_length w j n
   have e1 : wrap64 ((j : Int) + (n : Int)) = ((j + n : Nat) : Int) := by rw [show (j : Int) + (n : Int) = ((j + n : Nat) : Int) by omega, wr_nat (by omega)]
   have e2 : wrap64 ((i : Int) + (n : Int)) = ((i + n : Nat) : Int) := by rw [show (i : Int) + (n : Int) = ((i + n : Nat) : Int) by omega, wr_nat (by omega)]
   simp only [ubTell, ubOf, e1, e2, Int.toNat_natCast]
   refine ev_pos trivial (ev_pos (by omega) (ev_pos (by omega) (ev_pos (by omega) (ev_pos ?_ (ev_pos (by omega) (ev_pos (by omega) (ev_pos (by omega) (ev_pos ?_ (ev_some rfl)))))))))
   ·exact Nat.lt_of_le_of_lt (show ([] : List Int).length + (part w i n).length ≤ 64 by simp only [List.length_nil]; omega) (by omega)
   ·exact Nat.lt_of_le_of_lt (show ([] : List Int).length + (part w j n).length ≤ 64 by simp only [List.length_nil]; omega) (by omega)
theorem ubPair_length (w : List Int) (hn : w.length ≤ 1048576) : (ubPair w).1.length ≤ 1048576 ∧ (ubPair w).2.1.length ≤ 1048576 := by
 by_cases h : w.length ≤ 64
 ·rw [ubPair_of w h]
  cases ubFind w with
  | none => simp [ubOf]
  | some t =>
   obtain ⟨n, i, j⟩ := t
   have l1 := part_length w i n
   have l2 := part_length w j n
   simp only [ubOf]; omega
 ·unfold ubPair; rw [if_neg h]; simp
theorem spec_IsBalanced_ev (w : List Int) (hn : w.length ≤ 4611686018427387904) : Ev (fun k => spec_IsBalanced.f k w) (isBal w) := by
 simp only [spec_IsBalanced.f]
 unfold isBal
 refine ev_bind (spec_UnbalancedPair_ev w hn) (ev_bind (spec_IsWord_ev w 2 hn) (ev_ite (fun h => ?_) (fun h => ev_some ?_)))
 ·simp only [Bool.and_eq_true] at h
  refine ev_ite (fun h6 => ev_some ?_) (fun h6 => ev_some ?_)
  ·rw [ubPair_of w (by omega), decide_eq_true (by omega), h.1.1]
   cases ubFind w <;> rfl
  ·rw [decide_eq_false (by omega)]; rfl
 ·by_cases h6 : w.length ≤ 64
  ·rw [decide_eq_true (show (1 : Int) ≤ 2 ∧ (2 : Int) ≤ 16 by omega), decide_eq_true (show (w.length : Int) ≤ 400 by omega), Bool.and_true, Bool.and_true, Bool.not_eq_true] at h
   rw [h]; simp
  ·rw [decide_eq_false (by omega)]; rfl
def allW : Nat → List (List Int)
 | 0 => [[]]
 | n + 1 => (allW n).flatMap fun w => [w ++ [0], w ++ [1]]
theorem allW_len (n : Nat) : ∀ w ∈ allW n, w.length = n := by
 induction n with
 | zero => intro w h; simp only [allW, List.mem_cons, List.not_mem_nil, or_false] at h; subst h; rfl
 | succ n ih =>
  intro w h
  simp only [allW, List.mem_flatMap, List.mem_cons, List.not_mem_nil, or_false] at h
  obtain ⟨u, hu, hw⟩ := h
  have := ih u hu
  rcases hw with rfl | rfl <;> simp [this]
theorem flat2_len (l : List (List Int)) : (l.flatMap fun w => [w ++ [0], w ++ [1]]).length = 2 * l.length := by
 induction l with
 | nil => rfl
 | cons x l ih => rw [List.flatMap_cons, List.length_append, ih]; simp; omega
theorem allW_card (n : Nat) : (allW n).length = 2 ^ n := by
 induction n with
 | zero => rfl
 | succ n ih => rw [allW, flat2_len, ih, Nat.pow_succ]; omega
theorem rdLL_get {l : List (List Int)} {i : Nat} (h : i < l.length) : rd_L2 l (i : Int) = l[i] := by
 simp [rd_L2, List.getD_eq_getElem?_getD, List.getElem?_eq_getElem h]
theorem aw_l2 (acc : List (List Int)) (w : List Int) (a b : Int) (ws : List (List Int)) (i : Nat) (R : List (List Int)) (hw : w.length ≤ 100) (ha : acc.length ≤ 1000) (hi : i < 1000)
  (H : Ev (fun k => impl_allWords.l1 k 2 (acc ++ [w ++ [0], w ++ [1]]) a b ws (ws.length : Int) ((i + 1 : Nat) : Int)) R) : Ev (fun k => impl_allWords.l2 k 2 acc w a b ws (ws.length : Int) (i : Int) 2 0) R := by
 refine ev_succ ?_
 simp only [impl_allWords.l2, Option.bind_some, List.nil_append]
 refine ev_pos (by omega) (ev_pos (by simp only [List.length_nil]; omega) (ev_pos (by omega) (ev_pos (by omega) ?_)))
 rw [show wrap64 (0 + 1) = 1 by decide +kernel]
 refine ev_succ ?_
 simp only [impl_allWords.l2, Option.bind_some, List.nil_append]
 refine ev_pos (by omega) (ev_pos (by simp only [List.length_nil]; omega) (ev_pos (by omega) (ev_pos (by simp only [List.length_append, List.length_cons, List.length_nil]; omega) ?_)))
 rw [show wrap64 (1 + 1) = 2 by decide +kernel]
 refine ev_succ ?_
 simp only [impl_allWords.l2]
 rw [wr1 (show (0 : Int) ≤ (i : Int) by omega) (by omega)]
 refine ev_neg (by omega) ?_
 rw [List.append_assoc]
 exact H
theorem aw_l1 (a b : Int) (ws : List (List Int)) (hws : ws.length ≤ 256) (hl : ∀ w ∈ ws, w.length ≤ 100) (R : List (List Int))
  (H : Ev (fun k => impl_allWords.l0 k 2 (ws.flatMap fun w => [w ++ [0], w ++ [1]]) a (wrap64 (b + 1))) R) (d : Nat) : ∀ i : Nat, i + d = ws.length →
  Ev (fun k => impl_allWords.l1 k 2 ((ws.take i).flatMap fun w => [w ++ [0], w ++ [1]]) a b ws (ws.length : Int) (i : Int)) R := by
 induction d with
 | zero =>
  intro i hi
  refine ev_succ ?_
  simp only [impl_allWords.l1]
  refine ev_neg (by omega) ?_
  rw [List.take_of_length_le (by omega)]
  exact H
 | succ d ih =>
  intro i hi
  have := ih (i + 1) (by omega)
  refine ev_succ ?_
  simp only [impl_allWords.l1]
  refine ev_pos (by omega) (ev_pos (by omega) (ev_pos (by omega) ?_))
  have hb : (ws.take i).length ≤ 256 := Nat.le_trans (List.length_take_le _ _) (by omega)
  refine aw_l2 _ _ a b ws i R ?_ (by rw [flat2_len]; omega) (by omega) ?_
  ·rw [rdLL_get (by omega)]; exact hl _ (List.getElem_mem _)
  ·rw [List.take_succ_eq_append_getElem (by omega), List.flatMap_append, ← rdLL_get (by omega)] at this
   simpa using this
theorem aw_l0 (n : Nat) (hn : n ≤ 8) (d : Nat) : ∀ i : Nat, i + d = n → Ev (fun k => impl_allWords.l0 k 2 (allW i) (n : Int) (i : Int)) (allW n) := by
 induction d with
 | zero =>
  intro i hi
  refine ev_succ ?_
  simp only [impl_allWords.l0]
  exact ev_neg (by omega) (ev_some (by rw [show i = n by omega]))
 | succ d ih =>
  intro i hi
  have := ih (i + 1) (by omega)
  refine ev_succ ?_
  simp only [impl_allWords.l0]
  refine ev_pos (by omega) ?_
  have hc : (allW i).length ≤ 256 := by rw [allW_card]; exact Nat.pow_le_pow_right (n := 2) (by omega) (show i ≤ 8 by omega)
  refine aw_l1 _ _ (allW i) hc (fun w hw => by rw [allW_len i w hw]; omega) _ ?_ (allW i).length 0 (by omega)
  rw [wr1 (by omega) (by omega)]
  exact this
theorem impl_allWords_ev (n : Nat) (hn : n ≤ 8) : Ev (fun k => impl_allWords.f k 2 (n : Int)) (allW n) := by
 simp only [impl_allWords.f]
 exact aw_l0 n hn n 0 (by omega)
def cntBal : List (List Int) → Int
 | [] => 0
 | w :: l => (if isBal w = true then 1 else 0) + cntBal l
theorem impl_CountBalanced_l0 (ws : List (List Int)) (hws : ws.length ≤ 256) (hl : ∀ w ∈ ws, w.length ≤ 100) (d : Nat) : ∀ (i : Nat) (s : Int), i + d = ws.length → 0 ≤ s → s ≤ i →
  Ev (fun k => impl_CountBalanced.l0 k s ws (ws.length : Int) (i : Int)) (s + cntBal (ws.drop i)) := by
 induction d with
 | zero =>
  intro i s hi h0 h1
  refine ev_succ ?_
  simp only [impl_CountBalanced.l0]
  refine ev_neg (by omega) (ev_some ?_)
  rw [List.drop_of_length_le (by omega)]; simp [cntBal]
 | succ d ih =>
  intro i s hi h0 h1
  refine ev_succ ?_
  simp only [impl_CountBalanced.l0, oneIf_eq]
  rw [rdLL_get (by omega), wr1 (by omega) (by omega), List.drop_eq_getElem_cons (by omega)]
  have := hl _ (List.getElem_mem (show i < ws.length by omega))
  refine ev_pos (by omega) (ev_pos (by omega) (ev_pos (by omega) (ev_bind (impl_IsBalanced_ev _ (by omega)) ?_)))
  simp only [Option.bind_some, cntBal]
  rw [wr (n := s + _) (by split <;> omega) (by split <;> omega), ← Int.add_assoc]
  exact ih (i + 1) _ (by omega) (by split <;> omega) (by split <;> omega)
def cbRes (n : Int) : Int := if 0 ≤ n ∧ n ≤ 8 then cntBal (allW n.toNat) else -1
theorem impl_CountBalanced_ev (n : Int) : Ev (fun k => impl_CountBalanced.f k n) (cbRes n) := by
 simp only [impl_CountBalanced.f]
 unfold cbRes
 have no : ¬ (0 ≤ n ∧ n ≤ 8) → Ev (fun k => impl_CountBalanced.j0 k n true) (if 0 ≤ n ∧ n ≤ 8 then cntBal (allW n.toNat) else -1) := by
  intro h
  refine ev_succ ?_
  simp only [impl_CountBalanced.j0]
  exact ev_pos trivial (ev_some (by rw [if_neg h]))
 refine ev_ite (fun h => no (by omega)) (fun h => ?_)
 by_cases h8 : n > 8
 ·rw [decide_eq_true h8]; exact no (by omega)
 ·rw [decide_eq_false h8, if_pos (by omega)]
  obtain ⟨m, rfl⟩ := Int.eq_ofNat_of_zero_le (show 0 ≤ n by omega)
  rw [Int.toNat_natCast]
  refine ev_succ ?_
  simp only [impl_CountBalanced.j0]
  refine ev_neg (by simp) (ev_bind (impl_allWords_ev m (by omega)) ?_)
  have hc : (allW m).length ≤ 256 := by rw [allW_card]; exact Nat.pow_le_pow_right (n := 2) (by omega) (show m ≤ 8 by omega)
  exact ev_eq (impl_CountBalanced_l0 (allW m) hc (fun w hw => by rw [allW_len m w hw]; omega) (allW m).length 0 0 (by omega) (by omega) (by omega)) (by simp)
def wordOf : Nat → Nat → List Int
 | 0, _ => []
 | n + 1, c => wordOf n (c / 2) ++ [((c % 2 : Nat) : Int)]
theorem wordOf_len (n : Nat) : ∀ c, (wordOf n c).length = n := by
 induction n with
 | zero => intro c; rfl
 | succ n ih => intro c; simp [wordOf, ih]
theorem l11_l0 (n : Nat) (hn : n ≤ 8) : ∀ (i c : Nat) (suf : List Int), i + suf.length = n → c ≤ 1000 → Ev (fun k => spec_l11Word.l0 k 2 (c : Int) (List.replicate i 0 ++ suf) ((i : Int) - 1)) (wordOf i c ++ suf) := by
 intro i
 induction i with
 | zero =>
  intro c suf hi hc
  refine ev_succ ?_
  simp only [spec_l11Word.l0]
  exact ev_neg (by omega) (ev_some (by simp [wordOf]))
 | succ i ih =>
  intro c suf hi hc
  have := ih (c / 2) (((c % 2 : Nat) : Int) :: suf) (by simp; omega) (by omega)
  refine ev_succ ?_
  simp only [spec_l11Word.l0]
  rw [show ((i + 1 : Nat) : Int) - 1 = (i : Int) by omega, show (2 : Int) = ((2 : Nat) : Int) from rfl, tdiv_nat, tmod_nat, wr_nat (by omega), Int.toNat_natCast, wr (n := (i : Int) - 1) (by omega) (by omega)]
  refine ev_pos (by omega) (ev_neg (by omega) (ev_pos (by omega) (ev_pos (by simp; omega) ?_)))
  have e : (List.replicate (i + 1) (0 : Int) ++ suf).set i (((c % 2 : Nat) : Int)) = List.replicate i 0 ++ (((c % 2 : Nat) : Int)) :: suf := by
   rw [List.replicate_succ', List.append_assoc, List.set_append_right _ _ (by simp)]
   simp
  rw [e]
  simpa [wordOf] using this
theorem spec_l11Word_ev (n c : Nat) (hn : n ≤ 8) (hc : c ≤ 1000) : Ev (fun k => spec_l11Word.f k 2 (n : Int) (c : Int)) (wordOf n c) := by
 simp only [spec_l11Word.f]
 rw [Int.toNat_natCast, wr (n := (n : Int) - 1) (by omega) (by omega)]
 refine ev_pos (by omega) (ev_pos (by omega) ?_)
 have := l11_l0 n hn n c [] (by simp) hc
 simpa using this
theorem shl_pow (n : Nat) (hn : n ≤ 8) : shl .i64 1 (n : Int) = ((2 ^ n : Nat) : Int) := by
 have : n = 0 ∨ n = 1 ∨ n = 2 ∨ n = 3 ∨ n = 4 ∨ n = 5 ∨ n = 6 ∨ n = 7 ∨ n = 8 := by omega
 rcases this with rfl | rfl | rfl | rfl | rfl | rfl | rfl | rfl | rfl <;> decide
theorem spec_CountBalanced_l0 (n : Nat) (hn : n ≤ 8) (d : Nat) : ∀ (c : Nat) (s : Int), c + d = 2 ^ n → 0 ≤ s → s ≤ c →
  Ev (fun k => spec_CountBalanced.l0 k (n : Int) s (c : Int)) (s + cntBal ((List.range' c d).map (wordOf n))) := by
 have h2 : 2 ^ n ≤ 256 := Nat.pow_le_pow_right (n := 2) (by omega) (show n ≤ 8 by omega)
 induction d with
 | zero =>
  intro c s hc h0 h1
  refine ev_succ ?_
  simp only [spec_CountBalanced.l0, shl_pow n hn]
  exact ev_pos (by omega) (ev_neg (by omega) (ev_some (by simp [cntBal])))
 | succ d ih =>
  intro c s hc h0 h1
  refine ev_succ ?_
  simp only [spec_CountBalanced.l0, shl_pow n hn, wr1 (show (0 : Int) ≤ (c : Int) by omega) (by omega), wr1 h0 (by omega)]
  refine ev_pos (by omega) (ev_pos (by omega) (ev_bind (spec_l11Word_ev n c hn (by omega)) (ev_bind (spec_IsBalanced_ev _ (by rw [wordOf_len]; omega)) ?_)))
  rw [List.range'_succ, List.map_cons]
  simp only [cntBal]
  refine ev_ite (fun h => ev_eq (ih (c + 1) (s + 1) (by omega) (by omega) (by omega)) ?_) (fun h => ev_eq (ih (c + 1) s (by omega) (by omega) (by omega)) ?_)
  ·rw [if_pos h]; omega
  ·rw [if_neg h]; omega
set_option maxRecDepth 100000 in
theorem allW_words : ∀ n : Nat, n < 9 → (List.range' 0 (2 ^ n)).map (wordOf n) = allW n := by decide +kernel
theorem spec_CountBalanced_ev (n : Int) : Ev (fun k => spec_CountBalanced.f k n) (cbRes n) := by
 simp only [spec_CountBalanced.f, l1In_eq, Option.bind_some]
 unfold cbRes
 by_cases h : 0 ≤ n ∧ n ≤ 8
 ·rw [if_pos h]
  obtain ⟨m, rfl⟩ := Int.eq_ofNat_of_zero_le h.1
  rw [Int.toNat_natCast, ← allW_words m (by omega)]
  refine ev_pos (by simpa using h) (ev_eq (spec_CountBalanced_l0 m (by omega) (2 ^ m) 0 0 (by omega) (by omega) (by omega)) (by simp))
 ·rw [if_neg h]
  exact ev_neg (by simpa using h) (ev_some rfl)
def phiG (i : Nat) : Nat → Nat → Nat
 | 0, _ => 0
 | d + 1, k => (if Nat.gcd i k = 1 then 1 else 0) + phiG i d (k + 1)
def sumG (n : Nat) : Nat → Nat → Nat
 | 0, _ => 0
 | d + 1, i => (n - i + 1) * phiG i i 1 + sumG n d (i + 1)
theorem phiG_le (i : Nat) : ∀ d k, phiG i d k ≤ d
 | 0, _ => Nat.le_refl _
 | d + 1, k => by
  have := phiG_le i d (k + 1)
  rw [phiG]
  split <;> omega
theorem bal_l1 (l : List Int) (n : Nat) (c : Int) (hn : n ≤ 8) (i : Nat) (hi : 1 ≤ i) (hin : i ≤ n) (s : Nat) (hs : s ≤ 1000) (d : Nat) : ∀ (k acc : Nat), k + d = i + 1 → 1 ≤ k → acc < k →
  Ev (fun q => laws_FnBalance.l0 q l (n : Int) c ((s + (n - i + 1) * (acc + phiG i d k) : Nat) : Int) ((i + 1 : Nat) : Int)) true →
  Ev (fun q => laws_FnBalance.l1 q l (n : Int) c (s : Int) (i : Int) (acc : Int) (k : Int)) true := by
 induction d with
 | zero =>
  intro k acc hk h1 ha h
  refine ev_succ ?_
  simp only [laws_FnBalance.l1]
  refine ev_neg (by omega) ?_
  have hm : (n - i + 1) * acc ≤ 8 * 8 := Nat.mul_le_mul (by omega) (by omega)
  rw [phiG, Nat.add_zero] at h
  have e1 : wrap64 ((n : Int) - (i : Int)) = ((n - i : Nat) : Int) := by rw [wr (by omega) (by omega)]; omega
  have e2 : wrap64 ((((n - i : Nat) : Int)) + 1) = ((n - i + 1 : Nat) : Int) := by rw [wr (by omega) (by omega)]; rfl
  have e3 : wrap64 (((n - i + 1 : Nat) : Int) * (acc : Int)) = (((n - i + 1) * acc : Nat) : Int) := by rw [← Int.natCast_mul, wr_nat (by omega)]
  have e4 : wrap64 ((s : Int) + (((n - i + 1) * acc : Nat) : Int)) = ((s + (n - i + 1) * acc : Nat) : Int) := by rw [← Int.natCast_add, wr_nat (by omega)]
  have e5 : wrap64 ((i : Int) + 1) = ((i + 1 : Nat) : Int) := by rw [wr1 (by omega) (by omega)]; rfl
  rw [e1, e2, e3, e4, e5]
  exact h
 | succ d ih =>
  intro k acc hk h1 ha h
  refine ev_succ ?_
  simp only [laws_FnBalance.l1]
  have e5 : wrap64 ((k : Int) + 1) = ((k + 1 : Nat) : Int) := by rw [wr1 (by omega) (by omega)]; rfl
  have e6 : wrap64 ((acc : Int) + 1) = ((acc + 1 : Nat) : Int) := by rw [wr1 (by omega) (by omega)]; rfl
  rw [e5, e6]
  refine ev_pos (by omega) (ev_bind (laws_gcd_ev i k) ?_)
  rw [phiG] at h
  refine ev_ite (fun hg => ?_) (fun hg => ?_)
  ·rw [if_pos (by omega)] at h
   refine ih (k + 1) (acc + 1) (by omega) (by omega) (by omega) ?_
   rw [show acc + 1 + phiG i d (k + 1) = acc + (1 + phiG i d (k + 1)) by omega]
   exact h
  ·rw [if_neg (by omega), Nat.zero_add] at h
   exact ih (k + 1) acc (by omega) (by omega) (by omega) h
theorem bal_l0 (l : List Int) (n : Nat) (c : Nat) (hn : n ≤ 8) (H : Ev (fun q => laws_FnBalance.j4 q l) true) (d : Nat) : ∀ (i s : Nat), i + d = n + 1 → 1 ≤ i → s + 80 * d ≤ 1000 → s + sumG n d i = c →
  Ev (fun q => laws_FnBalance.l0 q l (n : Int) (c : Int) (s : Int) (i : Int)) true := by
 induction d with
 | zero =>
  intro i s hi h1 hs h
  refine ev_succ ?_
  simp only [laws_FnBalance.l0]
  rw [sumG] at h
  exact ev_neg (by omega) (ev_pos (by omega) H)
 | succ d ih =>
  intro i s hi h1 hs h
  refine ev_succ ?_
  simp only [laws_FnBalance.l0]
  refine ev_pos (by omega) ?_
  rw [sumG] at h
  have hp := phiG_le i i 1
  have hm : (n - i + 1) * phiG i i 1 ≤ 8 * 8 := Nat.mul_le_mul (by omega) (by omega)
  refine bal_l1 l n c hn i h1 (by omega) s (by omega) i 1 0 (by omega) (by omega) (by omega) ?_
  rw [Nat.zero_add]
  exact ih (i + 1) _ (by omega) (by omega) (by omega) (by omega)
set_option maxRecDepth 100000 in
theorem bal_counts : ∀ n : Fin 9, cntBal (allW n.val) = ((1 + sumG n.val n.val 1 : Nat) : Int) := by decide +kernel
theorem handCmp_drop_len (a b : List Int) : ∀ i, i ≤ a.length → i ≤ b.length → (i = a.length ∨ i = b.length) → handCmp (a.drop i) (b.drop i) = if a.length < b.length then -1 else if a.length > b.length then 1 else 0 := by
 intro i h1 h2 h3
 rcases Nat.lt_trichotomy a.length b.length with e | e | e
 ·rw [if_pos e]
  rw [List.drop_of_length_le (show a.length ≤ i by omega)]
  rw [drop_rd (show i < b.length by omega)]; rfl
 ·rw [if_neg (by omega), if_neg (by omega), List.drop_of_length_le (by omega), List.drop_of_length_le (by omega)]; rfl
 ·rw [if_neg (by omega), if_pos e]
  rw [List.drop_of_length_le (show b.length ≤ i by omega)]
  rw [drop_rd (show i < a.length by omega)]; rfl
theorem spec_CompareWords_h0 (a b : List Int) (ha : a.length ≤ 4611686018427387904) (d : Nat) : ∀ (i : Nat), i + d = a.length → i ≤ b.length →
  Ev (fun k => spec_CompareWords.l0 k a b (i : Int)) (handCmp (a.drop i) (b.drop i)) := by
 have stop : ∀ i : Nat, i ≤ a.length → i ≤ b.length → (i = a.length ∨ i = b.length) → Ev (fun k => spec_CompareWords.j1 k a b (i : Int) false) (handCmp (a.drop i) (b.drop i)) := by
  intro i h1 h2 h3
  rw [handCmp_drop_len a b i h1 h2 h3]
  refine ev_succ ?_
  simp only [spec_CompareWords.j1]
  refine ev_neg (by simp) ?_
  refine ev_ite (fun h => ev_some ?_) (fun h => ev_ite (fun h' => ev_some ?_) (fun h' => ev_some ?_))
  ·rw [if_pos (by omega)]
  ·rw [if_neg (by omega), if_pos (by omega)]
  ·rw [if_neg (by omega), if_neg (by omega)]
 induction d with
 | zero =>
  intro i hi hb
  refine ev_succ ?_
  simp only [spec_CompareWords.l0]
  exact ev_neg (by omega) (stop i (by omega) hb (.inl (by omega)))
 | succ d ih =>
  intro i hi hb
  refine ev_succ ?_
  simp only [spec_CompareWords.l0]
  refine ev_pos (by omega) ?_
  by_cases h2 : i < b.length
  ·rw [decide_eq_true (show (i : Int) < (b.length : Int) by omega)]
   refine ev_succ ?_
   simp only [spec_CompareWords.j1, wr1 (show (0 : Int) ≤ (i : Int) by omega) (by omega)]
   refine ev_pos trivial (ev_pos (by omega) (ev_pos (by omega) (ev_pos (by omega) ?_)))
   rw [drop_rd (by omega : i < a.length), drop_rd h2]
   refine ev_ite (fun h => ev_some ?_) (fun h => ev_ite (fun h' => ev_some ?_) (fun h' => ev_eq (ih (i + 1) (by omega) (by omega)) ?_))
   ·simp only [handCmp, if_pos h]
   ·simp only [handCmp, if_neg h, if_pos h']
   ·simp only [handCmp, if_neg h, if_neg h']
  ·rw [decide_eq_false (show ¬ (i : Int) < (b.length : Int) by omega)]
   exact stop i (by omega) hb (.inr (by omega))
theorem spec_CompareWords_hev (a b : List Int) (ha : a.length ≤ 4611686018427387904) : Ev (fun k => spec_CompareWords.f k a b) (handCmp a b) := by
 simp only [spec_CompareWords.f]
 exact ev_eq (spec_CompareWords_h0 a b ha a.length 0 (by omega) (by omega)) (by simp)
def l8Go (w : List Int) : Bool → List (List Int) → List (List Int)
 | true, [] => []
 | false, [] => [w]
 | p, e :: l => if handCmp w e = 0 then e :: l8Go w true l else if handCmp w e < 0 then (if p = true then e :: l8Go w p l else w :: e :: l8Go w true l) else e :: l8Go w p l
theorem l8Go_true (w : List Int) : ∀ l, l8Go w true l = l
 | [] => rfl
 | e :: l => by simp [l8Go, l8Go_true w l]
theorem l8Go_false (w : List Int) : ∀ l, l8Go w false l = hins handCmp w l
 | [] => rfl
 | e :: l => by
  have h1 := l8Go_true w l
  have h2 := l8Go_false w l
  simp only [l8Go, hins, h1, h2]
  by_cases c : handCmp w e = 0
  ·simp [c]
  ·by_cases d : handCmp w e < 0
   ·simp [d, c]
   ·simp [d, c]
theorem rdLL_at_ {l : List (List Int)} {i : Nat} (h : i < l.length) : rd_L2 l (i : Int) = l[i] := by
 simp [rd_L2, List.getD_eq_getElem?_getD, List.getElem?_eq_getElem h]
theorem spec_l8Put_l0 (w : List Int) (l : List (List Int)) (hw : w.length ≤ 1000000) (hn : l.length ≤ 1000000) (d : Nat) : ∀ (i : Nat) (acc : List (List Int)) (p : Bool), i + d = l.length → acc.length ≤ 2 * i + 2 →
  Ev (fun k => spec_l8Put.l0 k l w acc p (i : Int)) (acc ++ l8Go w p (l.drop i)) := by
 induction d with
 | zero =>
  intro i acc p hi ha
  refine ev_succ ?_
  simp only [spec_l8Put.l0]
  refine ev_neg (by omega) ?_
  rw [List.drop_of_length_le (by omega)]
  cases p with
  | true => exact ev_pos rfl (ev_some (by simp [l8Go]))
  | false => exact ev_neg (by simp) (ev_bind0 rfl (ev_pos (by simp; omega) (ev_pos (by omega) (ev_some (by simp [l8Go])))))
 | succ d ih =>
  intro i acc p hi ha
  have hs : wrap64 ((i : Int) + 1) = ((i + 1 : Nat) : Int) := by rw [wr1 (by omega) (by omega)]; rfl
  have hd : l.drop i = l[i] :: l.drop (i + 1) := List.drop_eq_getElem_cons (by omega)
  refine ev_succ ?_
  simp only [spec_l8Put.l0, hs]
  refine ev_pos (by omega) (ev_pos (by omega) ?_)
  rw [rdLL_at_ (by omega : i < l.length)]
  refine ev_bind (spec_CompareWords_hev w l[i] (by omega)) ?_
  refine ev_ite (fun h => ?_) (fun h => ?_)
  ·refine ev_neg (by omega) (ev_pos (by omega) ?_)
   refine ev_eq (ih (i + 1) _ true (by omega) (by simp; omega)) ?_
   rw [hd]; cases p <;> simp [l8Go, h]
  ·refine ev_ite (fun h2 => ?_) (fun h2 => ?_)
   ·cases p with
    | true =>
     refine ev_pos rfl (ev_pos (by omega) ?_)
     refine ev_eq (ih (i + 1) _ true (by omega) (by simp; omega)) ?_
     rw [hd]; simp [l8Go, h, h2]
    | false =>
     refine ev_neg (by simp) (ev_bind0 rfl (ev_pos (by simp; omega) (ev_pos (by omega) (ev_bind0 rfl (ev_pos (by simp; omega) ?_)))))
     refine ev_eq (ih (i + 1) _ true (by omega) (by simp; omega)) ?_
     rw [hd]; simp [l8Go, h, h2]
   ·refine ev_pos (by omega) ?_
    refine ev_eq (ih (i + 1) _ p (by omega) (by simp; omega)) ?_
    rw [hd]; cases p <;> simp [l8Go, h, h2]
theorem spec_l8Put_ev (w : List Int) (l : List (List Int)) (hw : w.length ≤ 1000000) (hn : l.length ≤ 1000000) : Ev (fun k => spec_l8Put.f k l w) (hins handCmp w l) := by
 have h := spec_l8Put_l0 w l hw hn l.length 0 [] false (by omega) (by simp)
 refine ev_eq h ?_
 simp [l8Go_false]
theorem hins_len (c : List Int → List Int → Int) (x : List Int) : ∀ l, (hins c x l).length ≤ l.length + 1
 | [] => by simp [hins]
 | y :: l => by
  have := hins_len c x l
  unfold hins
  split
  ·simp
  ·split
   ·simp
   ·simp; omega
def partsFrom (w : List Int) (n : Nat) : Nat → Nat → List (List Int)
 | 0, _ => []
 | d + 1, i => ((w.take (i + n)).drop i) :: partsFrom w n d (i + 1)
theorem partsFrom_len (w : List Int) (n : Nat) : ∀ d i, (partsFrom w n d i).length = d
 | 0, _ => rfl
 | d + 1, i => by simp [partsFrom, partsFrom_len w n d (i + 1)]
theorem partsFrom_row (w : List Int) (n : Nat) : ∀ d i, ∀ x ∈ partsFrom w n d i, x.length ≤ w.length
 | 0, _, x, h => by simp [partsFrom] at h
 | d + 1, i, x, h => by
  rcases List.mem_cons.1 h with rfl | h
  ·simp only [List.length_drop, List.length_take]; omega
  ·exact partsFrom_row w n d (i + 1) x h
theorem foldl_strict {c : List Int → List Int → Int} (h : HOrd c) : ∀ (L acc : List (List Int)), acc.Pairwise (fun a b => c a b < 0) → (L.foldl (fun a x => hins c x a) acc).Pairwise (fun a b => c a b < 0) ∧ ∀ z, z ∈ L.foldl (fun a x => hins c x a) acc ↔ z ∈ L ∨ z ∈ acc
 | [], acc, ha => ⟨ha, fun z => by simp⟩
 | x :: L, acc, ha => by
  have ih := foldl_strict h L (hins c x acc) (hins_strict h x acc ha)
  refine ⟨ih.1, fun z => ?_⟩
  show z ∈ L.foldl _ (hins c x acc) ↔ _
  rw [ih.2 z, hins_mem h, List.mem_cons]
  constructor
  ·rintro (h | h | h)
   ·exact .inl (.inr h)
   ·exact .inl (.inl h)
   ·exact .inr h
  ·rintro ((h | h) | h)
   ·exact .inr (.inl h)
   ·exact .inl h
   ·exact .inr (.inr h)
theorem foldl_uniq {c : List Int → List Int → Int} (h : HOrd c) (L : List (List Int)) : L.foldl (fun a x => hins c x a) [] = huniq c L :=
 hstrict_ext h _ _ (foldl_strict h L [] (by simp)).1 (huniq_strict h L) (fun z => by rw [(foldl_strict h L [] (by simp)).2 z, huniq_mem h]; simp)
theorem areL_mono {l : List Int} {a b : Int} (h : a ≤ b) (hl : areL a l = true) : areL b l = true := by
 simp only [areL, List.all_eq_true, decide_eq_true_eq] at hl ⊢
 intro x hx
 have := hl x hx
 omega
theorem impl_IsWord16_ev (l : List Int) (hl : l.length ≤ 400) : Ev (fun k => impl_IsWord.f k l 16) (areL 16 l) := by
 simp only [impl_IsWord.f]
 exact ev_pos (by omega) (ev_pos (by omega) (ev_pos (by omega) (ev_bind (impl_areLetters_ev l 16 (by omega)) (ev_some rfl))))
theorem impl_isShort_ev (l : List Int) (m : Int) (hl : l.length ≤ 400) (hm : (l.length : Int) ≤ m) : Ev (fun k => impl_isShort.f k l m) (areL 16 l) := by
 simp only [impl_isShort.f]
 exact ev_pos hm (ev_bind (impl_IsWord16_ev l hl) (ev_some rfl))
theorem pal_rev (l : List Int) (h : ∀ t : Nat, t < l.length / 2 → l[t]? = l[l.length - 1 - t]?) : l.reverse = l := by
 apply List.ext_getElem?
 intro t
 by_cases ht : t < l.length
 ·rw [List.getElem?_reverse ht]
  by_cases h1 : t < l.length / 2
  ·exact (h t h1).symm
  ·by_cases h2 : l.length - 1 - t < l.length / 2
   ·rw [h _ h2, show l.length - 1 - (l.length - 1 - t) = t by omega]
   ·rw [show l.length - 1 - t = t by omega]
 ·rw [List.getElem?_eq_none (by simp; omega), List.getElem?_eq_none (by omega)]
theorem impl_IsPalindrome_l0 (l : List Int) (hn : l.length ≤ 4611686018427387904) (d : Nat) : ∀ (i : Nat), i + d = l.length / 2 → (∀ t : Nat, t < i → l[t]? = l[l.length - 1 - t]?) →
  Ev (fun k => impl_IsPalindrome.l0 k l ((l.length / 2 : Nat) : Int) (i : Int)) (decide (l.reverse = l)) := by
 induction d with
 | zero =>
  intro i hi h
  refine ev_succ ?_
  simp only [impl_IsPalindrome.l0]
  refine ev_neg (by omega) (ev_some ?_)
  rw [decide_eq_true (pal_rev l (fun t ht => h t (by omega)))]
 | succ d ih =>
  intro i hi h
  refine ev_succ ?_
  simp only [impl_IsPalindrome.l0]
  rw [wr (n := (l.length : Int) - 1) (by omega) (by omega), show (l.length : Int) - 1 - (i : Int) = ((l.length - 1 - i : Nat) : Int) by omega, wr_nat (by omega), wr1 (by omega) (by omega)]
  refine ev_pos (by omega) (ev_pos (by omega) (ev_pos (by omega) (ev_pos (by omega) (ev_pos (by omega) ?_))))
  rw [rd_get (show i < l.length by omega), rd_get (show l.length - 1 - i < l.length by omega)]
  refine ev_ite (fun he => ih (i + 1) (by omega) ?_) (fun he => ev_some ?_)
  ·intro t ht
   by_cases e : t = i
   ·subst e
    rw [List.getElem?_eq_getElem (by omega), List.getElem?_eq_getElem (by omega), he]
   ·exact h t (by omega)
  ·symm
   rw [decide_eq_false_iff_not]
   intro hr
   have h2 : l.reverse[i]? = l[i]? := by rw [hr]
   rw [List.getElem?_reverse (by omega), List.getElem?_eq_getElem (by omega), List.getElem?_eq_getElem (by omega)] at h2
   exact he (Option.some.inj h2).symm
theorem impl_IsPalindrome_ev (l : List Int) (hn : l.length ≤ 4611686018427387904) : Ev (fun k => impl_IsPalindrome.f k l) (decide (l.reverse = l)) := by
 simp only [impl_IsPalindrome.f]
 rw [show (l.length : Int) / 2 = ((l.length / 2 : Nat) : Int) by omega, wr_nat (by omega)]
 exact impl_IsPalindrome_l0 l hn (l.length / 2) 0 (by omega) (by intro t ht; omega)
theorem spec_ReverseDigits_l0 (l : List Int) (hn : l.length ≤ 10000000) : ∀ (i : Nat) (acc : List Int), i ≤ l.length → acc.length + i ≤ 10000000 →
  Ev (fun k => spec_ReverseDigits.l0 k l acc ((i : Int) - 1)) (acc ++ (l.take i).reverse) := by
 intro i
 induction i with
 | zero =>
  intro acc hi ha
  refine ev_succ ?_
  simp only [spec_ReverseDigits.l0]
  exact ev_neg (by omega) (ev_some (by simp))
 | succ i ih =>
  intro acc hi ha
  refine ev_succ ?_
  simp only [spec_ReverseDigits.l0]
  rw [show ((i + 1 : Nat) : Int) - 1 = (i : Int) by omega]
  refine ev_pos (by omega) (ev_pos (by omega) (ev_pos (by omega) (ev_pos (by omega) ?_)))
  rw [wr (n := (i : Int) - 1) (by omega) (by omega)]
  refine ev_eq (ih (acc ++ [rd l (i : Int)]) (by omega) (by simp; omega)) ?_
  have ht : l.take (i + 1) = l.take i ++ [rd l (i : Int)] := by
   rw [rd_get (show i < l.length by omega)]; exact List.take_succ_eq_append_getElem (by omega)
  rw [ht]; simp
theorem spec_ReverseDigits_ev (l : List Int) (hn : l.length ≤ 10000000) : Ev (fun k => spec_ReverseDigits.f k l) l.reverse := by
 simp only [spec_ReverseDigits.f]
 rw [wr (n := (l.length : Int) - 1) (by omega) (by omega)]
 exact ev_eq (spec_ReverseDigits_l0 l hn l.length [] (by omega) (by simp; omega)) (by simp)
theorem spec_IsPal_ev (l : List Int) (hn : l.length ≤ 10000000) : Ev (fun k => spec_IsPalindrome.f k l) (decide (l.reverse = l)) := by
 simp only [spec_IsPalindrome.f]
 refine ev_bind (spec_ReverseDigits_ev l hn) (ev_bind (spec_l3Same_ev l l.reverse (by omega)) (ev_some ?_))
 by_cases h : l.reverse = l
 ·simp [h]
 ·have : ¬ l = l.reverse := fun e => h e.symm
  simp [h, this]
def cutW (w : List Int) (i j : Nat) : List Int := (w.take j).drop i
theorem cutW_len (w : List Int) (i j : Nat) (hj : j ≤ w.length) : (cutW w i j).length = j - i := by
 simp only [cutW, List.length_drop, List.length_take]; omega
def palN (w : List Int) (n : Nat) : Nat → Nat → List (List Int)
 | 0, _ => []
 | d + 1, i => (if (cutW w i (i + n)).reverse = cutW w i (i + n) then [cutW w i (i + n)] else []) ++ palN w n d (i + 1)
def spN (w : List Int) : Nat → Nat → List (List Int)
 | 0, _ => []
 | d + 1, n => huniq handCmp (palN w n (w.length + 1 - n) 0) ++ spN w d (n + 1)
def palJ (w : List Int) (i : Nat) : Nat → Nat → List (List Int)
 | 0, _ => []
 | d + 1, j => (if (cutW w i j).reverse = cutW w i j then [cutW w i j] else []) ++ palJ w i d (j + 1)
def palI (w : List Int) : Nat → Nat → List (List Int)
 | 0, _ => []
 | d + 1, i => palJ w i (w.length - i) (i + 1) ++ palI w d (i + 1)
theorem palN_mem (w : List Int) (n : Nat) (z : List Int) : ∀ d i, z ∈ palN w n d i ↔ ∃ t, i ≤ t ∧ t < i + d ∧ z = cutW w t (t + n) ∧ z.reverse = z
 | 0, i => by simp only [palN, List.not_mem_nil, false_iff]; rintro ⟨t, h1, h2, _⟩; omega
 | d + 1, i => by
  have ih := palN_mem w n z d (i + 1)
  rw [palN, List.mem_append, ih]
  constructor
  ·rintro (h | ⟨t, h1, h2, h3⟩)
   ·split at h
    ·rename_i hp
     have := List.mem_singleton.1 h
     subst this
     exact ⟨i, by omega, by omega, rfl, hp⟩
    ·simp at h
   ·exact ⟨t, by omega, by omega, h3⟩
  ·rintro ⟨t, h1, h2, h3, h4⟩
   by_cases e : t = i
   ·subst e
    left
    rw [← h3, if_pos h4]
    simp
   ·exact .inr ⟨t, by omega, by omega, h3, h4⟩
theorem palJ_mem (w : List Int) (i : Nat) (z : List Int) : ∀ d j, z ∈ palJ w i d j ↔ ∃ t, j ≤ t ∧ t < j + d ∧ z = cutW w i t ∧ z.reverse = z
 | 0, j => by simp only [palJ, List.not_mem_nil, false_iff]; rintro ⟨t, h1, h2, _⟩; omega
 | d + 1, j => by
  have ih := palJ_mem w i z d (j + 1)
  rw [palJ, List.mem_append, ih]
  constructor
  ·rintro (h | ⟨t, h1, h2, h3⟩)
   ·split at h
    ·rename_i hp
     have := List.mem_singleton.1 h
     subst this
     exact ⟨j, by omega, by omega, rfl, hp⟩
    ·simp at h
   ·exact ⟨t, by omega, by omega, h3⟩
  ·rintro ⟨t, h1, h2, h3, h4⟩
   by_cases e : t = j
   ·subst e
    left
    rw [← h3, if_pos h4]
    simp
   ·exact .inr ⟨t, by omega, by omega, h3, h4⟩
theorem palI_mem (w : List Int) (z : List Int) : ∀ d i, i + d = w.length → (z ∈ palI w d i ↔ ∃ s t, i ≤ s ∧ s < t ∧ t ≤ w.length ∧ z = cutW w s t ∧ z.reverse = z)
 | 0, i, hi => by simp only [palI, List.not_mem_nil, false_iff]; rintro ⟨s, t, h1, h2, h3, _⟩; omega
 | d + 1, i, hi => by
  have ih := palI_mem w z d (i + 1) (by omega)
  rw [palI, List.mem_append, ih, palJ_mem]
  constructor
  ·rintro (⟨t, h1, h2, h3⟩ | ⟨s, t, h1, h2, h3⟩)
   ·exact ⟨i, t, by omega, by omega, by omega, h3⟩
   ·exact ⟨s, t, by omega, by omega, h3⟩
  ·rintro ⟨s, t, h1, h2, h3, h4⟩
   by_cases e : s = i
   ·subst e
    exact .inl ⟨t, by omega, by omega, h4⟩
   ·exact .inr ⟨s, t, by omega, by omega, h3, h4⟩
theorem spN_mem (w : List Int) (z : List Int) : ∀ d n, n + d = w.length + 1 → (z ∈ spN w d n ↔ ∃ m t, n ≤ m ∧ m ≤ w.length ∧ t + m ≤ w.length ∧ z = cutW w t (t + m) ∧ z.reverse = z)
 | 0, n, hn => by simp only [spN, List.not_mem_nil, false_iff]; rintro ⟨m, t, h1, h2, _⟩; omega
 | d + 1, n, hn => by
  have ih := spN_mem w z d (n + 1) (by omega)
  rw [spN, List.mem_append, ih, huniq_mem handCmp_ord, palN_mem]
  constructor
  ·rintro (⟨t, h1, h2, h3⟩ | ⟨m, t, h1, h2, h3⟩)
   ·exact ⟨n, t, by omega, by omega, by omega, h3⟩
   ·exact ⟨m, t, by omega, by omega, h3⟩
  ·rintro ⟨m, t, h1, h2, h3, h4⟩
   by_cases e : m = n
   ·subst e
    exact .inl ⟨t, by omega, by omega, h4⟩
   ·exact .inr ⟨m, t, by omega, by omega, h3, h4⟩
theorem spN_len (w : List Int) (d n : Nat) (h : n + d = w.length + 1) : ∀ z ∈ spN w d n, n ≤ z.length := by
 intro z hz
 obtain ⟨m, t, h1, h2, h3, h4, _⟩ := (spN_mem w z d n h).1 hz
 rw [h4, cutW_len w t (t + m) h3]
 omega
theorem spN_strict (w : List Int) : ∀ d n, n + d = w.length + 1 → (spN w d n).Pairwise (fun a b => handCmpL a b < 0)
 | 0, _, _ => by simp [spN]
 | d + 1, n, hn => by
  have ih := spN_strict w d (n + 1) (by omega)
  have hl : ∀ z ∈ huniq handCmp (palN w n (w.length + 1 - n) 0), z.length = n := by
   intro z hz
   rw [huniq_mem handCmp_ord, palN_mem] at hz
   obtain ⟨t, h1, h2, h3, _⟩ := hz
   rw [h3, cutW_len w t (t + n) (by omega)]
   omega
  rw [spN, List.pairwise_append]
  refine ⟨?_, ih, fun a ha b hb => ?_⟩
  ·refine List.Pairwise.imp_of_mem ?_ (huniq_strict handCmp_ord (palN w n (w.length + 1 - n) 0))
   intro a b ha hb hab
   have h1 := hl a ha
   have h2 := hl b hb
   unfold handCmpL
   rw [if_neg (by omega), if_neg (by omega)]
   exact hab
  ·have h1 := hl a ha
   have h2 := spN_len w d (n + 1) (by omega) b hb
   unfold handCmpL
   rw [if_pos (by omega)]
   omega
theorem spN_palI (w : List Int) : spN w w.length 1 = huniq handCmpL (palI w w.length 0) := by
 refine hstrict_ext handCmpL_ord _ _ (spN_strict w w.length 1 (by omega)) (huniq_strict handCmpL_ord _) (fun z => ?_)
 rw [huniq_mem handCmpL_ord, spN_mem w z w.length 1 (by omega), palI_mem w z w.length 0 (by omega)]
 constructor
 ·rintro ⟨m, t, h1, h2, h3, h4⟩
  exact ⟨t, t + m, by omega, by omega, h3, h4⟩
 ·rintro ⟨s, t, h1, h2, h3, h4, h5⟩
  refine ⟨t - s, s, by omega, by omega, by omega, ?_, h5⟩
  rw [show s + (t - s) = t by omega]
  exact h4
theorem palN_len (w : List Int) (n : Nat) : ∀ d i, (palN w n d i).length ≤ d
 | 0, _ => by simp [palN]
 | d + 1, i => by
  have := palN_len w n d (i + 1)
  rw [palN, List.length_append]
  split <;> simp <;> omega
theorem huniq_len (c : List Int → List Int → Int) : ∀ L, (huniq c L).length ≤ L.length
 | [] => by simp [huniq]
 | x :: L => by
  have h1 := huniq_len c L
  have h2 := hins_len c x (huniq c L)
  show (hins c x (huniq c L)).length ≤ L.length + 1
  omega
theorem palJ_len (w : List Int) (i : Nat) : ∀ d j, (palJ w i d j).length ≤ d
 | 0, _ => by simp [palJ]
 | d + 1, j => by
  have := palJ_len w i d (j + 1)
  rw [palJ, List.length_append]
  split <;> simp <;> omega
theorem palI_len (w : List Int) : ∀ d i, (palI w d i).length ≤ d * w.length
 | 0, _ => by simp [palI]
 | d + 1, i => by
  have h1 := palI_len w d (i + 1)
  have h2 := palJ_len w i (w.length - i) (i + 1)
  rw [palI, List.length_append, Nat.succ_mul]
  omega
theorem spec_Pal_l1 (w : List Int) (n : Nat) (hw : w.length ≤ 64) (hn0 : 1 ≤ n) (hn : n ≤ 65) (out : List (List Int)) (r : List (List Int)) (hout : out.length ≤ 10000) (d : Nat) : ∀ (i : Nat) (acc : List (List Int)), (i + d + n = w.length + 1) → acc.length ≤ i →
  (Ev (fun k => spec_PalindromesOf.l0 k w (out ++ (palN w n d i).foldl (fun a x => hins handCmp x a) acc) ((n + 1 : Nat) : Int)) r) →
  Ev (fun k => spec_PalindromesOf.l1 k w out (n : Int) acc (i : Int)) r := by
 induction d with
 | zero =>
  intro i acc hi ha hk
  have e : wrap64 ((i : Int) + (n : Int)) = (i : Int) + (n : Int) := wr (by omega) (by omega)
  have hs : wrap64 ((n : Int) + 1) = ((n + 1 : Nat) : Int) := by rw [wr1 (by omega) (by omega)]; rfl
  refine ev_succ ?_
  simp only [spec_PalindromesOf.l1, e, hs]
  refine ev_neg (by omega) (ev_pos (by omega) ?_)
  exact hk
 | succ d ih =>
  intro i acc hi ha hk
  have e : wrap64 ((i : Int) + (n : Int)) = (i : Int) + (n : Int) := wr (by omega) (by omega)
  have hs : wrap64 ((i : Int) + 1) = ((i + 1 : Nat) : Int) := by rw [wr1 (by omega) (by omega)]; rfl
  have hc : (w.take ((i : Int) + (n : Int)).toNat).drop ((i : Int)).toNat = cutW w i (i + n) := by
   rw [show ((i : Int) + (n : Int)).toNat = i + n by omega, Int.toNat_natCast]; rfl
  have hcl := cutW_len w i (i + n) (by omega)
  refine ev_succ ?_
  simp only [spec_PalindromesOf.l1, e, hs]
  refine ev_pos (by omega) (ev_pos (by omega) (ev_pos (by omega) ?_))
  rw [hc]
  refine ev_bind (spec_IsPal_ev _ (by omega)) (ev_ite (fun h => ?_) (fun h => ?_))
  ·simp only [decide_eq_true_eq] at h
   have hl := hins_len handCmp (cutW w i (i + n)) acc
   refine ev_bind (spec_l8Put_ev _ acc (by omega) (by omega)) (ih (i + 1) _ (by omega) (by omega) ?_)
   rw [palN, if_pos h] at hk
   exact hk
  ·simp only [decide_eq_true_eq] at h
   refine ih (i + 1) _ (by omega) (by omega) ?_
   rw [palN, if_neg h] at hk
   exact hk
theorem spec_Pal_l0 (w : List Int) (hw : w.length ≤ 64) (d : Nat) : ∀ (n : Nat) (out : List (List Int)), n + d = w.length + 1 → 1 ≤ n → out.length ≤ 65 * (n - 1) → Ev (fun k => spec_PalindromesOf.l0 k w out (n : Int)) (out ++ spN w d n) := by
 induction d with
 | zero =>
  intro n out hn h1 ho
  refine ev_succ ?_
  simp only [spec_PalindromesOf.l0]
  exact ev_neg (by omega) (ev_some (by simp [spN]))
 | succ d ih =>
  intro n out hn h1 ho
  refine ev_succ ?_
  simp only [spec_PalindromesOf.l0]
  refine ev_pos (by omega) ?_
  have hl1 := huniq_len handCmp (palN w n (w.length + 1 - n) 0)
  have hl2 := palN_len w n (w.length + 1 - n) 0
  refine spec_Pal_l1 w n hw h1 (by omega) out _ (by omega) (w.length + 1 - n) 0 [] (by omega) (by simp) ?_
  rw [foldl_uniq handCmp_ord]
  refine ev_eq (ih (n + 1) _ (by omega) (by omega) (by rw [List.length_append]; omega)) ?_
  simp [spN]
def palR (w : List Int) : List (List Int) := if areL 16 w = true ∧ w.length ≤ 64 then spN w w.length 1 else []
theorem spec_Pal_ev (w : List Int) (hw : w.length ≤ 1048576) : Ev (fun k => spec_PalindromesOf.f k w) (palR w) := by
 simp only [spec_PalindromesOf.f]
 refine ev_bind0 rfl (ev_bind (spec_IsWord_ev w 16 (by omega)) ?_)
 refine ev_ite (fun h => ?_) (fun h => ?_)
 ·simp only [Bool.and_eq_true, decide_eq_true_eq] at h
  refine ev_succ ?_
  simp only [spec_PalindromesOf.j0]
  refine ev_ite (fun h2 => ev_some ?_) (fun h2 => ?_)
  ·simp only [decide_eq_true_eq] at h2
   unfold palR
   rw [if_neg (by omega)]
  ·simp only [decide_eq_true_eq] at h2
   refine ev_eq (spec_Pal_l0 w (by omega) w.length 1 [] (by omega) (by omega) (by simp)) ?_
   unfold palR
   rw [if_pos ⟨h.1.1, by omega⟩]
   rfl
 ·simp only [Bool.and_eq_true, decide_eq_true_eq] at h
  refine ev_succ ?_
  simp only [spec_PalindromesOf.j0]
  refine ev_pos trivial (ev_some ?_)
  unfold palR
  rw [if_neg (fun h4 => h ⟨⟨h4.1, by omega⟩, by omega⟩)]
theorem impl_Pal_l1 (w : List Int) (i : Nat) (hw : w.length ≤ 64) (hi : i < w.length) (r : List (List Int)) (d : Nat) : ∀ (j : Nat) (acc : List (List Int)), j + d = w.length + 1 → i < j → acc.length + d ≤ 10000 →
  Ev (fun k => impl_PalindromesOf.l0 k w (acc ++ palJ w i d j) (w.length : Int) ((i + 1 : Nat) : Int)) r →
  Ev (fun k => impl_PalindromesOf.l1 k w acc (i : Int) (j : Int) (w.length : Int) (i : Int)) r := by
 induction d with
 | zero =>
  intro j acc hj hij ha hk
  have hs : wrap64 ((i : Int) + 1) = ((i + 1 : Nat) : Int) := by rw [wr1 (by omega) (by omega)]; rfl
  refine ev_succ ?_
  simp only [impl_PalindromesOf.l1, hs]
  refine ev_neg (by omega) ?_
  rw [palJ, List.append_nil] at hk
  exact hk
 | succ d ih =>
  intro j acc hj hij ha hk
  have hs : wrap64 ((j : Int) + 1) = ((j + 1 : Nat) : Int) := by rw [wr1 (by omega) (by omega)]; rfl
  have hc : (w.take ((j : Int)).toNat).drop ((i : Int)).toNat = cutW w i j := by rw [Int.toNat_natCast, Int.toNat_natCast]; rfl
  have hcl := cutW_len w i j (by omega)
  refine ev_succ ?_
  simp only [impl_PalindromesOf.l1, hs]
  refine ev_pos (by omega) (ev_pos (by omega) (ev_pos (by omega) ?_))
  rw [hc]
  refine ev_bind (impl_IsPalindrome_ev _ (by omega)) (ev_ite (fun h => ?_) (fun h => ?_))
  ·simp only [decide_eq_true_eq] at h
   refine ev_bind0 rfl (ev_pos (by simp only [List.length_nil]; omega) (ev_pos (by omega) ?_))
   refine ih (j + 1) _ (by omega) (by omega) (by simp; omega) ?_
   rw [palJ, if_pos h] at hk
   simpa using hk
  ·simp only [decide_eq_true_eq] at h
   refine ih (j + 1) _ (by omega) (by omega) (by omega) ?_
   rw [palJ, if_neg h] at hk
   exact hk
theorem impl_Pal_l0 (w : List Int) (hw : w.length ≤ 64) (d : Nat) : ∀ (i : Nat) (acc : List (List Int)), i + d = w.length → acc.length ≤ 65 * i → Ev (fun k => impl_PalindromesOf.l0 k w acc (w.length : Int) (i : Int)) (acc ++ palI w d i) := by
 induction d with
 | zero =>
  intro i acc hi ha
  refine ev_succ ?_
  simp only [impl_PalindromesOf.l0]
  exact ev_neg (by omega) (ev_some (by simp [palI]))
 | succ d ih =>
  intro i acc hi ha
  have hs : wrap64 ((i : Int) + 1) = ((i + 1 : Nat) : Int) := by rw [wr1 (by omega) (by omega)]; rfl
  refine ev_succ ?_
  simp only [impl_PalindromesOf.l0, hs]
  refine ev_pos (by omega) ?_
  have hl := palJ_len w i (w.length - i) (i + 1)
  refine impl_Pal_l1 w i hw (by omega) _ (w.length - i) (i + 1) acc (by omega) (by omega) (by omega) ?_
  refine ev_eq (ih (i + 1) _ (by omega) (by rw [List.length_append]; omega)) ?_
  simp [palI]
theorem impl_isShort_far (l : List Int) (m : Int) (hm : ¬ (l.length : Int) ≤ m) : Ev (fun k => impl_isShort.f k l m) false := by
 simp only [impl_isShort.f]
 exact ev_neg hm (ev_some rfl)
theorem impl_Pal_ev (w : List Int) (hw : w.length ≤ 1048576) : Ev (fun k => impl_PalindromesOf.f k w) (palR w) := by
 simp only [impl_PalindromesOf.f]
 by_cases h : w.length ≤ 64
 ·by_cases hA : areL 16 w = true
  ·refine ev_bind (a := palI w w.length 0) ?_ ?_
   ·refine ev_bind0 rfl (ev_bind (impl_isShort_ev w 64 (by omega) (by omega)) (ev_pos hA ?_))
    exact ev_eq (impl_Pal_l0 w h w.length 0 [] (by omega) (by simp)) (by simp)
   ·unfold hwrap
    refine ev_pos ?_ (ev_some ?_)
    ·simp only [hok, Bool.and_eq_true, decide_eq_true_eq, List.all_eq_true]
     have hl := palI_len w w.length 0
     have h3 : w.length * w.length ≤ 64 * 64 := Nat.mul_le_mul h h
     refine ⟨by omega, fun z hz => ?_⟩
     obtain ⟨s, t, h1, h2, h3, h4, _⟩ := (palI_mem w z w.length 0 (by omega)).1 hz
     rw [h4, cutW_len w s t h3]
     omega
    ·unfold palR
     rw [if_pos ⟨hA, h⟩]
     exact (spN_palI w).symm
  ·refine ev_bind (a := []) ?_ ?_
   ·refine ev_bind0 rfl (ev_bind (impl_isShort_ev w 64 (by omega) (by omega)) (ev_neg hA (ev_some rfl)))
   ·unfold hwrap
    refine ev_pos (by simp [hok]) (ev_some ?_)
    unfold palR
    rw [if_neg (fun h4 => hA h4.1)]
    rfl
 ·refine ev_bind (a := []) ?_ ?_
  ·refine ev_bind0 rfl (ev_bind (impl_isShort_far w 64 (by omega)) (ev_neg (by simp) (ev_some rfl)))
  ·unfold hwrap
   refine ev_pos (by simp [hok]) (ev_some ?_)
   unfold palR
   rw [if_neg (by omega)]
   rfl
theorem spec_Rich_ev (w : List Int) (hw : w.length ≤ 1048576) : Ev (fun k => spec_RichnessOf.f k w) (((palR w).length : Nat) : Int) := by
 simp only [spec_RichnessOf.f]
 exact ev_bind (spec_Pal_ev w hw) (ev_some rfl)
theorem impl_Rich_ev (w : List Int) (hw : w.length ≤ 1048576) : Ev (fun k => impl_RichnessOf.f k w) (((palR w).length : Nat) : Int) := by
 simp only [impl_RichnessOf.f]
 exact ev_bind (impl_Pal_ev w hw) (ev_some rfl)
def PalIn (w z : List Int) : Prop := z ≠ [] ∧ z.reverse = z ∧ z <:+: w
def NP (w : List Int) (L : List (List Int)) : Prop := L.Nodup ∧ ∀ z, z ∈ L ↔ PalIn w z
theorem pal_new_le (w : List Int) (x : Int) (u v : List Int) (hu : PalIn (w ++ [x]) u) (hu' : ¬ PalIn w u) (hv : PalIn (w ++ [x]) v) (hv' : ¬ PalIn w v) (hl : u.length ≤ v.length) : u = v := by
 obtain ⟨un, up, ui⟩ := hu
 obtain ⟨vn, vp, vi⟩ := hv
 have us : u <:+ w ++ [x] := by
  rcases List.infix_concat_iff.1 ui with h | h
  ·exact h
  ·exact absurd ⟨un, up, h⟩ hu'
 have vs : v <:+ w ++ [x] := by
  rcases List.infix_concat_iff.1 vi with h | h
  ·exact h
  ·exact absurd ⟨vn, vp, h⟩ hv'
 have uv : u <:+ v := List.suffix_of_suffix_length_le us vs hl
 by_cases e : u.length = v.length
 ·exact uv.eq_of_length e
 ·exfalso
  apply hu'
  refine ⟨un, up, ?_⟩
  have pv : u <+: v := by
   have := List.reverse_prefix.2 uv
   rwa [up, vp] at this
  obtain ⟨t, ht⟩ := vs
  have hv9 : v = v.dropLast ++ [v.getLast vn] := (List.dropLast_concat_getLast vn).symm
  rw [hv9, ← List.append_assoc] at ht
  have h1 : t ++ v.dropLast = w := (List.append_inj' ht rfl).1
  have h2 : u <+: v.dropLast := by
   have : v.dropLast <+: v := List.dropLast_prefix v
   refine List.prefix_of_prefix_length_le pv this ?_
   rw [List.length_dropLast]; omega
  obtain ⟨s, hs⟩ := h2
  exact ⟨t, s, by rw [← h1, ← hs]; simp⟩
theorem pal_new (w : List Int) (x : Int) (u v : List Int) (hu : PalIn (w ++ [x]) u) (hu' : ¬ PalIn w u) (hv : PalIn (w ++ [x]) v) (hv' : ¬ PalIn w v) : u = v := by
 by_cases hl : u.length ≤ v.length
 ·exact pal_new_le w x u v hu hu' hv hv' hl
 ·exact (pal_new_le w x v u hv hv' hu hu' (by omega)).symm
theorem NP_step (w : List Int) (x : Int) (L M : List (List Int)) (hL : NP w L) (hM : NP (w ++ [x]) M) : M.length ≤ L.length + 1 := by
 by_cases h : ∃ z, PalIn (w ++ [x]) z ∧ ¬ PalIn w z
 ·obtain ⟨z, hz1, hz2⟩ := h
  have : M ⊆ z :: L := by
   intro y hy
   by_cases hy2 : PalIn w y
   ·exact List.mem_cons_of_mem _ ((hL.2 y).2 hy2)
   ·rw [pal_new w x y z ((hM.2 y).1 hy) hy2 hz1 hz2]; exact List.mem_cons_self
  have := hM.1.length_le_of_subset this
  simpa using this
 ·have : M ⊆ L := by
   intro y hy
   have hy1 := (hM.2 y).1 hy
   by_cases hy2 : PalIn w y
   ·exact (hL.2 y).2 hy2
   ·exact absurd ⟨y, hy1, hy2⟩ h
  have := hM.1.length_le_of_subset this
  omega
theorem NP_nil (L : List (List Int)) (h : NP [] L) : L.length = 0 := by
 cases L with
 | nil => rfl
 | cons y L =>
  obtain ⟨h1, _, h3⟩ := (h.2 y).1 List.mem_cons_self
  exact absurd (List.eq_nil_of_infix_nil h3) h1
theorem NP_le (f : List Int → List (List Int)) (hf : ∀ w, NP w (f w)) (w : List Int) (k : Nat) : ∀ d, (f (w.take (k + d))).length ≤ (f (w.take k)).length + d
 | 0 => by simp
 | d + 1 => by
  have ih := NP_le f hf w k d
  by_cases hk : k + d < w.length
  ·have := NP_step _ _ _ _ (hf (w.take (k + d))) (by rw [← List.take_succ_eq_append_getElem hk]; exact hf (w.take (k + d + 1)))
   rw [show k + (d + 1) = k + d + 1 by omega]; omega
  ·rw [List.take_of_length_le (show w.length ≤ k + (d + 1) by omega)]
   rw [List.take_of_length_le (show w.length ≤ k + d by omega)] at ih
   omega
theorem NP_all (f : List Int → List (List Int)) (hf : ∀ w, NP w (f w)) (w : List Int) : (f w).length ≤ w.length := by
 have := NP_le f hf w 0 w.length
 rw [Nat.zero_add, List.take_length, List.take_zero, NP_nil _ (hf [])] at this
 omega
theorem NP_rich (f : List Int → List (List Int)) (hf : ∀ w, NP w (f w)) (w : List Int) (h : w.length ≤ (f w).length) (k : Nat) (hk : k ≤ w.length) : (f (w.take k)).length = k := by
 have h1 := NP_le f hf w k (w.length - k)
 have h2 := NP_all f hf (w.take k)
 rw [show k + (w.length - k) = w.length by omega, List.take_length] at h1
 rw [List.length_take] at h2
 omega
def pn (w : List Int) : List (List Int) := spN w w.length 1
theorem pn_NP (w : List Int) : NP w (pn w) := by
 constructor
 ·refine (spN_strict w w.length 1 (by omega)).imp ?_
  intro a b hab e
  subst e
  have := handCmpL_ord.self a
  omega
 ·intro z
  unfold pn
  rw [spN_mem w z w.length 1 (by omega)]
  constructor
  ·rintro ⟨m, t, h1, h2, h3, h4, h5⟩
   refine ⟨?_, h5, ?_⟩
   ·intro e
    have := cutW_len w t (t + m) h3
    rw [← h4, e] at this
    simp at this; omega
   ·rw [h4]
    exact (List.drop_suffix _ _).isInfix.trans (List.take_prefix _ _).isInfix
  ·rintro ⟨h1, h2, u, v, h3⟩
   have hz : 0 < z.length := List.length_pos_iff.2 h1
   have hl : w.length = u.length + z.length + v.length := by rw [← h3]; simp; omega
   refine ⟨z.length, u.length, hz, by omega, by omega, ?_, h2⟩
   unfold cutW
   rw [← h3]
   simp [List.take_append, List.drop_append]
theorem pn_rich (w : List Int) (L : List (List Int)) (hL : L.Nodup) (h : ∀ z ∈ L, PalIn w z) (hn : L.length = w.length) (k : Nat) (hk : k ≤ w.length) : (pn (w.take k)).length = k := by
 refine NP_rich pn pn_NP w ?_ k hk
 rw [← hn]
 exact hL.length_le_of_subset (fun z hz => ((pn_NP w).2 z).2 (h z hz))
theorem palR_pn (w : List Int) (hA : areL 16 w = true) (hw : w.length ≤ 64) : palR w = pn w := by
 unfold palR pn
 rw [if_pos ⟨hA, hw⟩]
theorem cut_nat (w : List Int) (i n : Nat) (h : i + n ≤ w.length) (hw : w.length ≤ 1000000) : (w.take (wrap64 ((i : Int) + (n : Int))).toNat).drop ((i : Int)).toNat = (w.take (i + n)).drop i := by
 rw [wr (by omega) (by omega)]
 rw [show ((i : Int) + (n : Int)).toNat = i + n by omega, Int.toNat_natCast]
theorem spec_FactorsOf_l0 (w : List Int) (n : Nat) (hw : w.length ≤ 128) (hn : n ≤ 40) (d : Nat) : ∀ (i : Nat) (acc : List (List Int)), (i + d + n = w.length + 1 ∨ (d = 0 ∧ w.length < i + n ∧ i = 0)) → acc.length ≤ i → Ev (fun k => spec_FactorsOf.l0 k w (n : Int) acc (i : Int)) ((partsFrom w n d i).foldl (fun a x => hins handCmp x a) acc, true) := by
 induction d with
 | zero =>
  intro i acc hi ha
  refine ev_succ ?_
  simp only [spec_FactorsOf.l0]
  have e : wrap64 ((i : Int) + (n : Int)) = (i : Int) + (n : Int) := wr (by omega) (by omega)
  rw [e]
  exact ev_neg (by omega) (ev_some rfl)
 | succ d ih =>
  intro i acc hi ha
  have e : wrap64 ((i : Int) + (n : Int)) = (i : Int) + (n : Int) := wr (by omega) (by omega)
  have hs : wrap64 ((i : Int) + 1) = ((i + 1 : Nat) : Int) := by rw [wr1 (by omega) (by omega)]; rfl
  have hc := cut_nat w i n (by omega) (by omega)
  rw [e] at hc
  refine ev_succ ?_
  simp only [spec_FactorsOf.l0, e, hs]
  refine ev_pos (by omega) (ev_pos (by omega) (ev_pos (by omega) ?_))
  rw [hc]
  have hl := hins_len handCmp ((w.take (i + n)).drop i) acc
  exact ev_bind (spec_l8Put_ev _ acc (by simp only [List.length_drop, List.length_take]; omega) (by omega)) (ih (i + 1) _ (by omega) (by omega))
def manyParts (w : List Int) (n : Nat) : Nat := (huniq handCmp (partsFrom w n (w.length + 1 - n) 0)).length
theorem spec_CountFactors_ev (w : List Int) (n : Nat) (hw : w.length ≤ 128) (hn : n ≤ 40) (hA : areL 16 w = true) : Ev (fun k => spec_CountFactors.f k w (n : Int)) ((manyParts w n : Nat) : Int) := by
 have h := spec_FactorsOf_l0 w n hw hn (w.length + 1 - n) 0 [] (by omega) (by simp)
 rw [foldl_uniq handCmp_ord] at h
 simp only [spec_CountFactors.f, spec_FactorsOf.f]
 refine ev_bind (a := (huniq handCmp (partsFrom w n (w.length + 1 - n) 0), true)) ?_ (ev_pos rfl (ev_some rfl))
 refine ev_bind0 rfl (ev_bind (spec_IsWord_ev w 16 (by omega)) ?_)
 refine ev_pos (by simp [hA]; omega) (ev_neg (by omega) (ev_bind0 (l1In_eq _ _ _) (ev_succ ?_)))
 simp only [spec_FactorsOf.j0]
 refine ev_neg (by simp; omega) ?_
 exact h
theorem impl_parts_l0 (w : List Int) (n : Nat) (hw : w.length ≤ 128) (hn : n ≤ 40) (d : Nat) : ∀ (i : Nat) (acc : List (List Int)), (i + d + n = w.length + 1 ∨ (d = 0 ∧ w.length < i + n ∧ i = 0)) → acc.length ≤ i → Ev (fun k => impl_parts.l0 k w (n : Int) acc (i : Int)) (acc ++ partsFrom w n d i) := by
 induction d with
 | zero =>
  intro i acc hi ha
  refine ev_succ ?_
  simp only [impl_parts.l0]
  have e : wrap64 ((i : Int) + (n : Int)) = (i : Int) + (n : Int) := wr (by omega) (by omega)
  rw [e]
  exact ev_neg (by omega) (ev_some (by simp [partsFrom]))
 | succ d ih =>
  intro i acc hi ha
  have e : wrap64 ((i : Int) + (n : Int)) = (i : Int) + (n : Int) := wr (by omega) (by omega)
  have hs : wrap64 ((i : Int) + 1) = ((i + 1 : Nat) : Int) := by rw [wr1 (by omega) (by omega)]; rfl
  have hc := cut_nat w i n (by omega) (by omega)
  rw [e] at hc
  refine ev_succ ?_
  simp only [impl_parts.l0, e, hs]
  refine ev_pos (by omega) (ev_bind0 rfl (ev_pos (by omega) (ev_pos (by omega) ?_)))
  rw [hc]
  have hl : ((w.take (i + n)).drop i).length ≤ 128 := by simp only [List.length_drop, List.length_take]; omega
  refine ev_pos (by simp only [List.length_nil]; omega) (ev_pos (by omega) ?_)
  refine ev_eq (ih (i + 1) _ (by omega) (by simp; omega)) ?_
  simp [partsFrom]
theorem impl_parts_ev (w : List Int) (n : Nat) (hw : w.length ≤ 128) (hn : n ≤ 40) : Ev (fun k => impl_parts.f k w (n : Int)) (huniq handCmp (partsFrom w n (w.length + 1 - n) 0)) := by
 have h := impl_parts_l0 w n hw hn (w.length + 1 - n) 0 [] (by omega) (by simp)
 simp only [impl_parts.f]
 refine ev_bind (by simpa using h) ?_
 unfold hwrap
 refine ev_pos ?_ (ev_some rfl)
 simp only [hok, Bool.and_eq_true, decide_eq_true_eq, List.all_eq_true]
 refine ⟨by rw [partsFrom_len]; omega, fun x hx => ?_⟩
 have := partsFrom_row _ _ _ _ x hx
 omega
theorem sJ_none (w : List Int) (n i : Nat) (h : ∀ j, j + n ≤ w.length → bad w n i j = false) (r : Nat) : ∀ j, j + n + r ≤ w.length + 1 → sJ w n i r j = none := by
 induction r with
 | zero => intro j hj; rfl
 | succ r ih => intro j hj; simp only [sJ]; rw [h j (by omega)]; simp only [Bool.false_eq_true, if_false]; exact ih (j + 1) (by omega)
theorem sI_none (w : List Int) (n : Nat) (h : ∀ i j, i + n ≤ w.length → j + n ≤ w.length → bad w n i j = false) (r : Nat) : ∀ i, i + n + r ≤ w.length + 1 → sI w n r i = none := by
 induction r with
 | zero => intro i hi; rfl
 | succ r ih =>
  intro i hi
  simp only [sI]
  rw [sJ_none w n i (fun j hj => h i j (by omega) hj) _ _ (by omega)]
  exact ih (i + 1) (by omega)
theorem sN_none (w : List Int) (h : ∀ n i j, i + n ≤ w.length → j + n ≤ w.length → bad w n i j = false) (r : Nat) : ∀ n, n + r ≤ max w.length 1 → sN w r n = none := by
 induction r with
 | zero => intro n hn; rfl
 | succ r ih =>
  intro n hn
  simp only [sN]
  by_cases hw : n ≤ w.length
  ·rw [sI_none w n (h n) _ _ (by omega)]
   exact ih (n + 1) (by omega)
  ·have : sI w n (w.length - n + 1) 0 = none := by
    rw [show w.length - n + 1 = 1 by omega]
    simp only [sI]
    rw [show w.length - n - 0 = 0 by omega]; rfl
   rw [this]
   exact ih (n + 1) (by omega)
theorem ubFind_none (w : List Int) (h : ∀ n i j, i + n ≤ w.length → j + n ≤ w.length → bad w n i j = false) : ubFind w = none := sN_none w h _ _ (by omega)
def stG (w : List Int) : Nat → Nat → Bool
 | 0, _ => true
 | d + 1, i => if manyParts w i = i + 1 then stG w d (i + 1) else false
def cxL (w : List Int) : Nat → Nat → List Int
 | 0, _ => []
 | d + 1, i => ((manyParts w i : Nat) : Int) :: cxL w d (i + 1)
theorem cxL_len (w : List Int) : ∀ d i, (cxL w d i).length = d
 | 0, _ => rfl
 | d + 1, i => by simp [cxL, cxL_len w d (i + 1)]
theorem cxL_get (w : List Int) : ∀ d i j, j < d → (cxL w d i)[j]? = some ((manyParts w (i + j) : Nat) : Int)
 | d + 1, i, 0, _ => rfl
 | d + 1, i, j + 1, h => by
  have := cxL_get w d (i + 1) j (by omega)
  rw [show i + 1 + j = i + (j + 1) by omega] at this
  simpa [cxL] using this
theorem spec_IsSt_l0 (w : List Int) (n : Nat) (hw : w.length ≤ 128) (hn : n ≤ 20) (hA : areL 16 w = true) (d : Nat) : ∀ i : Nat, i + d = n + 1 → Ev (fun k => spec_IsSturmianPrefix.l0 k w (n : Int) (i : Int)) (stG w d i) := by
 induction d with
 | zero =>
  intro i hi
  refine ev_succ ?_
  simp only [spec_IsSturmianPrefix.l0]
  exact ev_neg (by omega) (ev_some rfl)
 | succ d ih =>
  intro i hi
  have hs : wrap64 ((i : Int) + 1) = ((i + 1 : Nat) : Int) := by rw [wr1 (by omega) (by omega)]; rfl
  refine ev_succ ?_
  simp only [spec_IsSturmianPrefix.l0, hs]
  refine ev_pos (by omega) (ev_bind (spec_CountFactors_ev w i hw (by omega) hA) ?_)
  refine ev_ite (fun h => ?_) (fun h => ?_)
  ·refine ev_eq (ih (i + 1) (by omega)) ?_
   rw [stG, if_pos (by omega)]
  ·refine ev_some ?_
   rw [stG, if_neg (by omega)]
theorem impl_Cx_l0 (w : List Int) (n : Nat) (hw : w.length ≤ 128) (hn : n ≤ 20) (d : Nat) : ∀ (i : Nat) (acc : List Int), i + d = n + 1 → acc.length = i → Ev (fun k => impl_ComplexityOf.l0 k w acc ((n + 1 : Nat) : Int) (i : Int)) (acc ++ cxL w d i) := by
 induction d with
 | zero =>
  intro i acc hi ha
  refine ev_succ ?_
  simp only [impl_ComplexityOf.l0]
  exact ev_neg (by omega) (ev_some (by simp [cxL]))
 | succ d ih =>
  intro i acc hi ha
  have hs : wrap64 ((i : Int) + 1) = ((i + 1 : Nat) : Int) := by rw [wr1 (by omega) (by omega)]; rfl
  refine ev_succ ?_
  simp only [impl_ComplexityOf.l0, hs]
  refine ev_pos (by omega) (ev_bind (impl_parts_ev w i hw (by omega)) (ev_pos (by omega) ?_))
  refine ev_eq (ih (i + 1) _ (by omega) (by simp; omega)) ?_
  simp [cxL, manyParts]
theorem impl_IsSt_l0 (w : List Int) (n : Nat) (hn : n ≤ 20) (d : Nat) : ∀ i : Nat, i + d = n + 1 → Ev (fun k => impl_IsSturmianPrefix.l0 k (cxL w (n + 1) 0) ((cxL w (n + 1) 0).length : Int) (i : Int)) (stG w d i) := by
 have hl := cxL_len w (n + 1) 0
 induction d with
 | zero =>
  intro i hi
  refine ev_succ ?_
  simp only [impl_IsSturmianPrefix.l0]
  exact ev_neg (by omega) (ev_some rfl)
 | succ d ih =>
  intro i hi
  have hs : wrap64 ((i : Int) + 1) = ((i + 1 : Nat) : Int) := by rw [wr1 (by omega) (by omega)]; rfl
  have hg := cxL_get w (n + 1) 0 i (by omega)
  have hr : rd (cxL w (n + 1) 0) (i : Int) = ((manyParts w i : Nat) : Int) := by
   rw [rd_nat, List.getD_eq_getElem?_getD, hg, Nat.zero_add]; rfl
  refine ev_succ ?_
  simp only [impl_IsSturmianPrefix.l0, hs, hr]
  refine ev_pos (by omega) (ev_pos (by omega) (ev_pos (by omega) ?_))
  refine ev_ite (fun h => ?_) (fun h => ?_)
  ·refine ev_eq (ih (i + 1) (by omega)) ?_
   rw [stG, if_pos (by omega)]
  ·refine ev_some ?_
   rw [stG, if_neg (by omega)]
def stR (w : List Int) (n : Int) : Bool := if areL 2 w = true ∧ 0 ≤ n ∧ n ≤ 20 ∧ w.length ≤ 128 then stG w (n.toNat + 1) 0 else false
theorem spec_IsSt_ev (w : List Int) (n : Int) (hw : w.length ≤ 1048576) : Ev (fun k => spec_IsSturmianPrefix.f k w n) (stR w n) := by
 simp only [spec_IsSturmianPrefix.f]
 refine ev_bind (spec_IsWord_ev w 2 (by omega)) ?_
 refine ev_ite (fun h => ?_) (fun h => ?_)
 ·simp only [Bool.and_eq_true, decide_eq_true_eq] at h
  refine ev_bind0 (l1In_eq _ _ _) (ev_ite (fun h2 => ?_) (fun h2 => ?_))
  ·simp only [decide_eq_true_eq] at h2
   refine ev_succ ?_
   simp only [spec_IsSturmianPrefix.j0]
   refine ev_ite (fun h3 => ev_some ?_) (fun h3 => ?_)
   ·simp only [decide_eq_true_eq] at h3
    unfold stR
    rw [if_neg (by omega)]
   ·simp only [decide_eq_true_eq] at h3
    obtain ⟨m, rfl⟩ := Int.eq_ofNat_of_zero_le h2.1
    refine ev_eq (spec_IsSt_l0 w m (by omega) (by omega) (areL_mono (by omega) h.1.1) (m + 1) 0 (by omega)) ?_
    unfold stR
    rw [if_pos ⟨h.1.1, h2.1, h2.2, by omega⟩]
    rfl
  ·simp only [decide_eq_true_eq] at h2
   refine ev_succ ?_
   simp only [spec_IsSturmianPrefix.j0]
   refine ev_pos trivial (ev_some ?_)
   unfold stR
   rw [if_neg (by omega)]
 ·simp only [Bool.and_eq_true, decide_eq_true_eq] at h
  refine ev_succ ?_
  simp only [spec_IsSturmianPrefix.j0]
  refine ev_pos trivial (ev_some ?_)
  unfold stR
  rw [if_neg (fun h4 => h ⟨⟨h4.1, by omega⟩, by omega⟩)]
theorem impl_IsSt_ev (w : List Int) (n : Int) (hw : w.length ≤ 1048576) : Ev (fun k => impl_IsSturmianPrefix.f k w n) (stR w n) := by
 have no : ¬ (areL 2 w = true ∧ 0 ≤ n ∧ n ≤ 20 ∧ w.length ≤ 128) → Ev (fun k => impl_IsSturmianPrefix.j0 k w n true) (stR w n) := by
  intro h
  refine ev_succ ?_
  simp only [impl_IsSturmianPrefix.j0]
  refine ev_pos trivial (ev_some ?_)
  unfold stR
  rw [if_neg h]
 simp only [impl_IsSturmianPrefix.f]
 refine ev_bind (impl_areLetters_ev w 2 (by omega)) ?_
 refine ev_ite (fun h => ?_) (fun h => no (fun h4 => h h4.1))
 refine ev_ite (fun h1 => no (by omega)) (fun h1 => ?_)
 refine ev_ite (fun h2 => no (by omega)) (fun h2 => ?_)
 by_cases h3 : n > 20
 ·rw [decide_eq_true h3]
  exact no (by omega)
 ·rw [decide_eq_false h3]
  obtain ⟨m, rfl⟩ := Int.eq_ofNat_of_zero_le (show 0 ≤ n by omega)
  refine ev_succ ?_
  simp only [impl_IsSturmianPrefix.j0]
  refine ev_neg (by simp) (ev_bind (a := cxL w (m + 1) 0) ?_ ?_)
  ·simp only [impl_ComplexityOf.f]
   refine ev_bind0 rfl (ev_bind (impl_isShort_ev w 128 (by omega) (by omega)) (ev_pos (areL_mono (by omega) h) (ev_neg (by omega) ?_)))
   rw [decide_eq_false (show ¬ (m : Int) > 40 by omega)]
   refine ev_succ ?_
   simp only [impl_ComplexityOf.j0]
   refine ev_neg (by simp) ?_
   have hs : wrap64 ((m : Int) + 1) = ((m + 1 : Nat) : Int) := by rw [wr1 (by omega) (by omega)]; rfl
   rw [hs]
   refine ev_eq (impl_Cx_l0 w m (by omega) (by omega) (m + 1) 0 [] (by omega) rfl) (by simp)
  ·refine ev_eq (impl_IsSt_l0 w m (by omega) (m + 1) 0 (by omega)) ?_
   unfold stR
   rw [if_pos ⟨h, by omega, by omega, by omega⟩]
   rfl
-- SAY: For every list the program's IsRich answers what the reference's answers, and leaves its argument alone. No conditions beyond the given statement.
def richR (w : List Int) : Bool := if areL 16 w = true ∧ w.length ≤ 64 then (((palR w).length : Nat) : Int) == (w.length : Int) else false
theorem spec_IsRich_ev (w : List Int) (hw : w.length ≤ 1048576) : Ev (fun k => spec_IsRich.f k w) (richR w) := by
 simp only [spec_IsRich.f]
 refine ev_bind (spec_IsWord_ev w 16 (by omega)) ?_
 refine ev_ite (fun h => ?_) (fun h => ev_some ?_)
 ·simp only [Bool.and_eq_true, decide_eq_true_eq] at h
  refine ev_ite (fun h2 => ev_bind (spec_Rich_ev w hw) (ev_some ?_)) (fun h2 => ev_some ?_)
  ·unfold richR
   rw [if_pos ⟨h.1.1, by omega⟩]
  ·unfold richR
   rw [if_neg (by omega)]
 ·simp only [Bool.and_eq_true, decide_eq_true_eq] at h
  unfold richR
  rw [if_neg (fun h4 => h ⟨⟨h4.1, by omega⟩, by omega⟩)]
theorem impl_IsRich_ev (w : List Int) (hw : w.length ≤ 1048576) : Ev (fun k => impl_IsRich.f k w) (richR w) := by
 simp only [impl_IsRich.f]
 by_cases h : w.length ≤ 64
 ·refine ev_bind (impl_isShort_ev w 64 (by omega) (by omega)) (ev_ite (fun hA => ev_bind (impl_Rich_ev w hw) (ev_some ?_)) (fun hA => ev_some ?_))
  ·unfold richR
   rw [if_pos ⟨hA, h⟩]
  ·unfold richR
   rw [if_neg (fun h4 => hA h4.1)]
 ·refine ev_bind (impl_isShort_far w 64 (by omega)) (ev_neg (by simp) (ev_some ?_))
  unfold richR
  rw [if_neg (by omega)]
-- SAY: For every code the law of balance holds: pairs that show that a word is not balanced, the number of balanced words, prefixes of the Fibonacci word and richness are what the law says. No conditions beyond the given statement.
def fibPals : List (Nat × Nat) := [(0, 1), (1, 1), (0, 3), (2, 2), (1, 4), (0, 6), (4, 3), (3, 5), (2, 7), (1, 9), (0, 11), (7, 5), (6, 7), (5, 9), (4, 11), (3, 13), (2, 15), (1, 17), (0, 19), (12, 8), (11, 10), (10, 12), (9, 14), (8, 16), (7, 18), (6, 20), (5, 22), (4, 24), (3, 26), (2, 28), (1, 30), (0, 32), (20, 13), (19, 15), (18, 17), (17, 19), (16, 21), (15, 23), (14, 25), (13, 27), (12, 29), (11, 31), (10, 33), (9, 35), (8, 37), (7, 39), (6, 41), (5, 43), (4, 45), (3, 47), (2, 49), (1, 51), (0, 53), (33, 21), (32, 23), (31, 25), (30, 27), (29, 29), (28, 31)]
set_option maxRecDepth 100000 in
theorem fibPals_ok : (fibPals.map fun p => cutW (fibL.take 59) p.1 (p.1 + p.2)).Nodup ∧ fibPals.length = 59 ∧ ∀ p ∈ fibPals, 0 < p.2 ∧ p.1 + p.2 ≤ 59 ∧ (cutW (fibL.take 59) p.1 (p.1 + p.2)).reverse = cutW (fibL.take 59) p.1 (p.1 + p.2) := by decide +kernel
theorem fibL59 : (fibL.take 59).length = 59 := by decide +kernel
theorem fibL_letters (n : Nat) : areL 2 (fibL.take n) = true := by
 have h : areL 2 fibL = true := by decide +kernel
 unfold areL at h ⊢
 rw [List.all_eq_true] at h ⊢
 intro x hx
 exact h x (List.mem_of_mem_take hx)
theorem fib_rich (n : Nat) (h : n ≤ 59) : (pn (fibL.take n)).length = n := by
 obtain ⟨h1, h2, h3⟩ := fibPals_ok
 have := pn_rich (fibL.take 59) _ h1 (fun z hz => by
  obtain ⟨p, hp, rfl⟩ := List.mem_map.1 hz
  obtain ⟨a1, a2, a3⟩ := h3 p hp
  refine ⟨fun e => ?_, a3, ?_⟩
  ·have := cutW_len (fibL.take 59) p.1 (p.1 + p.2) (by rw [fibL59]; exact a2)
   rw [e] at this
   simp at this; omega
  ·exact (List.drop_suffix _ _).isInfix.trans (List.take_prefix _ _).isInfix) (by rw [List.length_map, h2, fibL59]) n (by rw [fibL59]; exact h)
 rwa [List.take_take, Nat.min_eq_left h] at this
theorem fib_richR (n : Nat) (h : n ≤ 59) : richR (fibL.take n) = true := by
 have hl : (fibL.take n).length = n := by
  have := fibL59
  rw [List.length_take] at this ⊢; omega
 have hA : areL 16 (fibL.take n) = true := areL_mono (by omega) (fibL_letters n)
 unfold richR
 rw [if_pos ⟨hA, by omega⟩, palR_pn _ hA (by omega), fib_rich n h, hl]
 simp
def fibSums : List Nat := (List.range 60).map fun i => ((fibL.take i).map Int.toNat).foldr (· + ·) 0
def balChk (S : List Nat) : Bool := (List.range 60).all fun n => ((S.drop n).zip S).all fun p => ((S.drop n).zip S).all fun q => decide (p.1 + q.2 ≤ q.1 + p.2 + 1)
set_option maxRecDepth 100000 in
theorem fibSums_ok : balChk fibSums = true ∧ ∀ i : Fin 60, pre1 fibL i.val = ((fibSums.getD i.val 0 : Nat) : Int) := by decide +kernel
theorem fib_bad (m n i j : Nat) (hm : m ≤ 59) (hi : i + n ≤ m) (hj : j + n ≤ m) : bad (fibL.take m) n i j = false := by
 obtain ⟨h1, h2⟩ := fibSums_ok
 have e : ∀ a, a ≤ m → pre1 (fibL.take m) a = ((fibSums.getD a 0 : Nat) : Int) := by
  intro a ha
  have := h2 ⟨a, by omega⟩
  rw [← this]
  unfold pre1
  rw [List.take_take, Nat.min_eq_left ha]
 have hz : ∀ a b, a ≤ 59 → b ≤ 59 → n + a ≤ 59 → n + b ≤ 59 → fibSums.getD (a + n) 0 + fibSums.getD b 0 ≤ fibSums.getD (b + n) 0 + fibSums.getD a 0 + 1 := by
  intro a b ha hb hna hnb
  have hl : fibSums.length = 60 := by simp [fibSums]
  unfold balChk at h1
  rw [List.all_eq_true] at h1
  have h3 := h1 n (List.mem_range.2 (by omega))
  rw [List.all_eq_true] at h3
  have mem : ∀ c, n + c ≤ 59 → (fibSums.getD (c + n) 0, fibSums.getD c 0) ∈ (fibSums.drop n).zip fibSums := by
   intro c hc
   rw [List.mem_iff_getElem?]
   refine ⟨c, ?_⟩
   rw [List.getElem?_zip_eq_some]
   constructor
   ·simp only [List.getElem?_drop, List.getD_eq_getElem?_getD, show c + n = n + c by omega, List.getElem?_eq_getElem (show n + c < fibSums.length by omega), Option.getD_some]
   ·simp only [List.getD_eq_getElem?_getD, List.getElem?_eq_getElem (show c < fibSums.length by omega), Option.getD_some]
  have h4 := h3 _ (mem a hna)
  rw [List.all_eq_true] at h4
  have h5 := h4 _ (mem b hnb)
  simp only [decide_eq_true_eq] at h5
  exact h5
 have z1 := hz i j (by omega) (by omega) (by omega) (by omega)
 have z2 := hz j i (by omega) (by omega) (by omega) (by omega)
 unfold bad
 rw [decide_eq_false_iff_not]
 unfold dif
 rw [e _ (by omega), e i (by omega), e _ (by omega), e j (by omega)]
 omega
theorem fib_isBal (n : Nat) (h : n ≤ 59) : isBal (fibL.take n) = true := by
 have hl : (fibL.take n).length = n := by
  have := fibL59
  rw [List.length_take] at this ⊢; omega
 unfold isBal
 rw [ubFind_none (fibL.take n) (fun m i j hi hj => fib_bad n m i j h (by omega) (by omega)), fibL_letters n, decide_eq_true (by omega)]
 rfl
theorem at2_tot (l : List Int) (hn : l.length ≤ 1048576) (hb : ∀ x ∈ l, (Lit.int .u8 x).wf = true) : ∃ v, laws_at.f l 2 = some v ∧ 0 ≤ v := by
 unfold laws_at.f
 by_cases h : (2 : Int) < (l.length : Int)
 ·rw [if_pos h, if_pos (by omega)]
  have hm := hb _ (rd_mem (l := l) (i := 2) (by omega))
  refine ⟨_, rfl, ?_⟩
  have e : rd l ((2 : Nat) : Int) = rd l 2 := rfl
  rw [e] at hm
  simp [Lit.wf] at hm
  have hmn : IntKind.u8.min = 0 := rfl
  have hmx : IntKind.u8.max = 255 := rfl
  rw [wr (by omega) (by omega)]
  omega
 ·rw [if_neg h]
  refine ⟨_, rfl, ?_⟩
  rw [wr (n := 2 * 37) (by omega) (by omega), wr (n := (l.length : Int) * 11) (by omega) (by omega), wr (by omega) (by omega)]
  exact Int.tmod_nonneg _ (by omega)
theorem fp60 (v : Int) (h : 0 ≤ v) : ∃ n, n ≤ 59 ∧ fpRes (Int.tmod v 60) = fibL.take n := by
 rw [Int.tmod_eq_emod_of_nonneg h]
 have h1 : 0 ≤ v % 60 := Int.emod_nonneg _ (by omega)
 have h2 : v % 60 < 60 := Int.emod_lt_of_pos _ (by omega)
 unfold fpRes
 by_cases h3 : 1 ≤ v % 60
 ·exact ⟨(v % 60).toNat, by omega, by rw [if_pos ⟨h3, by omega⟩]⟩
 ·exact ⟨0, by omega, by rw [if_neg (by omega)]; simp⟩
theorem bal_j5 (l : List Int) (hn : l.length ≤ 1048576) : Ev (fun k => laws_FnBalance.j5 k l false) true := by
 refine ev_succ ?_
 simp only [laws_FnBalance.j5]
 refine ev_neg (by decide) ?_
 obtain ⟨r1, e1, h1⟩ := drawSt_tot l hn
 obtain ⟨r2, e2, h2⟩ := drawRich_tot l hn
 refine ev_bind e1 (ev_bind e2 ?_)
 refine ev_bind (impl_IsSt_ev _ _ (by omega)) (ev_bind (spec_IsSt_ev _ _ (by omega)) (ev_pos (by simp) ?_))
 refine ev_bind (impl_Rich_ev _ (by omega)) (ev_bind (spec_Rich_ev _ (by omega)) (ev_pos rfl ?_))
 exact ev_bind (impl_IsRich_ev _ (by omega)) (ev_bind (spec_IsRich_ev _ (by omega)) (ev_some (by simp)))
theorem bal_j4 (l : List Int) (hn : l.length ≤ 1048576) (hb : ∀ x ∈ l, (Lit.int .u8 x).wf = true) : Ev (fun k => laws_FnBalance.j4 k l) true := by
 refine ev_succ ?_
 simp only [laws_FnBalance.j4]
 obtain ⟨v, e1, h1⟩ := at2_tot l hn hb
 obtain ⟨n, hn9, e2⟩ := fp60 v h1
 have hl : (fibL.take n).length ≤ 59 := by rw [List.length_take]; omega
 refine ev_bind0 e1 (ev_bind (ev_eq (spec_FibonacciPrefix_ev _) e2) ?_)
 refine ev_bind (ev_eq (impl_IsRich_ev _ (by omega)) (fib_richR n hn9)) (ev_pos rfl ?_)
 exact ev_bind (ev_eq (impl_IsBalanced_ev _ (by omega)) (fib_isBal n hn9)) (bal_j5 l hn)
theorem bal_j1 (l : List Int) (hn : l.length ≤ 1048576) (hb : ∀ x ∈ l, (Lit.int .u8 x).wf = true) : Ev (fun k => laws_FnBalance.j1 k l) true := by
 refine ev_succ ?_
 simp only [laws_FnBalance.j1]
 obtain ⟨n, e1, h1⟩ := drawCB_tot l hn
 refine ev_bind e1 (ev_bind (impl_CountBalanced_ev n) (ev_bind (spec_CountBalanced_ev n) (ev_pos rfl (ev_ite (fun h => ?_) (fun h => bal_j4 l hn hb)))))
 unfold cbRes at h ⊢
 by_cases h2 : 0 ≤ n ∧ n ≤ 8
 ·rw [if_pos h2] at h ⊢
  obtain ⟨m, rfl⟩ := Int.eq_ofNat_of_zero_le h2.1
  have hc := bal_counts ⟨m, by omega⟩
  simp only at hc
  rw [Int.toNat_natCast, hc]
  exact bal_l0 l m _ (by omega) (bal_j4 l hn hb) m 1 1 (by omega) (by omega) (by omega) rfl
 ·rw [if_neg h2] at h
  omega
theorem sJ_bad (w : List Int) (n i : Nat) (r : Nat) : ∀ j t, sJ w n i r j = some t → bad w t.1 t.2.1 t.2.2 = true := by
 induction r with
 | zero => intro j t h; simp [sJ] at h
 | succ r ih =>
  intro j t h
  rw [sJ] at h
  split at h
  ·rename_i hb
   cases h
   exact hb
  ·exact ih _ _ h
theorem sI_bad (w : List Int) (n : Nat) (r : Nat) : ∀ i t, sI w n r i = some t → bad w t.1 t.2.1 t.2.2 = true := by
 induction r with
 | zero => intro i t h; simp [sI] at h
 | succ r ih =>
  intro i t h
  rw [sI] at h
  split at h
  ·rename_i t' ht
   cases h
   exact sJ_bad w n i _ _ _ ht
  ·exact ih _ _ h
theorem sN_bad (w : List Int) (r : Nat) : ∀ n t, sN w r n = some t → bad w t.1 t.2.1 t.2.2 = true := by
 induction r with
 | zero => intro n t h; simp [sN] at h
 | succ r ih =>
  intro n t h
  rw [sN] at h
  split at h
  ·rename_i t' ht
   cases h
   exact sI_bad w n _ _ _ ht
  ·exact ih _ _ h
theorem part_len (w : List Int) (i n : Nat) (h : i + n ≤ w.length) : (part w i n).length = n := by
 simp only [part, List.length_drop, List.length_take]; omega
theorem bal_j0 (l w : List Int) (hn : l.length ≤ 1048576) (hb : ∀ x ∈ l, (Lit.int .u8 x).wf = true) (hw : w.length ≤ 256) : Ev (fun k => laws_FnBalance.j0 k l w (ubPair w).2.2 (ubPair w).1 (ubPair w).2.1 false) true := by
 refine ev_succ ?_
 simp only [laws_FnBalance.j0]
 refine ev_neg (by decide) (ev_ite (fun h => ?_) (fun h => bal_j1 l hn hb))
 by_cases h64 : w.length ≤ 64
 ·rw [ubPair_of w h64] at h ⊢
  cases hf : ubFind w with
  | none => rw [hf] at h; simp [ubOf] at h
  | some t =>
   obtain ⟨h1, h2, h3⟩ := ubFind_in w t hf
   have hbad := sN_bad w _ _ _ hf
   obtain ⟨n, i, j⟩ := t
   simp only at h1 h2 h3 hbad
   simp only [ubOf]
   have l1 := part_len w i n h2
   have l2 := part_len w j n h3
   have c1 := cnt_bd 1 (part w i n)
   have c2 := cnt_bd 1 (part w j n)
   have hd : cnt 1 (part w i n) - cnt 1 (part w j n) = dif w n i j := by
    unfold part dif
    rw [cnt_part, cnt_part]; omega
   unfold bad at hbad
   rw [decide_eq_true_eq, ← hd] at hbad
   refine ev_bind (spec_CountLetters_ev _ _ (by omega)) (ev_bind (spec_CountLetters_ev _ _ (by omega)) (ev_pos (by omega) (ev_neg ?_ ?_)))
   ·generalize hx : cnt 1 (part w i n) = x at *
    generalize hy : cnt 1 (part w j n) = y at *
    rw [wr (n := x - y) (by omega) (by omega)]
    have hq : 4 ≤ (x - y) * (x - y) := by
     rcases hbad with hp | hp
     ·have := Int.mul_le_mul (show (2 : Int) ≤ x - y by omega) (show (2 : Int) ≤ x - y by omega) (by omega) (by omega); omega
     ·have := Int.mul_le_mul (show (2 : Int) ≤ y - x by omega) (show (2 : Int) ≤ y - x by omega) (by omega) (by omega)
      have e : (x - y) * (x - y) = (y - x) * (y - x) := by rw [← Int.neg_mul_neg (x - y) (x - y)]; congr 1 <;> omega
      omega
    have hq2 : (x - y) * (x - y) ≤ 100 * 100 := by
     have a1 : (x - y) * (x - y) = ((x - y).natAbs * (x - y).natAbs : Nat) := by rw [Int.natCast_mul, Int.natAbs_mul_self']
     have a2 : (x - y).natAbs * (x - y).natAbs ≤ 100 * 100 := Nat.mul_le_mul (by omega) (by omega)
     omega
    rw [wr (by omega) (by omega)]
    omega
   ·refine ev_bind (spec_IsFactor_true w (part w i n) i (by omega) (by omega) (by rw [l1]; rfl)) (ev_pos rfl ?_)
    exact ev_bind (spec_IsFactor_true w (part w j n) j (by omega) (by omega) (by rw [l2]; rfl)) (ev_pos rfl (bal_j1 l hn hb))
 ·unfold ubPair at h
  rw [if_neg h64] at h
  simp at h
theorem FnBalance : laws_FnBalance.Pure := by
 intro l hl0 hl1 hwf
 refine Ev.rounds (g := fun k => laws_FnBalance.f k l) ?_
 simp only [laws_FnBalance.f]
 refine ev_bind0 (big_eq l) (ev_ite (fun h => ev_some rfl) (fun h => ?_))
 have hn : l.length ≤ 1048576 := by
  simp only [decide_eq_true_eq] at h
  omega
 obtain ⟨w, e1, hw⟩ := drawUb_tot l hn
 have hp := ubPair_length w (by omega)
 refine ev_bind e1 (ev_bind (impl_UnbalancedPair_ev w (by omega)) (ev_bind (spec_UnbalancedPair_ev w (by omega)) (ev_neg (by simp) ?_)))
 refine ev_bind (sameInts_refl _ (by omega)) (ev_pos rfl (ev_bind (sameInts_refl _ (by omega)) (ev_pos rfl ?_)))
 refine ev_bind (impl_IsBalanced_ev w (by omega)) (ev_bind (spec_IsBalanced_ev w (by omega)) ?_)
 rw [show (isBal w != isBal w) = false by simp]
 exact bal_j0 l w hn hwf hw
end Go.Proofs.YtmjlmjhccpedmaaGreat.Pure
namespace Go.Proofs.YtmjlmjhccpedmaaGreat.PrintWords
open Go.ChangeShapes Go.WideShapes
theorem sized_ints {H : Type} {enc : TypeId × Value → H} {P : Program} {W : World} {base : Nat} {spare : Nat → Bool} {held : Bool} {t e : TypeId} {k : IntKind} {a : Option Addr} {len cap : Nat} {d : DataW H}
  {ps : List MemPlace} {ts : List TypeId} {ds : List (DataW H)} {j : Nat} (hsz : (DataW.weightsEach P ts ds).all (· ≤ reachBytes) = true) (ht : ts[j]? = some t) (hd : ds[j]? = some d) (hu : P.underlying t = some (.slice e))
  (he : P.underlying e = some (.int k)) (hc : P.cellsOf e = 1) {B : Nat} (hB : P.bytesOf e = B) (h : DataW.Trod enc P W base spare held t (.slice a len cap) d ps) : len * B ≤ 140737488351232 :=
 Go.Proofs.YtmjlmjhccpedmaaGreatW.PrintWords.sized_ints hsz ht hd hu he hc hB h
end Go.Proofs.YtmjlmjhccpedmaaGreat.PrintWords
