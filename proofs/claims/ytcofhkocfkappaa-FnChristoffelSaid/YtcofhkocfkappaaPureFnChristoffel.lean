/- For every code: Christoffel words, their mirrors and splits are what the reference tells; a Christoffel word has the letters of its slope, is a Lyndon word, is balanced, is a palindrome between its ends, and is the product of two others; a drawn word is a Christoffel word just if it is a balanced Lyndon word; the words of the tree are Christoffel words in their order. The drawn slopes and words are finitely many: the facts on them are decided. No conditions beyond the given statement. -/
import Derived.Test.YtcofhkocfkappaaPFnChristoffelx13
import Derived.Test.YtcofhkocfkappaaWSized
import Derived.Test.YtcofhkocfkappaaWSized
import Derived.Test.YtcofhkocfkappaaWSized
set_option linter.unusedVariables false
set_option linter.unusedSimpArgs false
namespace Go.Proofs.Ytcofhkocfkappaa.Pure
open Go.RowKit Go.Proofs.Ytcofhkocfkappaa.PFnChristoffel Go.Proofs.YtcofhkocfkappaaW.PrintWords Go.Proofs.YtcofhkocfkappaaW.PrintLast

theorem ev_succ {α : Type} {g : Nat → Option α} {r : α} (h : Ev (fun k => g (k + 1)) r) : Ev g r := Ev.step (fun _ => rfl) h
theorem ev_some {α : Type} {r r' : α} (h : r = r') : Ev (fun _ => some r) r' := by subst h; exact Ev.now r
theorem ev_pos {α : Type} {c : Prop} [Decidable c] {g f : Nat → Option α} {r : α} (hc : c) (h : Ev g r) : Ev (fun k => if c then g k else f k) r := by
  simp only [if_pos hc]; exact h
theorem ev_neg {α : Type} {c : Prop} [Decidable c] {g f : Nat → Option α} {r : α} (hc : ¬ c) (h : Ev f r) : Ev (fun k => if c then g k else f k) r := by
  simp only [if_neg hc]; exact h
theorem ev_ite {α : Type} {c : Prop} [Decidable c] {g f : Nat → Option α} {r : α} (h : c → Ev g r) (h' : ¬ c → Ev f r) : Ev (fun k => if c then g k else f k) r := by
  by_cases hc : c
  · exact ev_pos hc (h hc)
  · exact ev_neg hc (h' hc)
theorem ev_bind {α β : Type} {g : Nat → Option α} {f : Nat → α → Option β} {a : α} {r : β} (h : Ev g a) (k : Ev (fun n => f n a) r) : Ev (fun n => (g n).bind (f n)) r := Ev.bind h k
theorem ev_bind0 {α β : Type} {o : Option α} {f : Nat → α → Option β} {a : α} {r : β} (h : o = some a) (k : Ev (fun n => f n a) r) : Ev (fun n => o.bind (f n)) r := by
  subst h; exact k
theorem ev_eq {α : Type} {g : Nat → Option α} {r r' : α} (h : Ev g r) (e : r = r') : Ev g r' := e ▸ h
theorem ev_const {α : Type} {o : Option α} {r : α} (h : o = some r) : Ev (fun _ => o) r := by subst h; exact Ev.now r
theorem wr {n : Int} (h0 : -9223372036854775808 ≤ n) (h1 : n ≤ 9223372036854775807) : wrap64 n = n := by unfold wrap64; omega
theorem wr1 {i : Int} (h0 : 0 ≤ i) (h1 : i ≤ 4611686018427387904) : wrap64 (i + 1) = i + 1 := wr (by omega) (by omega)
theorem wr_nat {n : Nat} (h : n ≤ 4611686018427387904) : wrap64 (n : Int) = n := wr (by omega) (by omega)
theorem rd_nat (l : List Int) (i : Nat) : rd l (i : Int) = l.getD i 0 := by simp [rd]
theorem rd_get {l : List Int} {i : Nat} (h : i < l.length) : rd l (i : Int) = l[i] := by
  simp [rd, List.getD_eq_getElem?_getD, List.getElem?_eq_getElem h]
theorem drop_rd {l : List Int} {i : Nat} (h : i < l.length) : l.drop i = rd l (i : Int) :: l.drop (i + 1) := by
  rw [rd_get h]; exact List.drop_eq_getElem_cons h
theorem rd_mem {l : List Int} {i : Nat} (h : i < l.length) : rd l (i : Int) ∈ l := by rw [rd_get h]; exact List.getElem_mem h


theorem big_eq (l : List Int) : laws_big.f l = some (decide ((l.length : Int) > 1048576)) := by simp only [laws_big.f]


/-- g tells some answer of which P is known -/
def Tot {α : Type} (g : Nat → Option α) (P : α → Prop) : Prop := ∃ r, Ev g r ∧ P r
theorem tot_of {α : Type} {g : Nat → Option α} {P : α → Prop} {r : α} (h : Ev g r) (hp : P r) : Tot g P := ⟨r, h, hp⟩
theorem tot_some {α : Type} {r : α} {P : α → Prop} (h : P r) : Tot (fun _ => some r) P := ⟨r, Ev.now r, h⟩
theorem tot_bind {α β : Type} {g : Nat → Option α} {f : Nat → α → Option β} {P : α → Prop} {Q : β → Prop} (h : Tot g P) (k : ∀ a, P a → Tot (fun n => f n a) Q) : Tot (fun n => (g n).bind (f n)) Q := by
  obtain ⟨a, ha, hp⟩ := h
  obtain ⟨r, hr, hq⟩ := k a hp
  exact ⟨r, Ev.bind ha hr, hq⟩
theorem tot_bind0 {α β : Type} {o : Option α} {f : Nat → α → Option β} {P : α → Prop} {Q : β → Prop} (h : ∃ a, o = some a ∧ P a) (k : ∀ a, P a → Tot (fun n => f n a) Q) : Tot (fun n => o.bind (f n)) Q := by
  obtain ⟨a, ha, hp⟩ := h
  subst ha
  exact k a hp
theorem tot_pos {α : Type} {c : Prop} [Decidable c] {g f : Nat → Option α} {P : α → Prop} (hc : c) (h : Tot g P) : Tot (fun k => if c then g k else f k) P := by
  simp only [if_pos hc]; exact h
theorem tot_neg {α : Type} {c : Prop} [Decidable c] {g f : Nat → Option α} {P : α → Prop} (hc : ¬ c) (h : Tot f P) : Tot (fun k => if c then g k else f k) P := by
  simp only [if_neg hc]; exact h
theorem tot_ite {α : Type} {c : Prop} [Decidable c] {g f : Nat → Option α} {P : α → Prop} (h : c → Tot g P) (h' : ¬ c → Tot f P) : Tot (fun k => if c then g k else f k) P := by
  by_cases hc : c
  · exact tot_pos hc (h hc)
  · exact tot_neg hc (h' hc)
theorem tot_succ {α : Type} {g : Nat → Option α} {P : α → Prop} (h : Tot (fun k => g (k + 1)) P) : Tot g P := by
  obtain ⟨r, hr, hp⟩ := h
  exact ⟨r, ev_succ hr, hp⟩
theorem tot_mono {α : Type} {g : Nat → Option α} {P Q : α → Prop} (h : Tot g P) (k : ∀ a, P a → Q a) : Tot g Q := by
  obtain ⟨r, hr, hp⟩ := h
  exact ⟨r, hr, k r hp⟩
theorem bits_and_le (x : Int) (m : Nat) (hm : m < 4611686018427387904) : 0 ≤ Go.bits .and .i64 x (m : Int) ∧ Go.bits .and .i64 x (m : Int) ≤ m := by
  have h : ∀ n : Nat, n ≤ m → IntKind.i64.wrap (n : Int) = n := by
    intro n hn
    simp only [IntKind.wrap, IntKind.bits, IntKind.signed, Bool.true_and, decide_eq_true_eq]
    split
    · rename_i h
      have e : (2 : Int) ^ (64 - 1) = 9223372036854775808 := by decide
      have h2 : (n : Int) % 2 ^ 64 ≥ 2 ^ (64 - 1) := of_decide_eq_true h
      rw [e] at h2
      omega
    · omega
  simp only [Go.bits]
  have hb : (BitVec.ofInt IntKind.i64.bits (m : Int)).toNat = m := by
    simp only [BitVec.ofInt_natCast, BitVec.toNat_ofNat, IntKind.bits]
    exact Nat.mod_eq_of_lt (by omega)
  have hle : ((BitVec.ofInt IntKind.i64.bits x) &&& (BitVec.ofInt IntKind.i64.bits (m : Int))).toNat ≤ m := by
    rw [BitVec.toNat_and, hb]; exact Nat.and_le_right
  rw [h _ hle]
  omega
/-- a cursor's place and hash: the place is no negative number -/
def curOk (b : List Int) (i : Int) : Prop := 0 ≤ i ∧ b.length ≤ 1048576
theorem l1Byte_tot (b : List Int) (i h : Int) (hc : curOk b i) : ∃ r, spec_l1Byte.f b i h = some r ∧ 0 ≤ r.1 ∧ r.1 ≤ 255 ∧ curOk b r.2.1 := by
  obtain ⟨h0, hb⟩ := hc
  unfold spec_l1Byte.f
  by_cases hi : i < (b.length : Int)
  · rw [if_pos hi, if_pos h0]
    have := bits_and_le ((wrap64 ((Go.bits .and .i64 (Go.bits .xor .i64 ((wrap64 ((wrap64 (h * 6364136223846793005)) + 1442695040888963407)) / 8589934592) ((wrap64 ((wrap64 (h * 6364136223846793005)) + 1442695040888963407)) / 35184372088832)) 255) + (wrap64 (rd b i))))) 255 (by omega)
    refine ⟨_, rfl, this.1, this.2, ?_, hb⟩
    simp only
    rw [wr1 h0 (by omega)]; omega
  · rw [if_neg hi]
    have := bits_and_le (Go.bits .xor .i64 ((wrap64 ((wrap64 (h * 6364136223846793005)) + 1442695040888963407)) / 8589934592) ((wrap64 ((wrap64 (h * 6364136223846793005)) + 1442695040888963407)) / 35184372088832)) 255 (by omega)
    exact ⟨_, rfl, this.1, this.2, h0, hb⟩
theorem l1Below_tot (b : List Int) (i h n : Int) (hc : curOk b i) (h1 : 1 ≤ n) (h2 : n ≤ 256) : ∃ r, spec_l1Below.f b i h n = some r ∧ (0 ≤ r.1 ∧ r.1 < n) ∧ curOk b r.2.1 := by
  unfold spec_l1Below.f
  rw [if_neg (by omega), if_pos h2]
  obtain ⟨⟨x, i', h'⟩, e, hx0, hx1, hc'⟩ := l1Byte_tot b i h hc
  rw [e]
  simp only [Option.bind_some] at *
  rw [if_neg (by omega)]
  refine ⟨_, rfl, ?_, hc'⟩
  simp only
  rw [Int.tmod_eq_emod_of_nonneg hx0]
  exact ⟨Int.emod_nonneg _ (by omega), Int.emod_lt_of_pos _ (by omega)⟩
theorem l1PickInt_tot (b : List Int) (i h : Int) (l : List Int) (hc : curOk b i) (h1 : 1 ≤ l.length) (h2 : l.length ≤ 256) : ∃ r, spec_l1PickInt.f b i h l = some r ∧ r.1 ∈ l ∧ curOk b r.2.1 := by
  unfold spec_l1PickInt.f
  obtain ⟨⟨x, i', h'⟩, e, ⟨hx0, hx1⟩, hc'⟩ := l1Below_tot b i h (l.length : Int) hc (by omega) (by omega)
  rw [e]
  simp only [Option.bind_some] at *
  rw [if_pos hx0, if_pos hx1]
  refine ⟨_, rfl, ?_, hc'⟩
  simp only
  obtain ⟨n, rfl⟩ := Int.eq_ofNat_of_zero_le hx0
  exact rd_mem (by omega)
theorem l1New_l0 (l : List Int) (hn : l.length ≤ 1048576) (d : Nat) : ∀ (i : Nat) (h : Int), i + d = l.length → Tot (fun k => spec_l1New.l0 k l h (i : Int)) (fun r => r.1 = l ∧ r.2.1 = 0) := by
  induction d with
  | zero =>
    intro i h hi
    refine tot_succ ?_
    simp only [spec_l1New.l0]
    exact tot_neg (by omega) (tot_some ⟨rfl, rfl⟩)
  | succ d ih =>
    intro i h hi
    refine tot_succ ?_
    simp only [spec_l1New.l0, wr1 (show (0 : Int) ≤ (i : Int) by omega) (by omega)]
    exact tot_pos (by omega) (tot_ite (fun _ => tot_pos (by omega) (ih (i + 1) _ (by omega))) (fun _ => tot_some ⟨rfl, rfl⟩))
theorem l1New_tot (l : List Int) (hn : l.length ≤ 1048576) : Tot (fun k => spec_l1New.f k l) (fun r => r.1 = l ∧ r.2.1 = 0) := by
  simp only [spec_l1New.f]
  exact l1New_l0 l hn l.length 0 _ (by omega)


theorem tmod_nat (a b : Nat) : Int.tmod (a : Int) (b : Int) = ((a % b : Nat) : Int) := by
  rw [Int.tmod_eq_emod_of_nonneg (by omega)]; exact (Int.natCast_emod a b).symm
theorem tdiv_nat (a b : Nat) : Int.tdiv (a : Int) (b : Int) = ((a / b : Nat) : Int) := by
  rw [Int.tdiv_eq_ediv_of_nonneg (by omega)]; exact (Int.natCast_ediv a b).symm
theorem gcd_step (a b : Nat) (h : b ≠ 0) : Nat.gcd a b = Nat.gcd b (a % b) := by
  rw [Nat.gcd_comm a b, Nat.gcd_rec b a, Nat.gcd_comm]
theorem impl_gcd_l0 (n : Nat) : ∀ (a b : Nat), b ≤ n → Ev (fun k => impl_gcd.l0 k (a : Int) (b : Int)) ((Nat.gcd a b : Nat) : Int) := by
  induction n with
  | zero =>
    intro a b h
    obtain rfl : b = 0 := by omega
    refine ev_succ ?_
    simp only [impl_gcd.l0]
    exact ev_pos (by omega) (ev_some (by simp))
  | succ n ih =>
    intro a b h
    refine ev_succ ?_
    simp only [impl_gcd.l0, tmod_nat]
    refine ev_ite (fun h0 => ev_some ?_) (fun h0 => ?_)
    · obtain rfl : b = 0 := by omega
      simp
    · rw [gcd_step a b (by omega)]
      exact ih b (a % b) (by have := Nat.mod_lt a (show b > 0 by omega); omega)
theorem impl_gcd_ev (a b : Nat) : Ev (fun k => impl_gcd.f k (a : Int) (b : Int)) ((Nat.gcd a b : Nat) : Int) := by
  simp only [impl_gcd.f]; exact impl_gcd_l0 b a b (Nat.le_refl _)


theorem spec_l10Gcd_l0 (n : Nat) : ∀ (a b : Nat), b ≤ n → Ev (fun k => spec_l10Gcd.l0 k (a : Int) (b : Int)) ((Nat.gcd a b : Nat) : Int) := by
  induction n with
  | zero =>
    intro a b h
    obtain rfl : b = 0 := by omega
    refine ev_succ ?_
    simp only [spec_l10Gcd.l0]
    exact ev_neg (by omega) (ev_some (by simp))
  | succ n ih =>
    intro a b h
    refine ev_succ ?_
    simp only [spec_l10Gcd.l0, tmod_nat]
    refine ev_ite (fun h0 => ?_) (fun h0 => ev_some ?_)
    · refine ev_neg (by omega) ?_
      rw [gcd_step a b (by omega)]
      exact ih b (a % b) (by have := Nat.mod_lt a (show b > 0 by omega); omega)
    · obtain rfl : b = 0 := by omega
      simp
theorem spec_l10Gcd_ev (a b : Nat) : Ev (fun k => spec_l10Gcd.f k (a : Int) (b : Int)) ((Nat.gcd a b : Nat) : Int) := by
  simp only [spec_l10Gcd.f]; exact spec_l10Gcd_l0 b a b (Nat.le_refl _)


def cmpS : List Int → List Int → Int
  | [], [] => 0
  | [], _ :: _ => -1
  | _ :: _, [] => 1
  | x :: a, y :: b => if x < y then -1 else if x > y then 1 else cmpS a b
theorem cmpS_drop_len (a b : List Int) : ∀ i, i ≤ a.length → i ≤ b.length → (i = a.length ∨ i = b.length) → cmpS (a.drop i) (b.drop i) = if a.length < b.length then -1 else if a.length > b.length then 1 else 0 := by
  intro i h1 h2 h3
  rcases Nat.lt_trichotomy a.length b.length with e | e | e
  · rw [if_pos e]
    rw [List.drop_of_length_le (show a.length ≤ i by omega)]
    rw [drop_rd (show i < b.length by omega)]; rfl
  · rw [if_neg (by omega), if_neg (by omega), List.drop_of_length_le (by omega), List.drop_of_length_le (by omega)]; rfl
  · rw [if_neg (by omega), if_pos e]
    rw [List.drop_of_length_le (show b.length ≤ i by omega)]
    rw [drop_rd (show i < a.length by omega)]; rfl
theorem spec_CompareWords_s0 (a b : List Int) (ha : a.length ≤ 4611686018427387904) (d : Nat) : ∀ (i : Nat), i + d = a.length → i ≤ b.length →
    Ev (fun k => spec_CompareWords.l0 k a b (i : Int)) (cmpS (a.drop i) (b.drop i)) := by
  have stop : ∀ i : Nat, i ≤ a.length → i ≤ b.length → (i = a.length ∨ i = b.length) → Ev (fun k => spec_CompareWords.j1 k a b (i : Int) false) (cmpS (a.drop i) (b.drop i)) := by
    intro i h1 h2 h3
    rw [cmpS_drop_len a b i h1 h2 h3]
    refine ev_succ ?_
    simp only [spec_CompareWords.j1]
    refine ev_neg (by simp) ?_
    refine ev_ite (fun h => ev_some ?_) (fun h => ev_ite (fun h' => ev_some ?_) (fun h' => ev_some ?_))
    · rw [if_pos (by omega)]
    · rw [if_neg (by omega), if_pos (by omega)]
    · rw [if_neg (by omega), if_neg (by omega)]
  induction d with
  | zero =>
    intro i hi hb
    refine ev_succ ?_
    simp only [spec_CompareWords.l0]
    exact ev_neg (by omega) (stop i (by omega) hb (.inl (by omega)))
  | succ d ih =>
    intro i hi hb
    refine ev_succ ?_
    simp only [spec_CompareWords.l0]
    refine ev_pos (by omega) ?_
    by_cases h2 : i < b.length
    · rw [decide_eq_true (show (i : Int) < (b.length : Int) by omega)]
      refine ev_succ ?_
      simp only [spec_CompareWords.j1, wr1 (show (0 : Int) ≤ (i : Int) by omega) (by omega)]
      refine ev_pos trivial (ev_pos (by omega) (ev_pos (by omega) (ev_pos (by omega) ?_)))
      rw [drop_rd (by omega : i < a.length), drop_rd h2]
      refine ev_ite (fun h => ev_some ?_) (fun h => ev_ite (fun h' => ev_some ?_) (fun h' => ev_eq (ih (i + 1) (by omega) (by omega)) ?_))
      · simp only [cmpS, if_pos h]
      · simp only [cmpS, if_neg h, if_pos h']
      · simp only [cmpS, if_neg h, if_neg h']
    · rw [decide_eq_false (show ¬ (i : Int) < (b.length : Int) by omega)]
      exact stop i (by omega) hb (.inr (by omega))
theorem spec_CompareWords_sev (a b : List Int) (ha : a.length ≤ 4611686018427387904) : Ev (fun k => spec_CompareWords.f k a b) (cmpS a b) := by
  simp only [spec_CompareWords.f]
  exact ev_eq (spec_CompareWords_s0 a b ha a.length 0 (by omega) (by omega)) (by simp)


def lynGo (w : List Int) : List Int → Bool
  | [] => true
  | x :: l => decide (cmpS w (x :: l) < 0) && lynGo w l
def lyn (w : List Int) : Bool := match w with
  | [] => false
  | _ :: l => lynGo w l
theorem spec_IsLyndon_l0 (w : List Int) (hw : w.length ≤ 1000000) (h0 : 0 < w.length) (d : Nat) : ∀ i : Nat, i + d = w.length → Ev (fun k => spec_IsLyndon.l0 k w (i : Int)) (lynGo w (w.drop i)) := by
  induction d with
  | zero =>
    intro i hi
    refine ev_succ ?_
    simp only [spec_IsLyndon.l0]
    refine ev_neg (by omega) (ev_some ?_)
    rw [List.drop_of_length_le (by omega), decide_eq_true (by omega)]
    rfl
  | succ d ih =>
    intro i hi
    have hs : wrap64 ((i : Int) + 1) = ((i + 1 : Nat) : Int) := by rw [wr1 (by omega) (by omega)]; rfl
    have hd : w.drop i = rd w (i : Int) :: w.drop (i + 1) := drop_rd (by omega)
    refine ev_succ ?_
    simp only [spec_IsLyndon.l0, hs, Int.toNat_natCast]
    refine ev_pos (by omega) (ev_pos (by omega) (ev_pos (by omega) ?_))
    refine ev_bind (spec_CompareWords_sev w (w.drop i) (by omega)) ?_
    rw [hd]
    refine ev_ite (fun h => ev_some ?_) (fun h => ev_eq (ih (i + 1) (by omega)) ?_)
    · simp only [lynGo]
      rw [decide_eq_false (by omega)]
      rfl
    · simp only [lynGo]
      rw [decide_eq_true (by omega)]
      rfl
theorem spec_IsLyndon_ev (w : List Int) (hw : w.length ≤ 1000000) : Ev (fun k => spec_IsLyndon.f k w) (lyn w) := by
  simp only [spec_IsLyndon.f]
  cases w with
  | nil =>
    refine ev_succ ?_
    simp only [spec_IsLyndon.l0]
    exact ev_neg (by simp) (ev_some (by simp [lyn]))
  | cons x l => exact spec_IsLyndon_l0 (x :: l) hw (by simp) l.length 1 (by simp; omega)


def cnt (a : Int) : List Int → Int
  | [] => 0
  | x :: l => (if x = a then 1 else 0) + cnt a l
theorem cnt_bd (a : Int) (l : List Int) : 0 ≤ cnt a l ∧ cnt a l ≤ l.length := by
  induction l with
  | nil => exact ⟨by simp [cnt], by simp [cnt]⟩
  | cons x l ih =>
    simp only [cnt, List.length_cons]
    split <;> omega
theorem spec_CountLetters_l0 (l : List Int) (a : Int) (hn : l.length ≤ 4611686018427387904) (d : Nat) : ∀ (i : Nat) (s : Int), i + d = l.length → 0 ≤ s → s ≤ i →
    Ev (fun k => spec_CountLetters.l0 k l a s (i : Int)) (s + cnt a (l.drop i)) := by
  induction d with
  | zero =>
    intro i s hi h0 h1
    refine ev_succ ?_
    simp only [spec_CountLetters.l0]
    refine ev_neg (by omega) (ev_some ?_)
    rw [List.drop_of_length_le (by omega)]; simp [cnt]
  | succ d ih =>
    intro i s hi h0 h1
    refine ev_succ ?_
    simp only [spec_CountLetters.l0, wr1 (show (0 : Int) ≤ (i : Int) by omega) (by omega), wr1 h0 (by omega)]
    refine ev_pos (by omega) (ev_pos (by omega) ?_)
    rw [drop_rd (by omega : i < l.length)]
    refine ev_ite (fun h => ev_eq (ih (i + 1) (s + 1) (by omega) (by omega) (by omega)) ?_) (fun h => ev_eq (ih (i + 1) s (by omega) (by omega) (by omega)) ?_)
    · simp only [cnt, if_pos h]; omega
    · simp only [cnt, if_neg h]; omega
theorem spec_CountLetters_ev (l : List Int) (a : Int) (hn : l.length ≤ 4611686018427387904) : Ev (fun k => spec_CountLetters.f k l a) (cnt a l) := by
  simp only [spec_CountLetters.f]
  exact ev_eq (spec_CountLetters_l0 l a hn l.length 0 0 (by omega) (by omega) (by omega)) (by simp)
theorem oneIf_eq (b : Bool) : impl_oneIf.f b = some (if b = true then 1 else 0) := by
  unfold impl_oneIf.f
  cases b <;> rfl
theorem impl_CountLetters_l0 (l : List Int) (a : Int) (hn : l.length ≤ 4611686018427387904) (d : Nat) : ∀ (i : Nat) (s : Int), i + d = l.length → 0 ≤ s → s ≤ i →
    Ev (fun k => impl_CountLetters.l0 k a s l (l.length : Int) (i : Int)) (s + cnt a (l.drop i)) := by
  induction d with
  | zero =>
    intro i s hi h0 h1
    refine ev_succ ?_
    simp only [impl_CountLetters.l0]
    refine ev_neg (by omega) (ev_some ?_)
    rw [List.drop_of_length_le (by omega)]; simp [cnt]
  | succ d ih =>
    intro i s hi h0 h1
    refine ev_succ ?_
    simp only [impl_CountLetters.l0, wr1 (show (0 : Int) ≤ (i : Int) by omega) (by omega), oneIf_eq, Option.bind_some, beq_iff_eq]
    refine ev_pos (by omega) (ev_pos (by omega) (ev_pos (by omega) ?_))
    rw [drop_rd (by omega : i < l.length)]
    by_cases h : rd l (i : Int) = a
    · simp only [if_pos h]
      rw [wr1 h0 (by omega)]
      refine ev_eq (ih (i + 1) (s + 1) (by omega) (by omega) (by omega)) ?_
      simp only [cnt, if_pos h]; omega
    · simp only [if_neg h]
      rw [wr (by omega) (by omega), Int.add_zero]
      refine ev_eq (ih (i + 1) s (by omega) (by omega) (by omega)) ?_
      simp only [cnt, if_neg h]; omega
theorem impl_CountLetters_ev (l : List Int) (a : Int) (hn : l.length ≤ 4611686018427387904) : Ev (fun k => impl_CountLetters.f k l a) (cnt a l) := by
  simp only [impl_CountLetters.f]
  exact ev_eq (impl_CountLetters_l0 l a hn l.length 0 0 (by omega) (by omega) (by omega)) (by simp)


theorem spec_SlopeOf_ev (l : List Int) (hn : l.length ≤ 4611686018427387904) : Ev (fun k => spec_SlopeOf.f k l) (cnt 1 l, cnt 0 l) := by
  simp only [spec_SlopeOf.f]
  refine ev_bind (spec_CountLetters_ev l 1 hn) (ev_bind (spec_CountLetters_ev l 0 hn) (ev_some rfl))
theorem impl_SlopeOf_ev (l : List Int) (hn : l.length ≤ 4611686018427387904) : Ev (fun k => impl_SlopeOf.f k l) (cnt 1 l, cnt 0 l) := by
  simp only [impl_SlopeOf.f]
  refine ev_bind (impl_CountLetters_ev l 1 hn) (ev_bind (impl_CountLetters_ev l 0 hn) (ev_some rfl))


theorem l1In_eq (a b c : Int) : spec_l1In.f a b c = some (decide (b ≤ a ∧ a ≤ c)) := by
  unfold spec_l1In.f
  by_cases h : a ≥ b
  · rw [if_pos h]; simp [show b ≤ a from h]
  · rw [if_neg h]; simp [show ¬ b ≤ a from h]


def chLet (p n i : Int) : Int := wrap64 ((wrap64 (Int.tdiv (wrap64 ((wrap64 (i + 1)) * p)) n)) - (wrap64 (Int.tdiv (wrap64 (i * p)) n)))
def chRaw (p n : Int) (m : Nat) : List Int := (List.range m).map fun (i : Nat) => chLet p n (i : Int)
theorem chRaw_succ (p n : Int) (i : Nat) : chRaw p n (i + 1) = chRaw p n i ++ [chLet p n (i : Int)] := by
  simp [chRaw, List.range_succ]
theorem chRaw_length (p n : Int) (i : Nat) : (chRaw p n i).length = i := by simp [chRaw]
def chOk (p q : Int) : Bool := decide ((0 ≤ p ∧ p ≤ 64) ∧ (0 ≤ q ∧ q ≤ 64) ∧ (1 ≤ p + q ∧ p + q ≤ 64)) && decide (Nat.gcd p.toNat q.toNat = 1)
def chRes (p q : Int) : List Int × Bool := if chOk p q = true then (chRaw p (p + q) (p + q).toNat, true) else ([], false)
theorem chRes_length (p q : Int) : (chRes p q).1.length ≤ 64 := by
  unfold chRes
  split
  · rename_i h
    simp only [chOk, Bool.and_eq_true, decide_eq_true_eq] at h
    rw [chRaw_length]; omega
  · simp
theorem spec_ChristoffelWord_l0 (p : Int) (n : Nat) (h1 : 1 ≤ n) (hn : n ≤ 64) (d : Nat) : ∀ (i : Nat), i + d = n →
    Ev (fun k => spec_ChristoffelWord.l0 k p (chRaw p n i) (n : Int) (i : Int)) (chRaw p n n, true) := by
  induction d with
  | zero =>
    intro i hi
    refine ev_succ ?_
    simp only [spec_ChristoffelWord.l0]
    refine ev_neg (by omega) (ev_some ?_)
    rw [show i = n by omega]
  | succ d ih =>
    intro i hi
    have := ih (i + 1) (by omega)
    rw [chRaw_succ] at this
    refine ev_succ ?_
    simp only [spec_ChristoffelWord.l0]
    refine ev_pos (by omega) (ev_neg (by omega) (ev_pos (by rw [chRaw_length]; omega) ?_))
    rw [wr1 (show (0 : Int) ≤ (i : Int) by omega) (by omega)]
    simp only [chLet, wr1 (show (0 : Int) ≤ (i : Int) by omega) (show (i : Int) ≤ 4611686018427387904 by omega)] at this
    exact this
theorem impl_christoffel_l0 (p q : Int) (n : Nat) (h1 : 1 ≤ n) (hn : n ≤ 64) (hpq : p + q = n) (d : Nat) : ∀ (i : Nat), i + d = n →
    Ev (fun k => impl_christoffel.l0 k p q (chRaw p n i) (n : Int) (i : Int)) (chRaw p n n) := by
  induction d with
  | zero =>
    intro i hi
    refine ev_succ ?_
    simp only [impl_christoffel.l0]
    refine ev_neg (by omega) (ev_some ?_)
    rw [show i = n by omega]
  | succ d ih =>
    intro i hi
    have := ih (i + 1) (by omega)
    rw [chRaw_succ] at this
    refine ev_succ ?_
    simp only [impl_christoffel.l0, wr1 (show (0 : Int) ≤ (i : Int) by omega) (show (i : Int) ≤ 4611686018427387904 by omega), hpq, wr_nat (show n ≤ 4611686018427387904 by omega)]
    refine ev_pos (by omega) (ev_neg (by omega) (ev_pos (by rw [chRaw_length]; omega) ?_))
    simp only [chLet, wr1 (show (0 : Int) ≤ (i : Int) by omega) (show (i : Int) ≤ 4611686018427387904 by omega)] at this
    exact this
theorem gcd_mxmn (a b : Nat) : Nat.gcd (max a b) (min a b) = Nat.gcd a b := by
  rcases Nat.le_total a b with h | h
  · rw [Nat.max_eq_right h, Nat.min_eq_left h, Nat.gcd_comm]
  · rw [Nat.max_eq_left h, Nat.min_eq_right h]
theorem spec_l24Fine_ev (p q : Int) : Ev (fun k => spec_l24Fine.f k p q) (chOk p q) := by
  simp only [spec_l24Fine.f, l1In_eq, Option.bind_some]
  have no : ¬ ((0 ≤ p ∧ p ≤ 64) ∧ (0 ≤ q ∧ q ≤ 64) ∧ (1 ≤ p + q ∧ p + q ≤ 64)) → Ev (fun _ => some false) (chOk p q) := by
    intro h
    refine ev_some ?_
    simp only [chOk, decide_eq_false h, Bool.false_and]
  by_cases h1 : 0 ≤ p ∧ p ≤ 64
  · refine ev_pos (by simpa using h1) ?_
    by_cases h2 : 0 ≤ q ∧ q ≤ 64
    · refine ev_pos (by simpa using h2) ?_
      rw [wr (by omega) (by omega)]
      by_cases h3 : 1 ≤ p + q ∧ p + q ≤ 64
      · refine ev_pos (by simpa using h3) ?_
        obtain ⟨a, rfl⟩ := Int.eq_ofNat_of_zero_le (show 0 ≤ p by omega)
        obtain ⟨b, rfl⟩ := Int.eq_ofNat_of_zero_le (show 0 ≤ q by omega)
        have e1 : mx (a : Int) (b : Int) = ((max a b : Nat) : Int) := by unfold mx; omega
        have e2 : mn (a : Int) (b : Int) = ((min a b : Nat) : Int) := by unfold mn; omega
        rw [e1, e2]
        refine ev_bind (spec_l10Gcd_ev _ _) (ev_some ?_)
        rw [gcd_mxmn]
        simp only [chOk, decide_eq_true (⟨h1, h2, h3⟩ : (0 ≤ (a : Int) ∧ (a : Int) ≤ 64) ∧ (0 ≤ (b : Int) ∧ (b : Int) ≤ 64) ∧ (1 ≤ (a : Int) + b ∧ (a : Int) + b ≤ 64)), Bool.true_and, Int.toNat_natCast]
        rw [Bool.eq_iff_iff]
        simp only [beq_iff_eq, decide_eq_true_eq]
        omega
      · exact ev_neg (by simpa using h3) (no (by omega))
    · exact ev_neg (by simpa using h2) (no (by omega))
  · exact ev_neg (by simpa using h1) (no (by omega))
theorem spec_ChristoffelWord_ev (p q : Int) : Ev (fun k => spec_ChristoffelWord.f k p q) (chRes p q) := by
  simp only [spec_ChristoffelWord.f]
  refine ev_bind (spec_l24Fine_ev p q) (ev_ite (fun h => ?_) (fun h => ev_some (by unfold chRes; rw [if_neg h])))
  have h' := h
  simp only [chOk, Bool.and_eq_true, decide_eq_true_eq] at h'
  obtain ⟨n, hn⟩ := Int.eq_ofNat_of_zero_le (show 0 ≤ p + q by omega)
  unfold chRes
  rw [if_pos h, hn, Int.toNat_natCast, wr_nat (by omega)]
  exact spec_ChristoffelWord_l0 p n (by omega) (by omega) n 0 (by omega)
theorem impl_ChristoffelWord_ev (p q : Int) : Ev (fun k => impl_ChristoffelWord.f k p q) (chRes p q) := by
  simp only [impl_ChristoffelWord.f]
  have no : ¬ ((0 ≤ p ∧ p ≤ 64) ∧ (0 ≤ q ∧ q ≤ 64) ∧ (1 ≤ p + q ∧ p + q ≤ 64)) → Ev (fun _ => some (([] : List Int), false)) (chRes p q) := by
    intro h
    refine ev_some ?_
    simp [chRes, chOk, decide_eq_false h]
  refine ev_ite (fun h => no (by omega)) (fun h1 => ?_)
  refine ev_ite (fun h => no (by omega)) (fun h2 => ?_)
  refine ev_ite (fun h => no (by omega)) (fun h3 => ?_)
  refine ev_ite (fun h => no (by omega)) (fun h4 => ?_)
  rw [wr (by omega) (by omega)]
  refine ev_ite (fun h => no (by omega)) (fun h5 => ?_)
  refine ev_ite (fun h => no (by omega)) (fun h6 => ?_)
  obtain ⟨a, rfl⟩ := Int.eq_ofNat_of_zero_le (show 0 ≤ p by omega)
  obtain ⟨b, rfl⟩ := Int.eq_ofNat_of_zero_le (show 0 ≤ q by omega)
  refine ev_bind (impl_gcd_ev a b) ?_
  have hg : 0 < Nat.gcd a b := by
    rcases Nat.eq_zero_or_pos a with h | h
    · exact Nat.gcd_pos_of_pos_right _ (by omega)
    · exact Nat.gcd_pos_of_pos_left _ h
  have hd : decide ((0 ≤ (a : Int) ∧ (a : Int) ≤ 64) ∧ (0 ≤ (b : Int) ∧ (b : Int) ≤ 64) ∧ (1 ≤ (a : Int) + b ∧ (a : Int) + b ≤ 64)) = true := decide_eq_true ⟨by omega, by omega, by omega⟩
  refine ev_ite (fun h => ev_some ?_) (fun h => ?_)
  · unfold chRes chOk
    rw [hd, Int.toNat_natCast, Int.toNat_natCast, decide_eq_false (by omega)]; rfl
  · unfold chRes chOk
    rw [hd, Int.toNat_natCast, Int.toNat_natCast, decide_eq_true (by omega)]
    simp only [Bool.and_self, if_true]
    simp only [impl_christoffel.f]
    rw [show (a : Int) + b = ((a + b : Nat) : Int) by omega, wr_nat (by omega), Int.toNat_natCast]
    exact ev_bind (impl_christoffel_l0 a b (a + b) (by omega) (by omega) (by omega) (a + b) 0 (by omega)) (ev_some rfl)


def cmpW : List Int → List Int → Int
  | [], [] => 0
  | [], _ :: _ => -1
  | _ :: _, [] => 1
  | x :: a, y :: b => if x < y then -1 else if x > y then 1 else cmpW a b
theorem cmpW_zero : ∀ (a b : List Int), cmpW a b = 0 ↔ a = b := by
  intro a
  induction a with
  | nil => intro b; cases b <;> simp [cmpW]
  | cons x a ih =>
    intro b
    cases b with
    | nil => simp [cmpW]
    | cons y b =>
      simp only [cmpW]
      split
      · simp; omega
      · split
        · simp; omega
        · rw [ih]; simp; omega
theorem cmp_Compare_eq (a b : Int) : cmp_Compare_int.f a b = some (if a < b then -1 else if a > b then 1 else 0) := by
  simp only [cmp_Compare_int.f, cmp_isNaN_int.f, Option.bind_some]
  simp only [bne_self_eq_false, Bool.false_eq_true, if_false]
  split
  · rfl
  · split <;> rfl
theorem slices_Compare_l0 (a b : List Int) (hn : a.length ≤ 4611686018427387904) (d : Nat) : ∀ (i : Nat), i + d = a.length → i ≤ b.length →
    Ev (fun k => slices_Compare_int_int.l0 k a b a (a.length : Int) (i : Int)) (cmpW (a.drop i) (b.drop i)) := by
  induction d with
  | zero =>
    intro i hi hb
    refine ev_succ ?_
    simp only [slices_Compare_int_int.l0]
    refine ev_neg (by omega) ?_
    rw [List.drop_of_length_le (by omega)]
    refine ev_ite (fun h => ev_some ?_) (fun h => ev_some ?_)
    · rw [drop_rd (by omega : i < b.length)]; rfl
    · rw [List.drop_of_length_le (by omega)]; rfl
  | succ d ih =>
    intro i hi hb
    refine ev_succ ?_
    simp only [slices_Compare_int_int.l0, wr1 (show (0 : Int) ≤ (i : Int) by omega) (by omega), cmp_Compare_eq, Option.bind_some]
    rw [drop_rd (by omega : i < a.length)]
    refine ev_pos (by omega) (ev_pos (by omega) (ev_pos (by omega) (ev_ite (fun h => ev_some ?_) (fun h => ev_pos (by omega) ?_))))
    · rw [show b.drop i = [] from List.drop_of_length_le (by omega)]; rfl
    · rw [drop_rd (by omega : i < b.length)]
      simp only [cmpW]
      by_cases h1 : rd a (i : Int) < rd b (i : Int)
      · simp only [if_pos h1]; exact ev_neg (by omega) (ev_some rfl)
      · by_cases h2 : rd a (i : Int) > rd b (i : Int)
        · simp only [if_neg h1, if_pos h2]; exact ev_neg (by omega) (ev_some rfl)
        · simp only [if_neg h1, if_neg h2]; exact ev_pos trivial (ih (i + 1) (by omega) (by omega))
theorem slices_Compare_ev (a b : List Int) (hn : a.length ≤ 4611686018427387904) : Ev (fun k => slices_Compare_int_int.f k a b) (cmpW a b) := by
  simp only [slices_Compare_int_int.f]
  exact ev_eq (slices_Compare_l0 a b hn a.length 0 (by omega) (by omega)) (by simp)
theorem impl_CompareWords_ev (a b : List Int) (hn : a.length ≤ 4611686018427387904) : Ev (fun k => impl_CompareWords.f k a b) (cmpW a b) := by
  simp only [impl_CompareWords.f]
  exact ev_bind (slices_Compare_ev a b hn) (ev_some rfl)


theorem spec_l3Same_l0 (a b : List Int) (hl : a.length = b.length) (hn : a.length ≤ 4611686018427387904) (d : Nat) : ∀ (i : Nat), i + d = a.length → Ev (fun k => spec_l3Same.l0 k a b (i : Int)) (decide (a.drop i = b.drop i)) := by
  induction d with
  | zero =>
    intro i hi
    refine ev_succ ?_
    simp only [spec_l3Same.l0]
    refine ev_neg (by omega) (ev_some ?_)
    rw [List.drop_of_length_le (by omega), List.drop_of_length_le (by omega)]; rfl
  | succ d ih =>
    intro i hi
    refine ev_succ ?_
    simp only [spec_l3Same.l0, wr1 (show (0 : Int) ≤ (i : Int) by omega) (by omega)]
    rw [drop_rd (by omega : i < a.length), drop_rd (by omega : i < b.length)]
    refine ev_pos (by omega) (ev_pos (by omega) (ev_pos (by omega) (ev_ite (fun h => ev_eq (ih (i + 1) (by omega)) ?_) (fun h => ev_some ?_))))
    · rw [h]; simp
    · simp [h]
theorem spec_l3Same_ev (a b : List Int) (hn : a.length ≤ 4611686018427387904) : Ev (fun k => spec_l3Same.f k a b) (decide (a = b)) := by
  simp only [spec_l3Same.f]
  refine ev_ite (fun h => ev_eq (spec_l3Same_l0 a b (by omega) hn a.length 0 (by omega)) (by simp)) (fun h => ev_some ?_)
  symm
  simp only [decide_eq_false_iff_not]
  rintro rfl
  exact h rfl


def isChr (l : List Int) : Bool := (chRes (cnt 1 l) (cnt 0 l)).2 && decide ((chRes (cnt 1 l) (cnt 0 l)).1 = l)
theorem spec_IsChristoffel_ev (l : List Int) (hn : l.length ≤ 4611686018427387904) : Ev (fun k => spec_IsChristoffel.f k l) (isChr l) := by
  simp only [spec_IsChristoffel.f]
  have hl := chRes_length (cnt 1 l) (cnt 0 l)
  refine ev_bind (spec_SlopeOf_ev l hn) (ev_bind (spec_ChristoffelWord_ev (cnt 1 l) (cnt 0 l)) (ev_ite (fun h => ev_bind (spec_l3Same_ev (chRes (cnt 1 l) (cnt 0 l)).1 l (by omega)) (ev_some ?_)) (fun h => ev_some ?_)))
  · unfold isChr; rw [h]; rfl
  · unfold isChr; rw [Bool.not_eq_true] at h; rw [h]; rfl
theorem impl_IsChristoffel_ev (l : List Int) (hn : l.length ≤ 4611686018427387904) : Ev (fun k => impl_IsChristoffel.f k l) (isChr l) := by
  simp only [impl_IsChristoffel.f]
  have hl := chRes_length (cnt 1 l) (cnt 0 l)
  refine ev_bind (impl_SlopeOf_ev l hn) (ev_bind (impl_ChristoffelWord_ev (cnt 1 l) (cnt 0 l)) (ev_ite (fun h => ev_bind (impl_CompareWords_ev (chRes (cnt 1 l) (cnt 0 l)).1 l (by omega)) (ev_some ?_)) (fun h => ev_some ?_)))
  · unfold isChr; rw [h]
    rw [Bool.eq_iff_iff]
    simp [cmpW_zero]
  · unfold isChr; rw [Bool.not_eq_true] at h; rw [h]; rfl


def spl (l : List Int) : Nat → Nat → List Int × List Int × Bool
  | 0, _ => ([], [], false)
  | d + 1, i => if isChr (l.take i) = true ∧ isChr (l.drop i) = true then (l.take i, l.drop i, true) else spl l d (i + 1)
theorem spec_split_l0 (l : List Int) (hl : l.length ≤ 64) (d : Nat) : ∀ (i : Nat), i + d = l.length → Ev (fun k => spec_ChristoffelSplit.l0 k l (i : Int)) (spl l d i) := by
  induction d with
  | zero =>
    intro i hi
    refine ev_succ ?_
    simp only [spec_ChristoffelSplit.l0]
    exact ev_neg (by omega) (ev_some rfl)
  | succ d ih =>
    intro i hi
    have hn := ih (i + 1) (by omega)
    refine ev_succ ?_
    simp only [spec_ChristoffelSplit.l0]
    rw [wr1 (show (0 : Int) ≤ (i : Int) by omega) (by omega), show ((i : Int) + 1) = ((i + 1 : Nat) : Int) by omega, Int.toNat_natCast]
    unfold spl
    refine ev_pos (by omega) (ev_pos (by omega) (ev_pos (by omega) ?_))
    refine ev_bind (spec_IsChristoffel_ev _ (by simp; omega)) (ev_ite (fun h1 => ?_) (fun h1 => ?_))
    · refine ev_bind (spec_IsChristoffel_ev _ (by simp; omega)) (ev_ite (fun h2 => ?_) (fun h2 => ?_))
      · rw [if_pos (And.intro h1 h2)]
        refine ev_bind (ev_some rfl) (ev_bind (ev_some rfl) (ev_pos (by simp; omega) (ev_bind (ev_some rfl) (ev_bind (ev_some rfl) (ev_pos (by simp; omega) (ev_some ?_))))))
        simp
      · rw [if_neg (fun e => h2 e.2)]; exact hn
    · rw [if_neg (fun e => h1 e.1)]; exact hn
theorem impl_split_l0 (l : List Int) (hl : l.length ≤ 64) (d : Nat) : ∀ (i : Nat), i + d = l.length → Ev (fun k => impl_ChristoffelSplit.l0 k l (i : Int)) (spl l d i) := by
  induction d with
  | zero =>
    intro i hi
    refine ev_succ ?_
    simp only [impl_ChristoffelSplit.l0]
    exact ev_neg (by omega) (ev_some rfl)
  | succ d ih =>
    intro i hi
    have hn := ih (i + 1) (by omega)
    refine ev_succ ?_
    simp only [impl_ChristoffelSplit.l0]
    rw [wr1 (show (0 : Int) ≤ (i : Int) by omega) (by omega), show ((i : Int) + 1) = ((i + 1 : Nat) : Int) by omega, Int.toNat_natCast]
    unfold spl
    refine ev_pos (by omega) (ev_pos (by omega) (ev_pos (by omega) ?_))
    refine ev_bind (impl_IsChristoffel_ev _ (by simp; omega)) (ev_ite (fun h1 => ?_) (fun h1 => ?_))
    · refine ev_bind (impl_IsChristoffel_ev _ (by simp; omega)) (ev_ite (fun h2 => ?_) (fun h2 => ?_))
      · rw [if_pos (And.intro h1 h2)]
        refine ev_bind (ev_some rfl) (ev_bind (ev_some rfl) (ev_pos (by simp; omega) (ev_bind (ev_some rfl) (ev_bind (ev_some rfl) (ev_pos (by simp; omega) (ev_some ?_))))))
        simp
      · rw [if_neg (fun e => h2 e.2)]; exact hn
    · rw [if_neg (fun e => h1 e.1)]; exact hn
def splRes (p q : Int) : List Int × List Int × Bool := if (chRes p q).2 = true then spl (chRes p q).1 ((chRes p q).1.length - 1) 1 else ([], [], false)
theorem spl_len (l : List Int) : ∀ (d i : Nat), (spl l d i).1.length ≤ l.length ∧ (spl l d i).2.1.length ≤ l.length
  | 0, i => by simp [spl]
  | d + 1, i => by
    unfold spl
    split
    · simp; omega
    · exact spl_len l d (i + 1)
theorem splRes_len (p q : Int) : (splRes p q).1.length ≤ 64 ∧ (splRes p q).2.1.length ≤ 64 := by
  have h1 := chRes_length p q
  unfold splRes
  split
  · have := spl_len (chRes p q).1 ((chRes p q).1.length - 1) 1; omega
  · simp
theorem impl_ChristoffelSplit_ev (p q : Int) : Ev (fun k => impl_ChristoffelSplit.f k p q) (splRes p q) := by
  simp only [impl_ChristoffelSplit.f]
  have hl := chRes_length p q
  unfold splRes
  refine ev_bind (impl_ChristoffelWord_ev p q) (ev_ite (fun h => ?_) (fun h => ev_some (by rw [if_neg h])))
  rw [if_pos h]
  by_cases h0 : (chRes p q).1.length = 0
  · rw [h0]
    refine ev_succ ?_
    simp only [impl_ChristoffelSplit.l0]
    exact ev_neg (by omega) (ev_some rfl)
  · exact impl_split_l0 (chRes p q).1 hl _ 1 (by omega)
theorem spec_ChristoffelSplit_ev (p q : Int) : Ev (fun k => spec_ChristoffelSplit.f k p q) (splRes p q) := by
  simp only [spec_ChristoffelSplit.f]
  have hl := chRes_length p q
  have no : ∀ b : Bool, b = true → splRes p q = ([], [], false) → Ev (fun k => spec_ChristoffelSplit.j0 k (chRes p q).1 b) (splRes p q) := by
    intro b hb h
    subst hb
    refine ev_succ ?_
    simp only [spec_ChristoffelSplit.j0]
    exact ev_pos trivial (ev_some h.symm)
  refine ev_bind (spec_ChristoffelWord_ev p q) (ev_ite (fun h => ?_) (fun h => no _ rfl (by unfold splRes; rw [if_neg h])))
  by_cases h2 : (chRes p q).1.length < 2
  · refine no _ (decide_eq_true (by omega)) ?_
    unfold splRes
    rw [if_pos h, show (chRes p q).1.length - 1 = 0 by omega]; rfl
  · rw [decide_eq_false (show ¬ ((chRes p q).1.length : Int) < 2 by omega)]
    refine ev_succ ?_
    simp only [spec_ChristoffelSplit.j0]
    refine ev_neg (by simp) ?_
    unfold splRes
    rw [if_pos h]
    exact spec_split_l0 (chRes p q).1 hl _ 1 (by omega)


/-- the ones in the first i letters -/
def pre1 (w : List Int) (i : Nat) : Int := cnt 1 (w.take i)
theorem cnt_append (a : Int) (u v : List Int) : cnt a (u ++ v) = cnt a u + cnt a v := by
  induction u with
  | nil => simp [cnt]
  | cons x u ih => simp only [List.cons_append, cnt, ih]; omega
theorem pre1_succ (w : List Int) (i : Nat) (h : i < w.length) : pre1 w (i + 1) = pre1 w i + (if rd w (i : Int) = 1 then 1 else 0) := by
  unfold pre1
  rw [List.take_succ_eq_append_getElem h, cnt_append, ← rd_get h]
  simp [cnt]
theorem pre1_bd (w : List Int) (i : Nat) : 0 ≤ pre1 w i ∧ pre1 w i ≤ i := by
  have := cnt_bd 1 (w.take i)
  have h2 : (w.take i).length ≤ i := List.length_take_le _ _
  unfold pre1
  omega
/-- how many more ones the part at i of length n has than the part at j -/
def dif (w : List Int) (n i j : Nat) : Int := pre1 w (i + n) - pre1 w i - pre1 w (j + n) + pre1 w j
def bad (w : List Int) (n i j : Nat) : Bool := decide (dif w n i j > 1 ∨ dif w n i j < -1)
def sJ (w : List Int) (n i : Nat) : Nat → Nat → Option (Nat × Nat × Nat)
  | 0, _ => none
  | r + 1, j => if bad w n i j = true then some (n, i, j) else sJ w n i r (j + 1)
def sI (w : List Int) (n : Nat) : Nat → Nat → Option (Nat × Nat × Nat)
  | 0, _ => none
  | r + 1, i => match sJ w n i (w.length - n - i) (i + 1) with
    | some t => some t
    | none => sI w n r (i + 1)
def sN (w : List Int) : Nat → Nat → Option (Nat × Nat × Nat)
  | 0, _ => none
  | r + 1, n => match sI w n (w.length - n + 1) 0 with
    | some t => some t
    | none => sN w r (n + 1)
def ubFind (w : List Int) : Option (Nat × Nat × Nat) := sN w (w.length - 1) 1
def ubTell : Option (Nat × Nat × Nat) → Int × Int × Int × Bool
  | none => (0, 0, 0, false)
  | some (n, i, j) => ((n : Int), (i : Int), (j : Int), true)
def sums (w : List Int) (m : Nat) : List Int := (List.range m).map fun (i : Nat) => pre1 w i
theorem sums_length (w : List Int) (m : Nat) : (sums w m).length = m := by simp [sums]
theorem sums_succ (w : List Int) (m : Nat) : sums w (m + 1) = sums w m ++ [pre1 w m] := by simp [sums, List.range_succ]
theorem sums_rd (w : List Int) (m i : Nat) (h : i < m) : rd (sums w m) (i : Int) = pre1 w i := by
  rw [rd_get (by rw [sums_length]; exact h)]; simp [sums]

def areL (m : Int) (l : List Int) : Bool := l.all fun x => decide (0 ≤ x ∧ x < m)

def isBal (w : List Int) : Bool := decide (w.length ≤ 64) && areL 2 w && (ubFind w).isNone
theorem ubTell_found (o : Option (Nat × Nat × Nat)) : (ubTell o).2.2.2 = o.isSome := by cases o <;> rfl

def mwLet (p q s : Int) (i : Int) : Int := wrap64 ((wrap64 (Int.tdiv (wrap64 ((wrap64 ((wrap64 (i + 1)) * p)) + s)) q)) - (wrap64 (Int.tdiv (wrap64 ((wrap64 (i * p)) + s)) q)))
def mwRaw (p q s : Int) (n : Nat) : List Int := (List.range n).map fun (i : Nat) => mwLet p q s (i : Int)
theorem mwRaw_succ (p q s : Int) (i : Nat) : mwRaw p q s (i + 1) = mwRaw p q s i ++ [mwLet p q s (i : Int)] := by
  simp [mwRaw, List.range_succ]
theorem mwRaw_length (p q s : Int) (i : Nat) : (mwRaw p q s i).length = i := by simp [mwRaw]
def mwOk (p q s n : Int) : Bool := decide ((1 ≤ q ∧ q ≤ 1000) ∧ (0 ≤ p ∧ p ≤ q) ∧ (0 ≤ s ∧ s < q) ∧ (0 ≤ n ∧ n ≤ 256))
def mwRes (p q s n : Int) : List Int × Bool := if mwOk p q s n = true then (mwRaw p q s n.toNat, true) else ([], false)
theorem mwRes_length (p q s n : Int) : (mwRes p q s n).1.length ≤ 256 := by
  unfold mwRes
  split
  · rename_i h
    simp only [mwOk, decide_eq_true_eq] at h
    rw [mwRaw_length]; omega
  · simp


def flo (p q s i : Nat) : Nat := (i * p + s) / q
theorem div_two (x y q : Nat) (hq : 0 < q) : x / q + y / q ≤ (x + y) / q ∧ (x + y) / q ≤ x / q + y / q + 1 := by
  have h1 := Nat.div_add_mod x q
  have h2 := Nat.div_add_mod y q
  have h3 := Nat.mod_lt x hq
  have h4 := Nat.mod_lt y hq
  constructor
  · rw [Nat.le_div_iff_mul_le hq, Nat.add_mul, Nat.mul_comm (x / q), Nat.mul_comm (y / q)]; omega
  · have : (x + y) / q < x / q + y / q + 2 := by
      rw [Nat.div_lt_iff_lt_mul hq, Nat.add_mul, Nat.add_mul, Nat.mul_comm (x / q), Nat.mul_comm (y / q)]; omega
    omega
theorem flo_step (p q s i n : Nat) (hq : 0 < q) : flo p q s i + n * p / q ≤ flo p q s (i + n) ∧ flo p q s (i + n) ≤ flo p q s i + n * p / q + 1 := by
  have h := div_two (i * p + s) (n * p) q hq
  unfold flo
  rw [Nat.add_mul, show i * p + n * p + s = i * p + s + n * p by omega]
  exact h
theorem flo_one (p q s i : Nat) (hq : 0 < q) (hpq : p ≤ q) : flo p q s i ≤ flo p q s (i + 1) ∧ flo p q s (i + 1) ≤ flo p q s i + 1 := by
  have h1 := flo_step p q s i 1 hq
  rw [Nat.one_mul] at h1
  by_cases he : p = q
  · subst he
    have e : flo p p s (i + 1) = flo p p s i + 1 := by
      unfold flo
      rw [Nat.add_mul, Nat.one_mul, show i * p + p + s = i * p + s + p by omega, Nat.add_div_right _ hq]
    omega
  · have : p / q = 0 := Nat.div_eq_of_lt (by omega)
    rw [this] at h1
    omega
theorem mul_bd {i p : Nat} (hi : i ≤ 1000) (hp : p ≤ 1000) : i * p ≤ 1000000 := Nat.mul_le_mul hi hp
theorem mwLet_flo (p q s i : Nat) (hq : 0 < q) (hp : p ≤ 1000) (hs : s ≤ 1000) (hi : i < 1000) : mwLet p q s i = (flo p q s (i + 1) : Int) - (flo p q s i : Int) := by
  unfold mwLet flo
  have h1 := mul_bd (show i + 1 ≤ 1000 by omega) hp
  have h2 := mul_bd (show i ≤ 1000 by omega) hp
  rw [wr1 (by omega) (by omega), show (i : Int) + 1 = ((i + 1 : Nat) : Int) by omega, ← Int.natCast_mul, ← Int.natCast_mul, wr_nat (by omega), wr_nat (by omega), ← Int.natCast_add, ← Int.natCast_add, wr_nat (by omega), wr_nat (by omega), tdiv_nat, tdiv_nat]
  have h3 := Nat.div_le_self ((i + 1) * p + s) q
  have h4 := Nat.div_le_self (i * p + s) q
  rw [wr_nat (by omega), wr_nat (by omega)]
  generalize ((i + 1) * p + s) / q = A at *
  generalize (i * p + s) / q = B at *
  exact wr (by omega) (by omega)
theorem mw_pre1 (p q s n : Nat) (hq : 0 < q) (hpq : p ≤ q) (hp : p ≤ 1000) (hs : s ≤ 1000) (hn : n ≤ 1000) : ∀ i : Nat, i ≤ n → pre1 (mwRaw p q s n) i = (flo p q s i : Int) - (flo p q s 0 : Int) := by
  intro i
  induction i with
  | zero => intro _; simp [pre1, cnt]
  | succ i ih =>
    intro hi
    rw [pre1_succ _ _ (by rw [mwRaw_length]; omega), ih (by omega)]
    have hl : rd (mwRaw p q s n) (i : Int) = mwLet p q s i := by
      rw [rd_get (by rw [mwRaw_length]; omega)]; simp [mwRaw]
    rw [hl, mwLet_flo p q s i hq hp hs (by omega)]
    have h1 := flo_one p q s i hq hpq
    split <;> omega
theorem sJ_none (w : List Int) (n i : Nat) (h : ∀ j, j + n ≤ w.length → bad w n i j = false) (r : Nat) : ∀ j, j + n + r ≤ w.length + 1 → sJ w n i r j = none := by
  induction r with
  | zero => intro j hj; rfl
  | succ r ih => intro j hj; simp only [sJ]; rw [h j (by omega)]; simp only [Bool.false_eq_true, if_false]; exact ih (j + 1) (by omega)
theorem sI_none (w : List Int) (n : Nat) (h : ∀ i j, i + n ≤ w.length → j + n ≤ w.length → bad w n i j = false) (r : Nat) : ∀ i, i + n + r ≤ w.length + 1 → sI w n r i = none := by
  induction r with
  | zero => intro i hi; rfl
  | succ r ih =>
    intro i hi
    simp only [sI]
    rw [sJ_none w n i (fun j hj => h i j (by omega) hj) _ _ (by omega)]
    exact ih (i + 1) (by omega)
theorem sN_none (w : List Int) (h : ∀ n i j, i + n ≤ w.length → j + n ≤ w.length → bad w n i j = false) (r : Nat) : ∀ n, n + r ≤ max w.length 1 → sN w r n = none := by
  induction r with
  | zero => intro n hn; rfl
  | succ r ih =>
    intro n hn
    simp only [sN]
    by_cases hw : n ≤ w.length
    · rw [sI_none w n (h n) _ _ (by omega)]
      exact ih (n + 1) (by omega)
    · have : sI w n (w.length - n + 1) 0 = none := by
        rw [show w.length - n + 1 = 1 by omega]
        simp only [sI]
        rw [show w.length - n - 0 = 0 by omega]; rfl
      rw [this]
      exact ih (n + 1) (by omega)
theorem ubFind_none (w : List Int) (h : ∀ n i j, i + n ≤ w.length → j + n ≤ w.length → bad w n i j = false) : ubFind w = none := sN_none w h _ _ (by omega)
theorem mw_isBal (p q s n : Nat) (hq : 0 < q) (hpq : p ≤ q) (hp : p ≤ 1000) (hs : s ≤ 1000) (hn : n ≤ 64) : isBal (mwRaw p q s n) = true := by
  unfold isBal
  rw [mwRaw_length, decide_eq_true hn, Bool.true_and]
  have h1 : areL 2 (mwRaw p q s n) = true := by
    unfold areL
    rw [List.all_eq_true]
    intro x hx
    simp only [mwRaw, List.mem_map, List.mem_range] at hx
    obtain ⟨i, hi, rfl⟩ := hx
    rw [mwLet_flo p q s i hq hp hs (by omega)]
    have h1 := flo_one p q s i hq hpq
    simp only [decide_eq_true_eq]; omega
  have h2 : ubFind (mwRaw p q s n) = none := by
    refine ubFind_none _ ?_
    intro m i j hi hj
    rw [mwRaw_length] at hi hj
    have e : dif (mwRaw p q s n) m i j = (flo p q s (i + m) : Int) - flo p q s i - flo p q s (j + m) + flo p q s j := by
      unfold dif
      rw [mw_pre1 p q s n hq hpq hp hs (by omega) (i + m) hi, mw_pre1 p q s n hq hpq hp hs (by omega) i (by omega), mw_pre1 p q s n hq hpq hp hs (by omega) (j + m) hj, mw_pre1 p q s n hq hpq hp hs (by omega) j (by omega)]
      omega
    have h1 := flo_step p q s i m hq
    have h2 := flo_step p q s j m hq
    generalize m * p / q = c at h1 h2
    simp only [bad, decide_eq_false_iff_not]
    rw [e]
    omega
  rw [h1, h2]; rfl


def allB : Nat → List (List Int)
  | 0 => [[]]
  | n + 1 => (allB n).flatMap fun w => [0 :: w, 1 :: w]
def chk11 (y : List Int) : Bool := isChr y == (lyn y && isBal y)
def pairChk (p q : Int) : Bool := !chOk p q || (
  decide (cnt 1 (chRes p q).1 = p) && decide (cnt 0 (chRes p q).1 = q) && isChr (chRes p q).1 && lyn (chRes p q).1 && decide ((chRes p q).1 = mwRaw p (p + q) 0 (p + q).toNat) &&
  (decide ((chRes p q).1.length ≤ 1) || (decide ((((chRes p q).1.drop 1).take ((chRes p q).1.length - 2)).reverse = ((chRes p q).1.drop 1).take ((chRes p q).1.length - 2)) && decide (rd (chRes p q).1 0 = 0) &&
    (List.range (chRes p q).1.length).any fun k => decide (0 < k) && (decide ((k * p.toNat) % (p + q).toNat = 1) || decide ((k * p.toNat) % (p + q).toNat + 1 = (p + q).toNat)) && isChr ((chRes p q).1.take k) && isChr ((chRes p q).1.drop k))))
set_option maxRecDepth 100000 in
theorem pairAll_ok : ([-1, 65, 32] ++ (List.range 20).map (fun (x : Nat) => (x : Int))).all (fun p => (List.range 20).all (fun (q : Nat) => pairChk p q)) = true := by decide +kernel
set_option maxRecDepth 100000 in
theorem binAll_ok : (List.range 12).all (fun n => (allB n).all chk11) = true := by decide +kernel


theorem allB_mem : ∀ (y : List Int), (∀ x ∈ y, x = 0 ∨ x = 1) → y ∈ allB y.length
  | [], _ => by simp [allB]
  | x :: y, h => by
    have ih := allB_mem y (fun z hz => h z (List.mem_cons_of_mem _ hz))
    simp only [List.length_cons, allB, List.mem_flatMap]
    refine ⟨y, ih, ?_⟩
    rcases h x List.mem_cons_self with e | e <;> simp [e]
theorem bin_chk (y : List Int) (hn : y.length ≤ 11) (h : ∀ x ∈ y, x = 0 ∨ x = 1) : isChr y = (lyn y && isBal y) := by
  have h1 := List.all_eq_true.1 binAll_ok y.length (List.mem_range.2 (by omega))
  have h2 := List.all_eq_true.1 h1 y (allB_mem y h)
  simpa [chk11] using h2
/-- the slopes that are drawn -/
def sDrawn (p q : Int) : Prop := (p = -1 ∨ p = 65 ∨ p = 32 ∨ (0 ≤ p ∧ p < 20)) ∧ 0 ≤ q ∧ q < 20
theorem pair_chk {p q : Int} (h : sDrawn p q) : pairChk p q = true := by
  obtain ⟨hp, h0, h1⟩ := h
  obtain ⟨m, rfl⟩ := Int.eq_ofNat_of_zero_le h0
  have h2 := List.all_eq_true.1 pairAll_ok p (by
    rcases hp with e | e | e | ⟨e, e2⟩
    · simp [e]
    · simp [e]
    · simp [e]
    · obtain ⟨t, rfl⟩ := Int.eq_ofNat_of_zero_le e
      exact List.mem_append_right _ (List.mem_map.2 ⟨t, List.mem_range.2 (by omega), rfl⟩))
  exact List.all_eq_true.1 h2 m (List.mem_range.2 (by omega))
structure ChrF (p q : Int) (x : List Int) : Prop where
  c1 : cnt 1 x = p
  c0 : cnt 0 x = q
  chr : isChr x = true
  lyn : lyn x = true
  bal : isBal x = true
  pal : 2 ≤ x.length → ((x.drop 1).take (x.length - 2)).reverse = (x.drop 1).take (x.length - 2)
  hd : 2 ≤ x.length → rd x 0 = 0
  spl : 2 ≤ x.length → ∃ k, 0 < k ∧ k < x.length ∧ isChr (x.take k) = true ∧ isChr (x.drop k) = true
theorem chr_facts {p q : Int} (h : sDrawn p q) (hok : chOk p q = true) : ChrF p q (chRes p q).1 := by
  have hc := pair_chk h
  have h0 := hok
  simp only [chOk, Bool.and_eq_true, decide_eq_true_eq] at h0
  obtain ⟨⟨⟨hp0, hp1⟩, ⟨hq0, hq1⟩, hn0, hn1⟩, _⟩ := h0
  simp only [pairChk, hok, Bool.not_true, Bool.false_or, Bool.and_eq_true, Bool.or_eq_true, decide_eq_true_eq] at hc
  obtain ⟨⟨⟨⟨⟨h1, h2⟩, h3⟩, h4⟩, h5⟩, h6⟩ := hc
  refine ⟨h1, h2, h3, h4, ?_, fun hl => ?_, fun hl => ?_, fun hl => ?_⟩
  · rw [h5]
    obtain ⟨a, rfl⟩ := Int.eq_ofNat_of_zero_le hp0
    obtain ⟨b, rfl⟩ := Int.eq_ofNat_of_zero_le hq0
    have := mw_isBal a (a + b) 0 (a + b) (by omega) (by omega) (by omega) (by omega) (by omega)
    have e : ((a : Int) + (b : Int)).toNat = a + b := by omega
    rw [e]
    exact this
  · rcases h6 with h6 | h6
    · omega
    · exact h6.1.1
  · rcases h6 with h6 | h6
    · omega
    · exact h6.1.2
  · rcases h6 with h6 | h6
    · omega
    · obtain ⟨k, hk, h7⟩ := List.any_eq_true.1 h6.2
      simp only [Bool.and_eq_true, decide_eq_true_eq] at h7
      exact ⟨k, h7.1.1.1, List.mem_range.1 hk, h7.1.2, h7.2⟩
theorem spl_found (l : List Int) : ∀ (d i k : Nat), i ≤ k → k < i + d → isChr (l.take k) = true → isChr (l.drop k) = true → (spl l d i).2.2 = true
  | 0, i, k, h1, h2, _, _ => by omega
  | d + 1, i, k, h1, h2, h3, h4 => by
    unfold spl
    split
    · rfl
    · rename_i h
      by_cases e : k = i
      · subst e; exact absurd ⟨h3, h4⟩ h
      · exact spl_found l d (i + 1) k (by omega) (by omega) h3 h4
theorem spl_cat (l : List Int) : ∀ (d i : Nat), (spl l d i).2.2 = true → (spl l d i).1 ++ (spl l d i).2.1 = l
  | 0, i, h => by simp [spl] at h
  | d + 1, i, h => by
    unfold spl at h ⊢
    split at h
    · rename_i h1
      rw [if_pos h1]
      exact List.take_append_drop i l
    · rename_i h1
      rw [if_neg h1]
      exact spl_cat l d (i + 1) h
theorem split_facts {p q : Int} (h : sDrawn p q) (hok : chOk p q = true) : (splRes p q).2.2 = decide (1 < (chRes p q).1.length) ∧ ((splRes p q).2.2 = true → (splRes p q).1 ++ (splRes p q).2.1 = (chRes p q).1) := by
  have hF := chr_facts h hok
  have e : (chRes p q).2 = true := by unfold chRes; rw [if_pos hok]
  unfold splRes
  rw [if_pos e]
  refine ⟨?_, spl_cat _ _ _⟩
  by_cases hl : 2 ≤ (chRes p q).1.length
  · obtain ⟨k, h1, h2, h3, h4⟩ := hF.spl hl
    rw [spl_found _ _ _ k h1 (by omega) h3 h4, decide_eq_true (by omega)]
  · rw [decide_eq_false (by omega)]
    have : (chRes p q).1.length - 1 = 0 := by omega
    rw [this]; rfl


theorem curOkZ {b : List Int} (h : b.length ≤ 1048576) : curOk b 0 := ⟨by omega, h⟩
theorem l1Once_tot (b : List Int) (i h n : Int) (hc : curOk b i) (h1 : 1 ≤ n) (h2 : n ≤ 256) : ∃ r, spec_l1Once.f b i h n = some r ∧ curOk b r.2.1 := by
  obtain ⟨r, hr, _, hc2⟩ := l1Below_tot b i h n hc h1 h2
  exact ⟨(r.1 == 0, r.2.1, r.2.2), by simp only [spec_l1Once.f, hr, Option.bind_some], hc2⟩
theorem l24_j0 (l : List Int) (p q g h i : Int) (b : Bool) (hp : 0 ≤ p ∧ p < 20) (hq : 0 ≤ q ∧ q < 20) (hg : b = true → 2 ≤ g) (hc : curOk l i) : Tot (fun k => spec_l24Slope.j0 k p q g b l i h) (fun r => sDrawn r.1 r.2) := by
  refine tot_succ ?_
  simp only [spec_l24Slope.j0]
  refine tot_ite (fun hb => ?_) (fun hb => ?_)
  · have h2 := hg hb
    refine tot_neg (by omega) (tot_some ?_)
    have d : ∀ x : Int, 0 ≤ x → x < 20 → 0 ≤ Int.tdiv x g ∧ Int.tdiv x g < 20 := by
      intro x h0 h1
      have e1 := Int.tdiv_nonneg h0 (show 0 ≤ g by omega)
      have e2 : Int.tdiv x g ≤ x := by
        rw [Int.tdiv_eq_ediv_of_nonneg h0]
        exact Int.ediv_le_self g h0
      omega
    have d1 := d p hp.1 hp.2
    have d2 := d q hq.1 hq.2
    simp only
    rw [wr (by omega) (by omega), wr (by omega) (by omega)]
    exact ⟨.inr (.inr (.inr d1)), d2⟩
  · refine tot_bind0 (l1Once_tot l i h 10 hc (by omega) (by omega)) (fun r hr => ?_)
    refine tot_ite (fun _ => ?_) (fun _ => tot_some ⟨.inr (.inr (.inr hp)), hq⟩)
    refine tot_bind0 (l1PickInt_tot l r.2.1 r.2.2 [-1, 0, 65, 32] hr (by decide) (by decide)) (fun r2 hr2 => tot_some ?_)
    have hm := hr2.1
    simp only [List.mem_cons, List.not_mem_nil, or_false] at hm
    refine ⟨?_, hq⟩
    rcases hm with e | e | e | e
    · exact .inl e
    · exact .inr (.inr (.inr ⟨by show 0 ≤ r2.1; omega, by show r2.1 < 20; omega⟩))
    · exact .inr (.inl e)
    · exact .inr (.inr (.inl e))
theorem l24Slope_tot (l : List Int) (hn : l.length ≤ 1048576) : Tot (fun k => spec_l24Slope.f k l) (fun r => sDrawn r.1 r.2) := by
  simp only [spec_l24Slope.f]
  refine tot_bind (l1New_tot l hn) (fun r hr => ?_)
  rw [hr.1, hr.2]
  refine tot_bind0 (l1Below_tot l 0 r.2.2 20 (curOkZ hn) (by omega) (by omega)) (fun r1 hr1 => ?_)
  refine tot_bind0 (l1Below_tot l r1.2.1 r1.2.2 20 hr1.2 (by omega) (by omega)) (fun r2 hr2 => ?_)
  obtain ⟨a, ha⟩ := Int.eq_ofNat_of_zero_le hr1.1.1
  obtain ⟨b, hb⟩ := Int.eq_ofNat_of_zero_le hr2.1.1
  have hmx : mx r1.1 r2.1 = ((max a b : Nat) : Int) := by rw [ha, hb]; unfold mx; split <;> omega
  have hmn : mn r1.1 r2.1 = ((min a b : Nat) : Int) := by rw [ha, hb]; unfold mn; split <;> omega
  rw [hmx, hmn]
  refine tot_bind (tot_of (spec_l10Gcd_ev (max a b) (min a b)) rfl) (fun g hg => ?_)
  refine tot_ite (fun h => ?_) (fun h => l24_j0 l _ _ g _ _ false hr1.1 hr2.1 (fun e => by cases e) hr2.2)
  exact tot_bind0 (l1Once_tot l r2.2.1 r2.2.2 5 hr2.2 (by omega) (by omega)) (fun r3 hr3 => l24_j0 l _ _ g _ _ _ hr1.1 hr2.1 (fun _ => by omega) hr3)
theorem drawChr_tot (l : List Int) (hn : l.length ≤ 1048576) : Tot (fun k => spec_DrawChristoffelWord.f k l) (fun r => sDrawn r.1 r.2) := by
  simp only [spec_DrawChristoffelWord.f]
  exact tot_bind (l24Slope_tot l hn) (fun r hr => tot_some hr)
theorem drawSplit_tot (l : List Int) (hn : l.length ≤ 1048576) : Tot (fun k => spec_DrawChristoffelSplit.f k l) (fun r => sDrawn r.1 r.2) := by
  simp only [spec_DrawChristoffelSplit.f]
  exact tot_bind (l24Slope_tot l hn) (fun r hr => tot_some hr)
theorem drawTree_tot (l : List Int) (hn : l.length ≤ 1048576) : Tot (fun k => spec_DrawChristoffelTree.f k l) (fun _ => True) := by
  simp only [spec_DrawChristoffelTree.f]
  refine tot_bind (l1New_tot l hn) (fun r hr => ?_)
  rw [hr.1, hr.2]
  exact tot_bind0 (l1Below_tot l 0 r.2.2 8 (curOkZ hn) (by omega) (by omega)) (fun r1 hr1 => tot_some trivial)
def bitW (n : Nat) (y : List Int) : Prop := y.length ≤ n ∧ ∀ x ∈ y, x = 0 ∨ x = 1
theorem l7Word_l0 (b : List Int) (d : Nat) : ∀ (acc : List Int) (n : Nat) (i h : Int), n = d → curOk b i → acc.length + n ≤ 11 → (∀ x ∈ acc, x = 0 ∨ x = 1) → Tot (fun k => spec_l7Word.l0 k 2 acc (n : Int) b i h) (fun r => bitW 11 r.1) := by
  induction d with
  | zero =>
    intro acc n i h hn hc hl ha
    subst hn
    refine tot_succ ?_
    simp only [spec_l7Word.l0]
    exact tot_neg (by omega) (tot_some ⟨by simp only; omega, ha⟩)
  | succ d ih =>
    intro acc n i h hn hc hl ha
    subst hn
    have hs : wrap64 (((d + 1 : Nat) : Int) - 1) = (d : Int) := by rw [wr (by omega) (by omega)]; omega
    refine tot_succ ?_
    simp only [spec_l7Word.l0, hs]
    refine tot_pos (by omega) ?_
    refine tot_bind0 (l1Below_tot b i h 2 hc (by omega) (by omega)) (fun r hr => ?_)
    refine tot_pos (by omega) (ih _ d _ _ rfl hr.2 (by simp; omega) (fun x hx => ?_))
    rcases List.mem_append.1 hx with hx | hx
    · exact ha x hx
    · have : x = r.1 := by simpa using hx
      omega
theorem l7Word2_tot (b : List Int) (i h : Int) (hc : curOk b i) : Tot (fun k => spec_l7Word.f k b i h 2) (fun r => bitW 11 r.1) := by
  simp only [spec_l7Word.f]
  refine tot_bind0 (l1Below_tot b i h 12 hc (by omega) (by omega)) (fun r hr => ?_)
  obtain ⟨n, hn⟩ := Int.eq_ofNat_of_zero_le hr.1.1
  rw [hn]
  exact l7Word_l0 b n [] n _ _ rfl hr.2 (by simp; omega) (by simp)
/-- what is drawn for IsChristoffel -/
def yDrawn (y : List Int) : Prop := bitW 11 y ∨ ∃ p q, sDrawn p q ∧ chOk p q = true ∧ y = (chRes p q).1
theorem drawIs_tot (l : List Int) (hn : l.length ≤ 1048576) : Tot (fun k => spec_DrawIsChristoffel.f k l) yDrawn := by
  simp only [spec_DrawIsChristoffel.f]
  refine tot_bind (l24Slope_tot l hn) (fun r hr => ?_)
  refine tot_bind (tot_of (spec_ChristoffelWord_ev r.1 r.2) rfl) (fun x hx => ?_)
  have other : Tot (fun k => spec_DrawIsChristoffel.j0 k l x.1 false) yDrawn := by
    refine tot_succ ?_
    simp only [spec_DrawIsChristoffel.j0]
    refine tot_neg (by simp) (tot_bind (l1New_tot l hn) (fun r3 hr3 => ?_))
    rw [hr3.1, hr3.2]
    exact tot_bind (l7Word2_tot l 0 _ (curOkZ hn)) (fun r4 hr4 => tot_some (.inl hr4))
  refine tot_ite (fun h => ?_) (fun _ => other)
  by_cases hd : ((l.length : Int) % 3) > 0
  · rw [decide_eq_true hd]
    refine tot_succ ?_
    simp only [spec_DrawIsChristoffel.j0]
    refine tot_pos trivial (tot_some (.inr ⟨r.1, r.2, hr, ?_, by rw [← hx]⟩))
    rw [← hx] at h
    unfold chRes at h
    by_cases ho : chOk r.1 r.2 = true
    · exact ho
    · rw [if_neg ho] at h; cases h
  · rw [decide_eq_false hd]
    exact other
theorem yDrawn_len {y : List Int} (h : yDrawn y) : y.length ≤ 64 := by
  rcases h with h | ⟨p, q, _, _, rfl⟩
  · have := h.1; omega
  · exact chRes_length p q
theorem yDrawn_chr {y : List Int} (h : yDrawn y) : isChr y = (lyn y && isBal y) := by
  rcases h with h | ⟨p, q, hs, ho, rfl⟩
  · exact bin_chk y h.1 h.2
  · have hF := chr_facts hs ho
    rw [hF.chr, hF.lyn, hF.bal]; rfl


theorem spec_ReverseDigits_l0 (l : List Int) (hn : l.length ≤ 10000000) : ∀ (i : Nat) (acc : List Int), i ≤ l.length → acc.length + i ≤ 10000000 →
    Ev (fun k => spec_ReverseDigits.l0 k l acc ((i : Int) - 1)) (acc ++ (l.take i).reverse) := by
  intro i
  induction i with
  | zero =>
    intro acc hi ha
    refine ev_succ ?_
    simp only [spec_ReverseDigits.l0]
    exact ev_neg (by omega) (ev_some (by simp))
  | succ i ih =>
    intro acc hi ha
    refine ev_succ ?_
    simp only [spec_ReverseDigits.l0]
    rw [show ((i + 1 : Nat) : Int) - 1 = (i : Int) by omega]
    refine ev_pos (by omega) (ev_pos (by omega) (ev_pos (by omega) (ev_pos (by omega) ?_)))
    rw [wr (n := (i : Int) - 1) (by omega) (by omega)]
    refine ev_eq (ih (acc ++ [rd l (i : Int)]) (by omega) (by simp; omega)) ?_
    have ht : l.take (i + 1) = l.take i ++ [rd l (i : Int)] := by
      rw [rd_get (show i < l.length by omega)]; exact List.take_succ_eq_append_getElem (by omega)
    rw [ht]; simp
theorem spec_ReverseDigits_ev (l : List Int) (hn : l.length ≤ 10000000) : Ev (fun k => spec_ReverseDigits.f k l) l.reverse := by
  simp only [spec_ReverseDigits.f]
  rw [wr (n := (l.length : Int) - 1) (by omega) (by omega)]
  exact ev_eq (spec_ReverseDigits_l0 l hn l.length [] (by omega) (by simp; omega)) (by simp)


theorem spec_IsPalindrome_ev (l : List Int) (hn : l.length ≤ 10000000) : Ev (fun k => spec_IsPalindrome.f k l) (decide (l.reverse = l)) := by
  simp only [spec_IsPalindrome.f]
  refine ev_bind (spec_ReverseDigits_ev l hn) (ev_bind (spec_l3Same_ev l l.reverse (by omega)) (ev_some ?_))
  by_cases h : l.reverse = l
  · simp [h]
  · have : ¬ l = l.reverse := fun e => h e.symm
    simp [h, this]


theorem spec_IsWord_l0 (l : List Int) (m : Int) (hn : l.length ≤ 4611686018427387904) (d : Nat) : ∀ (i : Nat), i + d = l.length →
    Ev (fun k => spec_IsWord.l0 k l m (i : Int)) (areL m (l.drop i) && decide (1 ≤ m ∧ m ≤ 16) && decide ((l.length : Int) ≤ 400)) := by
  induction d with
  | zero =>
    intro i hi
    refine ev_succ ?_
    simp only [spec_IsWord.l0, l1In_eq, Option.bind_some]
    refine ev_neg (by omega) ?_
    rw [List.drop_of_length_le (by omega)]
    refine ev_ite (fun h => ev_some ?_) (fun h => ev_some ?_)
    · rw [h]; rfl
    · rw [Bool.not_eq_true] at h; rw [h]; rfl
  | succ d ih =>
    intro i hi
    refine ev_succ ?_
    simp only [spec_IsWord.l0, wr1 (show (0 : Int) ≤ (i : Int) by omega) (by omega)]
    refine ev_pos (by omega) (ev_pos (by omega) ?_)
    rw [drop_rd (by omega : i < l.length)]
    refine ev_ite (fun h => ev_some ?_) (fun h => ev_ite (fun h' => ev_some ?_) (fun h' => ev_eq (ih (i + 1) (by omega)) ?_))
    · simp only [areL, List.all_cons, decide_eq_false (show ¬ (0 ≤ rd l (i : Int) ∧ rd l (i : Int) < m) by omega), Bool.false_and]
    · simp only [areL, List.all_cons, decide_eq_false (show ¬ (0 ≤ rd l (i : Int) ∧ rd l (i : Int) < m) by omega), Bool.false_and]
    · simp only [areL, List.all_cons, decide_eq_true (show (0 ≤ rd l (i : Int) ∧ rd l (i : Int) < m) by omega), Bool.true_and]
theorem spec_IsWord_ev (l : List Int) (m : Int) (hn : l.length ≤ 4611686018427387904) : Ev (fun k => spec_IsWord.f k l m) (areL m l && decide (1 ≤ m ∧ m ≤ 16) && decide ((l.length : Int) ≤ 400)) := by
  simp only [spec_IsWord.f]
  exact spec_IsWord_l0 l m hn l.length 0 (by omega)


theorem cnt_part (w : List Int) (i n : Nat) : cnt 1 ((w.take (i + n)).drop i) = pre1 w (i + n) - pre1 w i := by
  have h : w.take (i + n) = w.take i ++ (w.take (i + n)).drop i := by
    conv => lhs; rw [← List.take_append_drop i (w.take (i + n))]
    rw [List.take_take, Nat.min_eq_left (by omega)]
  unfold pre1
  conv => rhs; rw [h]
  rw [cnt_append]; omega
def part (w : List Int) (i n : Nat) : List Int := (w.take (i + n)).drop i
def ubPair (w : List Int) : List Int × List Int × Bool := if w.length ≤ 64 then (match ubFind w with
  | none => ([], [], false)
  | some (n, i, j) => (part w i n, part w j n, true)) else ([], [], false)
theorem part_length (w : List Int) (i n : Nat) : (part w i n).length ≤ w.length := by
  simp only [part, List.length_drop, List.length_take]; omega
def ubOf (w : List Int) : Option (Nat × Nat × Nat) → List Int × List Int × Bool
  | none => ([], [], false)
  | some (n, i, j) => (part w i n, part w j n, true)
theorem spec_ub_l2 (w : List Int) (n i : Nat) (hn : w.length ≤ 64) (h1 : 1 ≤ n) (hi : i + n ≤ w.length) (R : List Int × List Int × Bool) (d : Nat) :
    ∀ j : Nat, j + n + d = w.length + 1 → (sJ w n i d j = none → Ev (fun k => spec_UnbalancedPair.l1 k w (n : Int) ((i + 1 : Nat) : Int)) R) → (∀ t, sJ w n i d j = some t → ubOf w (some t) = R) →
    Ev (fun k => spec_UnbalancedPair.l2 k w (n : Int) (i : Int) (j : Int)) R := by
  induction d with
  | zero =>
    intro j hj H ht
    refine ev_succ ?_
    simp only [spec_UnbalancedPair.l2]
    rw [wr (n := (j : Int) + n) (by omega) (by omega), wr1 (show (0 : Int) ≤ (i : Int) by omega) (by omega)]
    exact ev_neg (by omega) (H rfl)
  | succ d ih =>
    intro j hj H ht
    refine ev_succ ?_
    simp only [spec_UnbalancedPair.l2, Option.bind_some, List.nil_append, List.length_nil]
    have b1 := pre1_bd w (i + n)
    have b2 := pre1_bd w i
    have b3 := pre1_bd w (j + n)
    have b4 := pre1_bd w j
    rw [show (j : Int) + (n : Int) = ((j + n : Nat) : Int) by omega, show (i : Int) + (n : Int) = ((i + n : Nat) : Int) by omega, wr_nat (show j + n ≤ 4611686018427387904 by omega), wr_nat (show i + n ≤ 4611686018427387904 by omega)]
    simp only [Int.toNat_natCast]
    have l1 := part_length w i n
    have l2 := part_length w j n
    have c1 := cnt_part w i n
    have c2 := cnt_part w j n
    change cnt 1 (part w i n) = _ at c1
    change cnt 1 (part w j n) = _ at c2
    change Ev (fun k => if ((j + n : Nat) : Int) ≤ (w.length : Int) then (if 0 ≤ (i : Int) then (if (i : Int) ≤ ((i + n : Nat) : Int) then (if ((i + n : Nat) : Int) ≤ (w.length : Int) then ((spec_CountLetters.f k (part w i n) 1).bind fun t109 => (if 0 ≤ (j : Int) then (if (j : Int) ≤ ((j + n : Nat) : Int) then ((spec_CountLetters.f k (part w j n) 1).bind fun t111 => (if (wrap64 (t109 - t111)) > 1 then (if 0 + (part w i n).length < 17592186044416 then (if 0 + (part w j n).length < 17592186044416 then (some (part w i n, part w j n, true)) else (none)) else (none)) else (if (wrap64 (t111 - t109)) > 1 then (if 0 + (part w i n).length < 17592186044416 then (if 0 + (part w j n).length < 17592186044416 then (some (part w i n, part w j n, true)) else (none)) else (none)) else (spec_UnbalancedPair.l2 k w (n : Int) (i : Int) (wrap64 ((j : Int) + 1)))))) else (none)) else (none))) else (none)) else (none)) else (none)) else (spec_UnbalancedPair.l1 k w (n : Int) (wrap64 ((i : Int) + 1)))) R
    refine ev_pos (by omega) (ev_pos (by omega) (ev_pos (by omega) (ev_pos (by omega) (ev_bind (spec_CountLetters_ev (part w i n) 1 (by omega)) (ev_pos (by omega) (ev_pos (by omega) (ev_bind (spec_CountLetters_ev (part w j n) 1 (by omega)) ?_)))))))
    rw [c1, c2, wr (n := pre1 w (i + n) - pre1 w i - (pre1 w (j + n) - pre1 w j)) (by omega) (by omega), wr (n := pre1 w (j + n) - pre1 w j - (pre1 w (i + n) - pre1 w i)) (by omega) (by omega), wr1 (show (0 : Int) ≤ (j : Int) by omega) (by omega)]
    have hd : dif w n i j = pre1 w (i + n) - pre1 w i - pre1 w (j + n) + pre1 w j := rfl
    simp only [sJ] at ht H
    refine ev_ite (fun h => ?_) (fun h => ev_ite (fun h' => ?_) (fun h' => ?_))
    · refine ev_pos (by omega) (ev_pos (by omega) (ev_some ?_))
      rw [if_pos (by simp [bad]; omega)] at ht
      exact ht _ rfl
    · refine ev_pos (by omega) (ev_pos (by omega) (ev_some ?_))
      rw [if_pos (by simp [bad]; omega)] at ht
      exact ht _ rfl
    · rw [if_neg (by simp [bad]; omega)] at ht H
      exact ih (j + 1) (by omega) H ht
theorem spec_ub_l1 (w : List Int) (n : Nat) (hn : w.length ≤ 64) (h1 : 1 ≤ n) (R : List Int × List Int × Bool) (d : Nat) :
    ∀ i : Nat, i + n + d = w.length + 1 → (sI w n d i = none → Ev (fun k => spec_UnbalancedPair.l0 k w ((n + 1 : Nat) : Int)) R) → (∀ t, sI w n d i = some t → ubOf w (some t) = R) →
    Ev (fun k => spec_UnbalancedPair.l1 k w (n : Int) (i : Int)) R := by
  induction d with
  | zero =>
    intro i hi H ht
    refine ev_succ ?_
    simp only [spec_UnbalancedPair.l1]
    rw [wr (n := (i : Int) + n) (by omega) (by omega), wr1 (show (0 : Int) ≤ (n : Int) by omega) (by omega)]
    exact ev_neg (by omega) (H rfl)
  | succ d ih =>
    intro i hi H ht
    refine ev_succ ?_
    simp only [spec_UnbalancedPair.l1]
    rw [wr (n := (i : Int) + n) (by omega) (by omega), wr1 (show (0 : Int) ≤ (i : Int) by omega) (by omega)]
    refine ev_pos (by omega) ?_
    simp only [sI] at ht H
    refine spec_ub_l2 w n i hn h1 (by omega) R (w.length - n - i) (i + 1) (by omega) (fun h => ?_) (fun t h => ?_)
    · rw [h] at ht H
      exact ih (i + 1) (by omega) H ht
    · rw [h] at ht
      exact ht _ rfl
theorem spec_ub_l0 (w : List Int) (hn : w.length ≤ 64) (d : Nat) :
    ∀ n : Nat, 1 ≤ n → n + d = w.length + 1 → Ev (fun k => spec_UnbalancedPair.l0 k w (n : Int)) (ubOf w (sN w d n)) := by
  induction d with
  | zero =>
    intro n h1 hd
    refine ev_succ ?_
    simp only [spec_UnbalancedPair.l0]
    refine ev_neg (by omega) (ev_succ ?_)
    simp only [spec_UnbalancedPair.j1]
    exact ev_neg (by simp) (ev_some rfl)
  | succ d ih =>
    intro n h1 hd
    refine ev_succ ?_
    simp only [spec_UnbalancedPair.l0]
    refine ev_pos (by omega) (ev_succ ?_)
    simp only [spec_UnbalancedPair.j1]
    refine ev_pos (by simp; omega) ?_
    simp only [sN]
    have := ih (n + 1) (by omega) (by omega)
    refine spec_ub_l1 w n hn h1 _ (w.length - n + 1) 0 (by omega) (fun h => ?_) (fun t h => ?_)
    · rw [h]; exact this
    · rw [h]
theorem sN_last (w : List Int) (r : Nat) : ∀ n, n + r = w.length → 1 ≤ n → sN w (r + 1) n = sN w r n := by
  induction r with
  | zero =>
    intro n hn h1
    simp only [sN]
    rw [show w.length - n + 1 = 0 + 1 by omega]
    simp only [sI]
    rw [show w.length - n - 0 = 0 by omega]
    rfl
  | succ r ih =>
    intro n hn h1
    have := ih (n + 1) (by omega) (by omega)
    conv => lhs; unfold sN
    conv => rhs; unfold sN
    rw [this]
theorem ubFind_all (w : List Int) : sN w w.length 1 = ubFind w := by
  unfold ubFind
  cases hl : w.length with
  | zero => rfl
  | succ m =>
    rw [Nat.succ_sub_one]
    exact sN_last w m 1 (by omega) (by omega)
theorem ubPair_of (w : List Int) (h : w.length ≤ 64) : ubPair w = ubOf w (ubFind w) := by
  unfold ubPair
  rw [if_pos h]
  cases ubFind w <;> rfl
theorem spec_UnbalancedPair_ev (w : List Int) (hn : w.length ≤ 4611686018427387904) : Ev (fun k => spec_UnbalancedPair.f k w) (ubPair w) := by
  simp only [spec_UnbalancedPair.f]
  by_cases h : w.length ≤ 64
  · rw [ubPair_of w h, ← ubFind_all]
    exact spec_ub_l0 w h w.length 1 (by omega) (by omega)
  · unfold ubPair
    rw [if_neg h]
    refine ev_succ ?_
    simp only [spec_UnbalancedPair.l0]
    rw [decide_eq_false (by omega)]
    refine ev_pos (by omega) (ev_succ ?_)
    simp only [spec_UnbalancedPair.j1]
    exact ev_neg (by simp) (ev_some rfl)
theorem sJ_in (w : List Int) (n i : Nat) (r : Nat) : ∀ j t, j + n + r ≤ w.length + 1 → sJ w n i r j = some t → ∃ j', t = (n, i, j') ∧ j' + n ≤ w.length := by
  induction r with
  | zero => intro j t _ h; cases h
  | succ r ih =>
    intro j t hj h
    simp only [sJ] at h
    split at h
    · exact ⟨j, (Option.some.inj h).symm, by omega⟩
    · exact ih (j + 1) t (by omega) h
theorem sI_in (w : List Int) (n : Nat) (h1 : 1 ≤ n) (r : Nat) : ∀ i t, i + n + r ≤ w.length + 1 → sI w n r i = some t → ∃ i' j', t = (n, i', j') ∧ i' + n ≤ w.length ∧ j' + n ≤ w.length := by
  induction r with
  | zero => intro i t _ h; cases h
  | succ r ih =>
    intro i t hi h
    simp only [sI] at h
    split at h
    · rename_i t' ht
      obtain ⟨j', rfl, hj⟩ := sJ_in w n i _ _ _ (by omega) ht
      exact ⟨i, j', (Option.some.inj h).symm, by omega, hj⟩
    · exact ih (i + 1) t (by omega) h
theorem sN_in (w : List Int) (r : Nat) : ∀ n t, 1 ≤ n → n + r ≤ max w.length 1 → sN w r n = some t → ∃ n' i' j', t = (n', i', j') ∧ 1 ≤ n' ∧ i' + n' ≤ w.length ∧ j' + n' ≤ w.length := by
  induction r with
  | zero => intro n t _ _ h; cases h
  | succ r ih =>
    intro n t h1 hn h
    simp only [sN] at h
    split at h
    · rename_i t' ht
      obtain ⟨i', j', rfl, hi, hj⟩ := sI_in w n h1 _ _ _ (by omega) ht
      exact ⟨n, i', j', (Option.some.inj h).symm, h1, hi, hj⟩
    · exact ih (n + 1) t (by omega) (by omega) h
theorem ubFind_in (w : List Int) (t : Nat × Nat × Nat) (h : ubFind w = some t) : 1 ≤ t.1 ∧ t.2.1 + t.1 ≤ w.length ∧ t.2.2 + t.1 ≤ w.length := by
  obtain ⟨n, i, j, rfl, h1, h2, h3⟩ := sN_in w _ 1 t (by omega) (by omega) h
  exact ⟨h1, h2, h3⟩
theorem ubPair_length (w : List Int) (hn : w.length ≤ 1048576) : (ubPair w).1.length ≤ 1048576 ∧ (ubPair w).2.1.length ≤ 1048576 := by
  by_cases h : w.length ≤ 64
  · rw [ubPair_of w h]
    cases ubFind w with
    | none => simp [ubOf]
    | some t =>
      obtain ⟨n, i, j⟩ := t
      have l1 := part_length w i n
      have l2 := part_length w j n
      simp only [ubOf]; omega
  · unfold ubPair; rw [if_neg h]; simp


theorem spec_IsBalanced_ev (w : List Int) (hn : w.length ≤ 4611686018427387904) : Ev (fun k => spec_IsBalanced.f k w) (isBal w) := by
  simp only [spec_IsBalanced.f]
  unfold isBal
  refine ev_bind (spec_UnbalancedPair_ev w hn) (ev_bind (spec_IsWord_ev w 2 hn) (ev_ite (fun h => ?_) (fun h => ev_some ?_)))
  · simp only [Bool.and_eq_true] at h
    refine ev_ite (fun h6 => ev_some ?_) (fun h6 => ev_some ?_)
    · rw [ubPair_of w (by omega), decide_eq_true (by omega), h.1.1]
      cases ubFind w <;> rfl
    · rw [decide_eq_false (by omega)]; rfl
  · by_cases h6 : w.length ≤ 64
    · rw [decide_eq_true (show (1 : Int) ≤ 2 ∧ (2 : Int) ≤ 16 by omega), decide_eq_true (show (w.length : Int) ≤ 400 by omega), Bool.and_true, Bool.and_true, Bool.not_eq_true] at h
      rw [h]; simp
    · rw [decide_eq_false (by omega)]; rfl


theorem slices_Reverse_l0 (l : List Int) (hn : l.length ≤ 4611686018427387904) (d : Nat) : ∀ (i : Nat) (x : List Int), l.length ≤ 2 * i + 2 * d → 2 * i ≤ l.length + 1 → x.length = l.length →
    (∀ t, t < l.length → x[t]? = if t < i ∨ l.length ≤ t + i then l[l.length - 1 - t]? else l[t]?) →
    Ev (fun k => slices_Reverse_int_int.l0 k x (i : Int) ((l.length : Int) - 1 - i)) l.reverse := by
  induction d with
  | zero =>
    intro i x hd hi hx hh
    refine ev_succ ?_
    simp only [slices_Reverse_int_int.l0]
    refine ev_neg (by omega) (ev_some ?_)
    apply List.ext_getElem?
    intro t
    by_cases ht : t < l.length
    · rw [List.getElem?_reverse ht, hh t ht]
      split
      · rfl
      · omega
    · rw [List.getElem?_eq_none (by omega), List.getElem?_eq_none (by simp; omega)]
  | succ d ih =>
    intro i x hd hi hx hh
    by_cases hlt : 2 * i < l.length - 1
    · refine ev_succ ?_
      simp only [slices_Reverse_int_int.l0]
      refine ev_pos (by omega) (ev_pos (by omega) (ev_pos (by omega) (ev_pos (by omega) (ev_pos (by omega) ?_))))
      obtain ⟨j, hj⟩ : ∃ j : Nat, (l.length : Int) - 1 - i = (j : Int) := ⟨l.length - 1 - i, by omega⟩
      rw [hj, wr1 (by omega) (by omega), wr (n := (j : Int) - 1) (by omega) (by omega), Int.toNat_natCast, Int.toNat_natCast]
      rw [show (j : Int) - 1 = (l.length : Int) - 1 - ((i + 1 : Nat) : Int) by omega]
      refine ih (i + 1) _ (by omega) (by omega) (by simp [hx]) ?_
      intro t ht
      have hij : i < j := by omega
      have hjl : j < l.length := by omega
      have hxi := hh i (by omega)
      have hxj := hh j (by omega)
      rw [if_neg (by omega)] at hxi hxj
      have hri : rd x (i : Int) = l[i] := by rw [rd_nat, List.getD_eq_getElem?_getD, hxi, List.getElem?_eq_getElem (by omega)]; rfl
      have hrj : rd x (j : Int) = l[j] := by rw [rd_nat, List.getD_eq_getElem?_getD, hxj, List.getElem?_eq_getElem (by omega)]; rfl
      rw [hri, hrj, List.getElem?_set, List.length_set, List.getElem?_set]
      by_cases e1 : j = t
      · subst e1
        rw [if_pos rfl, if_pos (by omega), if_pos (by omega), show l.length - 1 - j = i by omega, List.getElem?_eq_getElem]
      · rw [if_neg e1]
        by_cases e2 : i = t
        · subst e2
          rw [if_pos rfl, if_pos (by omega), if_pos (by omega), List.getElem?_eq_getElem (show l.length - 1 - i < l.length by omega)]
          congr 2; omega
        · rw [if_neg e2, hh t ht]
          by_cases e3 : t < i ∨ l.length ≤ t + i
          · rw [if_pos e3, if_pos (by omega)]
          · rw [if_neg e3, if_neg (by omega)]
    · refine ev_succ ?_
      simp only [slices_Reverse_int_int.l0]
      refine ev_neg (by omega) (ev_some ?_)
      apply List.ext_getElem?
      intro t
      by_cases ht : t < l.length
      · rw [List.getElem?_reverse ht, hh t ht]
        split
        · rfl
        · congr 1; omega
      · rw [List.getElem?_eq_none (by omega), List.getElem?_eq_none (by simp; omega)]
theorem slices_Reverse_ev (l : List Int) (hn : l.length ≤ 4611686018427387904) : Ev (fun k => slices_Reverse_int_int.f k l) l.reverse := by
  simp only [slices_Reverse_int_int.f]
  rw [wr (n := (l.length : Int) - 1) (by omega) (by omega)]
  have := slices_Reverse_l0 l hn l.length 0 l (by omega) (by omega) rfl (by intro t ht; rw [if_neg (by omega)])
  simpa using this


theorem impl_ReverseDigits_ev (l : List Int) (hn : l.length ≤ 10000000) : Ev (fun k => impl_ReverseDigits.f k l) l.reverse := by
  simp only [impl_ReverseDigits.f, Option.bind_some, List.nil_append]
  refine ev_pos (by simp only [List.length_nil]; omega) (ev_bind (slices_Reverse_ev l (by omega)) (ev_some rfl))
theorem impl_MirrorWord_ev (l : List Int) (hn : l.length ≤ 10000000) : Ev (fun k => impl_MirrorWord.f k l) l.reverse := by
  simp only [impl_MirrorWord.f]
  exact ev_bind (impl_ReverseDigits_ev l hn) (ev_some rfl)


def ucRes (p q : Int) : List Int × Bool := ((chRes p q).1.reverse, (chRes p q).2)
theorem ucRes_length (p q : Int) : (ucRes p q).1.length ≤ 64 := by
  have := chRes_length p q
  simpa [ucRes] using this
theorem spec_UpperChristoffel_ev (p q : Int) : Ev (fun k => spec_UpperChristoffel.f k p q) (ucRes p q) := by
  have hl := chRes_length p q
  simp only [spec_UpperChristoffel.f]
  refine ev_bind (spec_ChristoffelWord_ev p q) (ev_ite (fun h => ?_) (fun h => ev_some ?_))
  · refine ev_bind (spec_ReverseDigits_ev _ (by omega)) (ev_some ?_)
    unfold ucRes; rw [h]
  · unfold ucRes
    unfold chRes at h ⊢
    split
    · rename_i h'; rw [if_pos h'] at h; exact absurd rfl h
    · rfl
theorem impl_UpperChristoffel_ev (p q : Int) : Ev (fun k => impl_UpperChristoffel.f k p q) (ucRes p q) := by
  have hl := chRes_length p q
  simp only [impl_UpperChristoffel.f]
  refine ev_bind (impl_ChristoffelWord_ev p q) (ev_bind (impl_MirrorWord_ev _ (by omega)) (ev_some rfl))


theorem laws_sameInts_l0 (a b : List Int) (hl : a.length = b.length) (hn : a.length ≤ 4611686018427387904) (d : Nat) : ∀ (i : Nat), i + d = a.length → Ev (fun k => laws_sameInts.l0 k a b (i : Int)) (decide (a.drop i = b.drop i)) := by
  induction d with
  | zero =>
    intro i hi
    refine ev_succ ?_
    simp only [laws_sameInts.l0]
    refine ev_neg (by omega) (ev_some ?_)
    rw [List.drop_of_length_le (by omega), List.drop_of_length_le (by omega)]; rfl
  | succ d ih =>
    intro i hi
    refine ev_succ ?_
    simp only [laws_sameInts.l0, wr1 (show (0 : Int) ≤ (i : Int) by omega) (by omega)]
    rw [drop_rd (by omega : i < a.length), drop_rd (by omega : i < b.length)]
    refine ev_pos (by omega) (ev_pos (by omega) (ev_pos (by omega) (ev_ite (fun h => ev_eq (ih (i + 1) (by omega)) ?_) (fun h => ev_some ?_))))
    · rw [h]; simp
    · simp [h]
theorem laws_sameInts_ev (a b : List Int) (hn : a.length ≤ 4611686018427387904) : Ev (fun k => laws_sameInts.f k a b) (decide (a = b)) := by
  simp only [laws_sameInts.f]
  refine ev_ite (fun h => ev_eq (laws_sameInts_l0 a b (by omega) hn a.length 0 (by omega)) (by simp)) (fun h => ev_some ?_)
  symm
  simp only [decide_eq_false_iff_not]
  rintro rfl
  exact h rfl
theorem sameInts_refl (a : List Int) (hn : a.length ≤ 4611686018427387904) : Ev (fun k => laws_sameInts.f k a a) true := ev_eq (laws_sameInts_ev a a hn) (by simp)


-- SAY: For every code: Christoffel words, their mirrors and splits are what the reference tells; a Christoffel word has the letters of its slope, is a Lyndon word, is balanced, is a palindrome between its ends, and is the product of two others; a drawn word is a Christoffel word just if it is a balanced Lyndon word; the words of the tree are Christoffel words in their order. The drawn slopes and words are finitely many: the facts on them are decided. No conditions beyond the given statement.
theorem treeAll_ok : (List.range 6).all (fun n => (List.range (tree n).length).all fun i => decide (((tree n).getD i []).length ≤ 100) && (decide (i = 0) || (isChr ((tree n).getD i []) && decide (cmpS ((tree n).getD (i - 1) []) ((tree n).getD i []) < 0)))) = true := by decide +kernel
theorem treeLen_ok : (List.range 6).all (fun n => decide ((tree n).length ≤ 33)) = true := by decide +kernel
theorem treeOf_facts (a : Int) : (treeOf a).length ≤ 33 ∧ ∀ i, i < (treeOf a).length → ((treeOf a).getD i []).length ≤ 100 ∧ (0 < i → isChr ((treeOf a).getD i []) = true ∧ cmpS ((treeOf a).getD (i - 1) []) ((treeOf a).getD i []) < 0) := by
  unfold treeOf
  split
  · exact ⟨by simp, fun i hi => absurd hi (by simp)⟩
  · rename_i h
    have hr : a.toNat ∈ List.range 6 := List.mem_range.2 (by omega)
    have h1 := List.all_eq_true.1 treeAll_ok _ hr
    have h2 := List.all_eq_true.1 treeLen_ok _ hr
    refine ⟨by simpa using h2, fun i hi => ?_⟩
    have h3 := List.all_eq_true.1 h1 i (List.mem_range.2 hi)
    simp only [Bool.and_eq_true, Bool.or_eq_true, decide_eq_true_eq] at h3
    refine ⟨h3.1, fun h0 => ?_⟩
    rcases h3.2 with e | e
    · omega
    · exact e
theorem rdLL_c {l : List (List Int)} {i : Nat} : rd_L2 l (i : Int) = l.getD i [] := by simp [rd_L2]
theorem sameWords_l0 (a : List (List Int)) (hn : a.length ≤ 33) (hx : ∀ i, i < a.length → (a.getD i []).length ≤ 100) (d : Nat) : ∀ i : Nat, i + d = a.length → Ev (fun k => laws_sameWords.l0 k a a (i : Int)) true := by
  induction d with
  | zero =>
    intro i hi
    refine ev_succ ?_
    simp only [laws_sameWords.l0]
    exact ev_neg (by omega) (ev_some rfl)
  | succ d ih =>
    intro i hi
    have hs : wrap64 ((i : Int) + 1) = ((i + 1 : Nat) : Int) := by rw [wr1 (by omega) (by omega)]; rfl
    refine ev_succ ?_
    simp only [laws_sameWords.l0, hs, rdLL_c]
    exact ev_pos (by omega) (ev_pos (by omega) (ev_pos (by omega) (ev_bind (sameInts_refl _ (by have := hx i (by omega); omega)) (ev_pos rfl (ih (i + 1) (by omega))))))
theorem sameWords_ev (a : List (List Int)) (hn : a.length ≤ 33) (hx : ∀ i, i < a.length → (a.getD i []).length ≤ 100) : Ev (fun k => laws_sameWords.f k a a) true := by
  simp only [laws_sameWords.f]
  exact ev_pos trivial (sameWords_l0 a hn hx a.length 0 (by omega))
theorem chrEnd_ev (l : List Int) (hn : l.length ≤ 1048576) (a : List (List Int)) (hl : a.length ≤ 33) (hx : ∀ i, i < a.length → (a.getD i []).length ≤ 100 ∧ (0 < i → isChr (a.getD i []) = true ∧ cmpS (a.getD (i - 1) []) (a.getD i []) < 0)) (d : Nat) : ∀ i : Nat, 1 ≤ i → (i + d = a.length ∨ (d = 0 ∧ a.length < i)) → Ev (fun k => laws_FnChristoffel.l0 k l a (i : Int)) true := by
  induction d with
  | zero =>
    intro i h1 hi
    refine ev_succ ?_
    simp only [laws_FnChristoffel.l0]
    refine ev_neg (by omega) ?_
    obtain ⟨r, hr, hs⟩ := drawSplit_tot l hn
    have hl2 := splRes_len r.1 r.2
    refine ev_bind hr (ev_bind (impl_ChristoffelSplit_ev r.1 r.2) (ev_bind (spec_ChristoffelSplit_ev r.1 r.2) (ev_pos (by simp) ?_)))
    exact ev_bind (sameInts_refl _ (by omega)) (ev_pos rfl (ev_bind (sameInts_refl _ (by omega)) (ev_some rfl)))
  | succ d ih =>
    intro i h1 hi
    obtain ⟨i0, rfl⟩ : ∃ i0, i = i0 + 1 := ⟨i - 1, by omega⟩
    have hs : wrap64 (((i0 + 1 : Nat) : Int) + 1) = ((i0 + 1 + 1 : Nat) : Int) := by rw [wr1 (by omega) (by omega)]; rfl
    have hd : wrap64 (((i0 + 1 : Nat) : Int) - 1) = (i0 : Int) := by rw [wr (by omega) (by omega)]; omega
    have hf := hx (i0 + 1) (by omega)
    have hf0 := hx i0 (by omega)
    have hf2 := hf.2 (by omega)
    rw [Nat.add_sub_cancel] at hf2
    refine ev_succ ?_
    simp only [laws_FnChristoffel.l0, hs, hd, rdLL_c]
    refine ev_pos (by omega) (ev_pos (by omega) (ev_bind (impl_IsChristoffel_ev _ (by omega)) (ev_pos hf2.1 (ev_pos (by omega) (ev_pos (by omega) ?_)))))
    exact ev_bind (spec_CompareWords_sev _ _ (by omega)) (ev_neg (by omega) (ih (i0 + 1 + 1) (by omega) (by omega)))
theorem chrJ3_ev (l : List Int) (hn : l.length ≤ 1048576) : Ev (fun k => laws_FnChristoffel.j3 k l false) true := by
  refine ev_succ ?_
  simp only [laws_FnChristoffel.j3]
  obtain ⟨a, ha, _⟩ := drawTree_tot l hn
  have hF := treeOf_facts a
  refine ev_neg (by simp) (ev_bind ha (ev_bind0 rfl (ev_bind0 rfl (ev_bind (sameWords_ev _ hF.1 (fun i hi => (hF.2 i hi).1)) (ev_pos rfl ?_)))))
  exact chrEnd_ev l hn (treeOf a) hF.1 hF.2 ((treeOf a).length - 1) 1 (by omega) (by omega)
theorem chrJ2_ev (l : List Int) (hn : l.length ≤ 1048576) : Ev (fun k => laws_FnChristoffel.j2 k l) true := by
  refine ev_succ ?_
  simp only [laws_FnChristoffel.j2]
  obtain ⟨y, hy, hd⟩ := drawIs_tot l hn
  have hl := yDrawn_len hd
  have hc := yDrawn_chr hd
  refine ev_bind hy (ev_bind (impl_IsChristoffel_ev y (by omega)) (ev_bind (spec_IsChristoffel_ev y (by omega)) (ev_neg (by simp) (ev_bind (impl_IsChristoffel_ev y (by omega)) ?_))))
  refine ev_ite (fun h => ev_bind (spec_IsLyndon_ev y (by omega)) (ev_ite (fun h2 => ev_bind (spec_IsBalanced_ev y (by omega)) ?_) (fun h2 => ?_))) (fun h => ?_)
  · rw [h2, Bool.true_and] at hc
    rw [hc, bne_self_eq_false]
    exact chrJ3_ev l hn
  · have h3 : lyn y = false := by simpa using h2
    rw [h3, Bool.false_and] at hc
    rw [hc]
    exact chrJ3_ev l hn
  · have h3 : y = [] := by
      cases y with
      | nil => rfl
      | cons x t => simp at h
    subst h3
    have : isChr [] = false := by rw [hc]; rfl
    rw [this]
    exact chrJ3_ev l hn
theorem chrJ1_ev (l : List Int) (hn : l.length ≤ 1048576) (p q : Int) (hs : sDrawn p q) (ho : chOk p q = true) : Ev (fun k => laws_FnChristoffel.j1 k l p q (chRes p q).1 false) true := by
  refine ev_succ ?_
  simp only [laws_FnChristoffel.j1]
  have hl := splRes_len p q
  have hf := split_facts hs ho
  refine ev_neg (by simp) (ev_bind (impl_ChristoffelSplit_ev p q) ?_)
  refine ev_neg (by rw [hf.1]; simp; omega) (ev_ite (fun h => ?_) (fun _ => chrJ2_ev l hn))
  refine ev_bind0 rfl (ev_pos (by simp; omega) (ev_bind0 rfl (ev_pos (by simp; omega) ?_)))
  rw [List.nil_append, hf.2 h]
  have := chRes_length p q
  exact ev_bind (sameInts_refl _ (by omega)) (ev_pos rfl (chrJ2_ev l hn))
theorem chrJ0_ev (l : List Int) (hn : l.length ≤ 1048576) (p q : Int) (hs : sDrawn p q) : Ev (fun k => laws_FnChristoffel.j0 k l p q (chRes p q).2 (chRes p q).1 false) true := by
  refine ev_succ ?_
  simp only [laws_FnChristoffel.j0]
  have hl := chRes_length p q
  refine ev_neg (by simp) (ev_ite (fun h => ?_) (fun _ => chrJ2_ev l hn))
  have ho : chOk p q = true := by
    unfold chRes at h
    by_cases ho : chOk p q = true
    · exact ho
    · rw [if_neg ho] at h; cases h
  have hF := chr_facts hs ho
  refine ev_bind (impl_SlopeOf_ev _ (by omega)) (ev_pos hF.c1 (ev_pos hF.c0 (ev_bind (impl_IsChristoffel_ev _ (by omega)) (ev_pos hF.chr (ev_bind (spec_IsLyndon_ev _ (by omega)) (ev_pos hF.lyn (ev_bind (spec_IsBalanced_ev _ (by omega)) (ev_pos hF.bal ?_))))))))
  refine ev_ite (fun h2 => ?_) (fun _ => chrJ1_ev l hn p q hs ho)
  have hw : wrap64 (((chRes p q).1.length : Int) - 1) = (((chRes p q).1.length - 1 : Nat) : Int) := by rw [wr (by omega) (by omega)]; omega
  rw [hw, Int.toNat_natCast]
  refine ev_pos (by omega) (ev_pos (by omega) ?_)
  have hp := hF.pal (by omega)
  have e : ((chRes p q).1.take ((chRes p q).1.length - 1)).drop 1 = ((chRes p q).1.drop 1).take ((chRes p q).1.length - 2) := by
    rw [List.drop_take]; congr 1
  rw [e]
  refine ev_bind (spec_IsPalindrome_ev _ (by simp only [List.length_take, List.length_drop]; omega)) (ev_pos (by simpa using hp) (ev_pos (by omega) ?_))
  rw [hF.hd (by omega)]
  exact chrJ1_ev l hn p q hs ho
theorem FnChristoffel : laws_FnChristoffel.Pure := by
  intro l hl0 hl1 hwf
  refine Ev.rounds (g := fun k => laws_FnChristoffel.f k l) ?_
  simp only [laws_FnChristoffel.f]
  refine ev_bind0 (big_eq l) (ev_ite (fun h => ev_some rfl) (fun h => ?_))
  simp only [decide_eq_true_eq] at h
  have hn : l.length ≤ 1048576 := by omega
  obtain ⟨r, hr, hs⟩ := drawChr_tot l hn
  have hc := chRes_length r.1 r.2
  have hu := ucRes_length r.1 r.2
  refine ev_bind hr (ev_bind (impl_ChristoffelWord_ev r.1 r.2) (ev_bind (spec_ChristoffelWord_ev r.1 r.2) (ev_bind (impl_UpperChristoffel_ev r.1 r.2) (ev_bind (spec_UpperChristoffel_ev r.1 r.2) ?_))))
  refine ev_neg (by simp) (ev_bind (sameInts_refl _ (by omega)) (ev_pos rfl (ev_neg (by simp) (ev_bind (sameInts_refl _ (by omega)) (ev_pos rfl ?_)))))
  have e : ((ucRes r.1 r.2).2 != (chRes r.1 r.2).2) = false := by simp [ucRes]
  rw [e]
  exact chrJ0_ev l hn r.1 r.2 hs


end Go.Proofs.Ytcofhkocfkappaa.Pure

/-! The row's word for a slice's size, under the name by which the row asks for it. -/
namespace Go.Proofs.Ytcofhkocfkappaa.PrintWords
open Go.ChangeShapes Go.WideShapes
theorem sized_ints {H : Type} {enc : TypeId × Value → H} {P : Program} {W : World} {base : Nat} {spare : Nat → Bool} {held : Bool} {t e : TypeId} {k : IntKind} {a : Option Addr} {len cap : Nat} {d : DataW H}
    {ps : List MemPlace} {ts : List TypeId} {ds : List (DataW H)} {j : Nat} (hsz : (DataW.weightsEach P ts ds).all (· ≤ reachBytes) = true) (ht : ts[j]? = some t) (hd : ds[j]? = some d) (hu : P.underlying t = some (.slice e))
    (he : P.underlying e = some (.int k)) (hc : P.cellsOf e = 1) {B : Nat} (hB : P.bytesOf e = B) (h : DataW.Trod enc P W base spare held t (.slice a len cap) d ps) : len * B ≤ 140737488351232 :=
  Go.Proofs.YtcofhkocfkappaaW.PrintWords.sized_ints hsz ht hd hu he hc hB h
end Go.Proofs.Ytcofhkocfkappaa.PrintWords
