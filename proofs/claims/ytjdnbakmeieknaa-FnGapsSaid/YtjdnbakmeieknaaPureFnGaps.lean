/- For every code the law of gaps holds: points on a circle leave gaps of three lengths at most, the longest of three is the sum of the others, all gaps make up the circle, and the reference agrees. No conditions beyond the given statement. -/
import Derived.Test.YtjdnbakmeieknaaPFnGapsx6
import Derived.Test.YtjdnbakmeieknaaWSized
import Derived.Test.YtjdnbakmeieknaaWSized
import Derived.Test.YtjdnbakmeieknaaWSized
set_option linter.unusedVariables false
set_option linter.unusedSimpArgs false
namespace Go.Proofs.Ytjdnbakmeieknaa.Pure
open Go.RowKit Go.Proofs.Ytjdnbakmeieknaa.PFnGaps Go.Proofs.YtjdnbakmeieknaaW.PrintWords Go.Proofs.YtjdnbakmeieknaaW.PrintLast

theorem ev_succ {α : Type} {g : Nat → Option α} {r : α} (h : Ev (fun k => g (k + 1)) r) : Ev g r := Ev.step (fun _ => rfl) h
theorem ev_some {α : Type} {r r' : α} (h : r = r') : Ev (fun _ => some r) r' := by subst h; exact Ev.now r
theorem ev_pos {α : Type} {c : Prop} [Decidable c] {g f : Nat → Option α} {r : α} (hc : c) (h : Ev g r) : Ev (fun k => if c then g k else f k) r := by
  simp only [if_pos hc]; exact h
theorem ev_neg {α : Type} {c : Prop} [Decidable c] {g f : Nat → Option α} {r : α} (hc : ¬ c) (h : Ev f r) : Ev (fun k => if c then g k else f k) r := by
  simp only [if_neg hc]; exact h
theorem ev_ite {α : Type} {c : Prop} [Decidable c] {g f : Nat → Option α} {r : α} (h : c → Ev g r) (h' : ¬ c → Ev f r) : Ev (fun k => if c then g k else f k) r := by
  by_cases hc : c
  · exact ev_pos hc (h hc)
  · exact ev_neg hc (h' hc)
theorem ev_bind {α β : Type} {g : Nat → Option α} {f : Nat → α → Option β} {a : α} {r : β} (h : Ev g a) (k : Ev (fun n => f n a) r) : Ev (fun n => (g n).bind (f n)) r := Ev.bind h k
theorem ev_bind0 {α β : Type} {o : Option α} {f : Nat → α → Option β} {a : α} {r : β} (h : o = some a) (k : Ev (fun n => f n a) r) : Ev (fun n => o.bind (f n)) r := by
  subst h; exact k
theorem ev_eq {α : Type} {g : Nat → Option α} {r r' : α} (h : Ev g r) (e : r = r') : Ev g r' := e ▸ h
theorem ev_const {α : Type} {o : Option α} {r : α} (h : o = some r) : Ev (fun _ => o) r := by subst h; exact Ev.now r
theorem wr {n : Int} (h0 : -9223372036854775808 ≤ n) (h1 : n ≤ 9223372036854775807) : wrap64 n = n := by unfold wrap64; omega
theorem wr1 {i : Int} (h0 : 0 ≤ i) (h1 : i ≤ 4611686018427387904) : wrap64 (i + 1) = i + 1 := wr (by omega) (by omega)
theorem wr_nat {n : Nat} (h : n ≤ 4611686018427387904) : wrap64 (n : Int) = n := wr (by omega) (by omega)
theorem rd_nat (l : List Int) (i : Nat) : rd l (i : Int) = l.getD i 0 := by simp [rd]
theorem rd_get {l : List Int} {i : Nat} (h : i < l.length) : rd l (i : Int) = l[i] := by
  simp [rd, List.getD_eq_getElem?_getD, List.getElem?_eq_getElem h]
theorem drop_rd {l : List Int} {i : Nat} (h : i < l.length) : l.drop i = rd l (i : Int) :: l.drop (i + 1) := by
  rw [rd_get h]; exact List.drop_eq_getElem_cons h
theorem rd_mem {l : List Int} {i : Nat} (h : i < l.length) : rd l (i : Int) ∈ l := by rw [rd_get h]; exact List.getElem_mem h


theorem big_eq (l : List Int) : laws_big.f l = some (decide ((l.length : Int) > 1048576)) := by simp only [laws_big.f]


theorem laws_sameInts_l0 (a b : List Int) (hl : a.length = b.length) (hn : a.length ≤ 4611686018427387904) (d : Nat) : ∀ (i : Nat), i + d = a.length → Ev (fun k => laws_sameInts.l0 k a b (i : Int)) (decide (a.drop i = b.drop i)) := by
  induction d with
  | zero =>
    intro i hi
    refine ev_succ ?_
    simp only [laws_sameInts.l0]
    refine ev_neg (by omega) (ev_some ?_)
    rw [List.drop_of_length_le (by omega), List.drop_of_length_le (by omega)]; rfl
  | succ d ih =>
    intro i hi
    refine ev_succ ?_
    simp only [laws_sameInts.l0, wr1 (show (0 : Int) ≤ (i : Int) by omega) (by omega)]
    rw [drop_rd (by omega : i < a.length), drop_rd (by omega : i < b.length)]
    refine ev_pos (by omega) (ev_pos (by omega) (ev_pos (by omega) (ev_ite (fun h => ev_eq (ih (i + 1) (by omega)) ?_) (fun h => ev_some ?_))))
    · rw [h]; simp
    · simp [h]
theorem laws_sameInts_ev (a b : List Int) (hn : a.length ≤ 4611686018427387904) : Ev (fun k => laws_sameInts.f k a b) (decide (a = b)) := by
  simp only [laws_sameInts.f]
  refine ev_ite (fun h => ev_eq (laws_sameInts_l0 a b (by omega) hn a.length 0 (by omega)) (by simp)) (fun h => ev_some ?_)
  symm
  simp only [decide_eq_false_iff_not]
  rintro rfl
  exact h rfl
theorem sameInts_refl (a : List Int) (hn : a.length ≤ 4611686018427387904) : Ev (fun k => laws_sameInts.f k a a) true := ev_eq (laws_sameInts_ev a a hn) (by simp)


/-- g tells some answer of which P is known -/
def Tot {α : Type} (g : Nat → Option α) (P : α → Prop) : Prop := ∃ r, Ev g r ∧ P r
theorem tot_of {α : Type} {g : Nat → Option α} {P : α → Prop} {r : α} (h : Ev g r) (hp : P r) : Tot g P := ⟨r, h, hp⟩
theorem tot_some {α : Type} {r : α} {P : α → Prop} (h : P r) : Tot (fun _ => some r) P := ⟨r, Ev.now r, h⟩
theorem tot_bind {α β : Type} {g : Nat → Option α} {f : Nat → α → Option β} {P : α → Prop} {Q : β → Prop} (h : Tot g P) (k : ∀ a, P a → Tot (fun n => f n a) Q) : Tot (fun n => (g n).bind (f n)) Q := by
  obtain ⟨a, ha, hp⟩ := h
  obtain ⟨r, hr, hq⟩ := k a hp
  exact ⟨r, Ev.bind ha hr, hq⟩
theorem tot_bind0 {α β : Type} {o : Option α} {f : Nat → α → Option β} {P : α → Prop} {Q : β → Prop} (h : ∃ a, o = some a ∧ P a) (k : ∀ a, P a → Tot (fun n => f n a) Q) : Tot (fun n => o.bind (f n)) Q := by
  obtain ⟨a, ha, hp⟩ := h
  subst ha
  exact k a hp
theorem tot_pos {α : Type} {c : Prop} [Decidable c] {g f : Nat → Option α} {P : α → Prop} (hc : c) (h : Tot g P) : Tot (fun k => if c then g k else f k) P := by
  simp only [if_pos hc]; exact h
theorem tot_neg {α : Type} {c : Prop} [Decidable c] {g f : Nat → Option α} {P : α → Prop} (hc : ¬ c) (h : Tot f P) : Tot (fun k => if c then g k else f k) P := by
  simp only [if_neg hc]; exact h
theorem tot_ite {α : Type} {c : Prop} [Decidable c] {g f : Nat → Option α} {P : α → Prop} (h : c → Tot g P) (h' : ¬ c → Tot f P) : Tot (fun k => if c then g k else f k) P := by
  by_cases hc : c
  · exact tot_pos hc (h hc)
  · exact tot_neg hc (h' hc)
theorem tot_succ {α : Type} {g : Nat → Option α} {P : α → Prop} (h : Tot (fun k => g (k + 1)) P) : Tot g P := by
  obtain ⟨r, hr, hp⟩ := h
  exact ⟨r, ev_succ hr, hp⟩
theorem tot_mono {α : Type} {g : Nat → Option α} {P Q : α → Prop} (h : Tot g P) (k : ∀ a, P a → Q a) : Tot g Q := by
  obtain ⟨r, hr, hp⟩ := h
  exact ⟨r, hr, k r hp⟩
theorem bits_and_le (x : Int) (m : Nat) (hm : m < 4611686018427387904) : 0 ≤ Go.bits .and .i64 x (m : Int) ∧ Go.bits .and .i64 x (m : Int) ≤ m := by
  have h : ∀ n : Nat, n ≤ m → IntKind.i64.wrap (n : Int) = n := by
    intro n hn
    simp only [IntKind.wrap, IntKind.bits, IntKind.signed, Bool.true_and, decide_eq_true_eq]
    split
    · rename_i h
      have e : (2 : Int) ^ (64 - 1) = 9223372036854775808 := by decide
      have h2 : (n : Int) % 2 ^ 64 ≥ 2 ^ (64 - 1) := of_decide_eq_true h
      rw [e] at h2
      omega
    · omega
  simp only [Go.bits]
  have hb : (BitVec.ofInt IntKind.i64.bits (m : Int)).toNat = m := by
    simp only [BitVec.ofInt_natCast, BitVec.toNat_ofNat, IntKind.bits]
    exact Nat.mod_eq_of_lt (by omega)
  have hle : ((BitVec.ofInt IntKind.i64.bits x) &&& (BitVec.ofInt IntKind.i64.bits (m : Int))).toNat ≤ m := by
    rw [BitVec.toNat_and, hb]; exact Nat.and_le_right
  rw [h _ hle]
  omega
/-- a cursor's place and hash: the place is no negative number -/
def curOk (b : List Int) (i : Int) : Prop := 0 ≤ i ∧ b.length ≤ 1048576
theorem l1Byte_tot (b : List Int) (i h : Int) (hc : curOk b i) : ∃ r, spec_l1Byte.f b i h = some r ∧ 0 ≤ r.1 ∧ r.1 ≤ 255 ∧ curOk b r.2.1 := by
  obtain ⟨h0, hb⟩ := hc
  unfold spec_l1Byte.f
  by_cases hi : i < (b.length : Int)
  · rw [if_pos hi, if_pos h0]
    have := bits_and_le ((wrap64 ((Go.bits .and .i64 (Go.bits .xor .i64 ((wrap64 ((wrap64 (h * 6364136223846793005)) + 1442695040888963407)) / 8589934592) ((wrap64 ((wrap64 (h * 6364136223846793005)) + 1442695040888963407)) / 35184372088832)) 255) + (wrap64 (rd b i))))) 255 (by omega)
    refine ⟨_, rfl, this.1, this.2, ?_, hb⟩
    simp only
    rw [wr1 h0 (by omega)]; omega
  · rw [if_neg hi]
    have := bits_and_le (Go.bits .xor .i64 ((wrap64 ((wrap64 (h * 6364136223846793005)) + 1442695040888963407)) / 8589934592) ((wrap64 ((wrap64 (h * 6364136223846793005)) + 1442695040888963407)) / 35184372088832)) 255 (by omega)
    exact ⟨_, rfl, this.1, this.2, h0, hb⟩
theorem l1Below_tot (b : List Int) (i h n : Int) (hc : curOk b i) (h1 : 1 ≤ n) (h2 : n ≤ 256) : ∃ r, spec_l1Below.f b i h n = some r ∧ (0 ≤ r.1 ∧ r.1 < n) ∧ curOk b r.2.1 := by
  unfold spec_l1Below.f
  rw [if_neg (by omega), if_pos h2]
  obtain ⟨⟨x, i', h'⟩, e, hx0, hx1, hc'⟩ := l1Byte_tot b i h hc
  rw [e]
  simp only [Option.bind_some] at *
  rw [if_neg (by omega)]
  refine ⟨_, rfl, ?_, hc'⟩
  simp only
  rw [Int.tmod_eq_emod_of_nonneg hx0]
  exact ⟨Int.emod_nonneg _ (by omega), Int.emod_lt_of_pos _ (by omega)⟩
theorem l1PickInt_tot (b : List Int) (i h : Int) (l : List Int) (hc : curOk b i) (h1 : 1 ≤ l.length) (h2 : l.length ≤ 256) : ∃ r, spec_l1PickInt.f b i h l = some r ∧ r.1 ∈ l ∧ curOk b r.2.1 := by
  unfold spec_l1PickInt.f
  obtain ⟨⟨x, i', h'⟩, e, ⟨hx0, hx1⟩, hc'⟩ := l1Below_tot b i h (l.length : Int) hc (by omega) (by omega)
  rw [e]
  simp only [Option.bind_some] at *
  rw [if_pos hx0, if_pos hx1]
  refine ⟨_, rfl, ?_, hc'⟩
  simp only
  obtain ⟨n, rfl⟩ := Int.eq_ofNat_of_zero_le hx0
  exact rd_mem (by omega)
theorem l1New_l0 (l : List Int) (hn : l.length ≤ 1048576) (d : Nat) : ∀ (i : Nat) (h : Int), i + d = l.length → Tot (fun k => spec_l1New.l0 k l h (i : Int)) (fun r => r.1 = l ∧ r.2.1 = 0) := by
  induction d with
  | zero =>
    intro i h hi
    refine tot_succ ?_
    simp only [spec_l1New.l0]
    exact tot_neg (by omega) (tot_some ⟨rfl, rfl⟩)
  | succ d ih =>
    intro i h hi
    refine tot_succ ?_
    simp only [spec_l1New.l0, wr1 (show (0 : Int) ≤ (i : Int) by omega) (by omega)]
    exact tot_pos (by omega) (tot_ite (fun _ => tot_pos (by omega) (ih (i + 1) _ (by omega))) (fun _ => tot_some ⟨rfl, rfl⟩))
theorem l1New_tot (l : List Int) (hn : l.length ≤ 1048576) : Tot (fun k => spec_l1New.f k l) (fun r => r.1 = l ∧ r.2.1 = 0) := by
  simp only [spec_l1New.f]
  exact l1New_l0 l hn l.length 0 _ (by omega)


theorem tmod_nat (a b : Nat) : Int.tmod (a : Int) (b : Int) = ((a % b : Nat) : Int) := by
  rw [Int.tmod_eq_emod_of_nonneg (by omega)]; exact (Int.natCast_emod a b).symm
theorem tdiv_nat (a b : Nat) : Int.tdiv (a : Int) (b : Int) = ((a / b : Nat) : Int) := by
  rw [Int.tdiv_eq_ediv_of_nonneg (by omega)]; exact (Int.natCast_ediv a b).symm
theorem gcd_step (a b : Nat) (h : b ≠ 0) : Nat.gcd a b = Nat.gcd b (a % b) := by
  rw [Nat.gcd_comm a b, Nat.gcd_rec b a, Nat.gcd_comm]
theorem impl_gcd_l0 (n : Nat) : ∀ (a b : Nat), b ≤ n → Ev (fun k => impl_gcd.l0 k (a : Int) (b : Int)) ((Nat.gcd a b : Nat) : Int) := by
  induction n with
  | zero =>
    intro a b h
    obtain rfl : b = 0 := by omega
    refine ev_succ ?_
    simp only [impl_gcd.l0]
    exact ev_pos (by omega) (ev_some (by simp))
  | succ n ih =>
    intro a b h
    refine ev_succ ?_
    simp only [impl_gcd.l0, tmod_nat]
    refine ev_ite (fun h0 => ev_some ?_) (fun h0 => ?_)
    · obtain rfl : b = 0 := by omega
      simp
    · rw [gcd_step a b (by omega)]
      exact ih b (a % b) (by have := Nat.mod_lt a (show b > 0 by omega); omega)
theorem impl_gcd_ev (a b : Nat) : Ev (fun k => impl_gcd.f k (a : Int) (b : Int)) ((Nat.gcd a b : Nat) : Int) := by
  simp only [impl_gcd.f]; exact impl_gcd_l0 b a b (Nat.le_refl _)


theorem spec_l10Gcd_l0 (n : Nat) : ∀ (a b : Nat), b ≤ n → Ev (fun k => spec_l10Gcd.l0 k (a : Int) (b : Int)) ((Nat.gcd a b : Nat) : Int) := by
  induction n with
  | zero =>
    intro a b h
    obtain rfl : b = 0 := by omega
    refine ev_succ ?_
    simp only [spec_l10Gcd.l0]
    exact ev_neg (by omega) (ev_some (by simp))
  | succ n ih =>
    intro a b h
    refine ev_succ ?_
    simp only [spec_l10Gcd.l0, tmod_nat]
    refine ev_ite (fun h0 => ?_) (fun h0 => ev_some ?_)
    · refine ev_neg (by omega) ?_
      rw [gcd_step a b (by omega)]
      exact ih b (a % b) (by have := Nat.mod_lt a (show b > 0 by omega); omega)
    · obtain rfl : b = 0 := by omega
      simp
theorem spec_l10Gcd_ev (a b : Nat) : Ev (fun k => spec_l10Gcd.f k (a : Int) (b : Int)) ((Nat.gcd a b : Nat) : Int) := by
  simp only [spec_l10Gcd.f]; exact spec_l10Gcd_l0 b a b (Nat.le_refl _)


theorem l1In_eq (a b c : Int) : spec_l1In.f a b c = some (decide (b ≤ a ∧ a ≤ c)) := by
  unfold spec_l1In.f
  by_cases h : a ≥ b
  · rw [if_pos h]; simp [show b ≤ a from h]
  · rw [if_neg h]; simp [show ¬ b ≤ a from h]


theorem pt_split (L : List Nat) (f : Nat → Nat) (q : Nat) : ((L.filter (fun i => decide (f i < q + 1))).map f).Perm (((L.filter (fun i => decide (f i < q))).map f) ++ ((L.filter (fun i => decide (f i = q))).map fun _ => q)) := by
  induction L with
  | nil => simp
  | cons i L ih =>
    by_cases h1 : f i < q
    · simp [List.filter_cons, h1, show f i < q + 1 by omega, show ¬ f i = q by omega]
      simpa using ih
    · by_cases h2 : f i = q
      · simp only [List.filter_cons, h2, show ¬ q < q by omega, show q < q + 1 by omega, decide_true, if_true, decide_false, Bool.false_eq_true, if_false, List.map_cons]
        exact (List.Perm.cons q ih).trans (List.perm_middle.symm)
      · simp [List.filter_cons, h1, h2, show ¬ f i < q + 1 by omega]
        simpa using ih
def ptRow (L : List Nat) (f : Nat → Nat) (x : Nat) : List Nat := (L.filter (fun i => decide (f i = x))).map fun _ => x
theorem pt_perm (L : List Nat) (f : Nat → Nat) (q : Nat) : ((List.range q).flatMap (ptRow L f)).Perm ((L.filter (fun i => decide (f i < q))).map f) := by
  induction q with
  | zero => simp
  | succ q ih =>
    rw [List.range_succ, List.flatMap_append]
    refine List.Perm.trans ?_ (pt_split L f q).symm
    simp only [List.flatMap_cons, List.flatMap_nil, List.append_nil]
    exact ih.append_right _
def ptF (p q i : Nat) : Nat := i * p % q
def ptN (p q n : Nat) : List Nat := (List.range q).flatMap (ptRow (List.range n) (ptF p q))
def ptL (p q n : Nat) : List Int := (ptN p q n).map fun x : Nat => (x : Int)
def ptM (p q n : Nat) : List Int := (List.range n).map fun i => ((ptF p q i : Nat) : Int)
theorem ptN_sorted (p q n : Nat) : (ptN p q n).Pairwise (fun a b => a ≤ b) := by
  unfold ptN
  rw [List.pairwise_flatMap]
  refine ⟨fun a _ => ?_, List.pairwise_le_range.imp ?_⟩
  · unfold ptRow
    rw [List.pairwise_map]
    exact List.pairwise_of_forall (fun _ _ => Nat.le_refl _)
  · intro a b hab x hx y hy
    simp only [ptRow, List.mem_map] at hx hy
    obtain ⟨_, _, rfl⟩ := hx
    obtain ⟨_, _, rfl⟩ := hy
    exact hab
theorem pt_sort (p q n : Nat) (hq : 0 < q) : ((ptM p q n).mergeSort fun x y => decide (x ≤ y)) = ptL p q n := by
  refine List.Perm.eq_of_pairwise (le := fun a b : Int => a ≤ b) (fun a b _ _ h h' => by omega) ?_ ?_ ?_
  · exact (List.pairwise_mergeSort (le := fun x y : Int => decide (x ≤ y)) (fun a b c h h' => by simp at *; omega) (fun a b => by simp; omega) _).imp (fun h => by simpa using h)
  · unfold ptL
    rw [List.pairwise_map]
    exact (ptN_sorted p q n).imp (fun h => by omega)
  · refine (List.mergeSort_perm _ _).trans ?_
    have h := pt_perm (List.range n) (ptF p q) q
    rw [List.filter_eq_self.2 (fun i _ => by simp [ptF, Nat.mod_lt _ hq])] at h
    have h2 := (h.map (fun x : Nat => (x : Int))).symm
    rw [List.map_map] at h2
    exact h2
theorem ptL_length (p q n : Nat) (hq : 0 < q) : (ptL p q n).length = n := by
  rw [← pt_sort p q n hq]; simp [ptM]
def ptOk (p q n : Int) : Bool := decide ((1 ≤ q ∧ q ≤ 200) ∧ (0 ≤ p ∧ p ≤ q - 1) ∧ (1 ≤ n ∧ n ≤ q)) && decide (Nat.gcd p.toNat q.toNat = 1)
def ptRes (p q n : Int) : List Int × Bool := if ptOk p q n = true then (ptL p.toNat q.toNat n.toNat, true) else ([], false)
theorem pt_mul {i p q : Nat} (hq : q ≤ 200) (hp : p < q) (hi : i ≤ 200) : wrap64 ((i : Int) * (p : Int)) = ((i * p : Nat) : Int) := by
  have : i * p ≤ 200 * 200 := Nat.mul_le_mul hi (by omega)
  rw [← Int.natCast_mul, wr_nat (by omega)]
def ptSome (p q x i d : Nat) : List Int := ((List.range' i d).filter (fun i => decide (ptF p q i = x))).map fun _ => (x : Int)
theorem ptSome_hit {p q x i d : Nat} (h : ptF p q i = x) : ptSome p q x i (d + 1) = (x : Int) :: ptSome p q x (i + 1) d := by
  simp [ptSome, List.range'_succ, List.filter_cons, h]
theorem ptSome_miss {p q x i d : Nat} (h : ¬ ptF p q i = x) : ptSome p q x i (d + 1) = ptSome p q x (i + 1) d := by
  simp [ptSome, List.range'_succ, List.filter_cons, h]
theorem ptSome_length (p q x i d : Nat) : (ptSome p q x i d).length ≤ d := by
  unfold ptSome
  rw [List.length_map]
  exact Nat.le_trans (List.length_filter_le _ _) (by simp)
theorem spec_PointsOf_l1 (p q n x : Nat) (hq : q ≤ 200) (hp : p < q) (hn : n ≤ q) (hx : x < q) (r : List Int × Bool) (d : Nat) : ∀ (i : Nat) (acc : List Int), i + d = n → acc.length ≤ 200 * x + i →
    Ev (fun k => spec_PointsOf.l0 k (p : Int) (q : Int) (n : Int) (acc ++ ptSome p q x i d) ((x + 1 : Nat) : Int)) r →
    Ev (fun k => spec_PointsOf.l1 k (p : Int) (q : Int) (n : Int) acc (x : Int) (i : Int)) r := by
  induction d with
  | zero =>
    intro i acc hi ha hE
    refine ev_succ ?_
    simp only [spec_PointsOf.l1]
    refine ev_neg (by omega) ?_
    rw [wr1 (by omega) (by omega)]
    simpa [ptSome] using hE
  | succ d ih =>
    intro i acc hi ha hE
    refine ev_succ ?_
    simp only [spec_PointsOf.l1]
    rw [pt_mul hq hp (by omega), tmod_nat, wr1 (by omega) (by omega)]
    refine ev_pos (by omega) (ev_neg (by omega) ?_)
    by_cases h : ptF p q i = x
    · rw [ptSome_hit h] at hE
      refine ev_pos (by unfold ptF at h; omega) (ev_pos (by omega) ?_)
      exact ih (i + 1) (acc ++ [(x : Int)]) (by omega) (by simp; omega) (by simpa using hE)
    · rw [ptSome_miss h] at hE
      refine ev_neg (by unfold ptF at h; omega) ?_
      exact ih (i + 1) acc (by omega) (by omega) hE
theorem ptRow_eq (p q n x : Nat) : ptSome p q x 0 n = (ptRow (List.range n) (ptF p q) x).map fun x : Nat => (x : Int) := by
  simp [ptSome, ptRow, List.range_eq_range']
theorem spec_PointsOf_l0 (p q n : Nat) (hq : q ≤ 200) (hp : p < q) (hn : n ≤ q) (d : Nat) : ∀ (x : Nat) (acc : List Int), x + d = q → acc.length ≤ 200 * x →
    Ev (fun k => spec_PointsOf.l0 k (p : Int) (q : Int) (n : Int) acc (x : Int)) (acc ++ ((List.range' x d).flatMap (ptRow (List.range n) (ptF p q))).map (fun x : Nat => (x : Int)), true) := by
  induction d with
  | zero =>
    intro x acc hx ha
    refine ev_succ ?_
    simp only [spec_PointsOf.l0]
    exact ev_neg (by omega) (ev_some (by simp))
  | succ d ih =>
    intro x acc hx ha
    refine ev_succ ?_
    simp only [spec_PointsOf.l0]
    refine ev_pos (by omega) ?_
    have hl := ptSome_length p q x 0 n
    refine spec_PointsOf_l1 p q n x hq hp hn (by omega) _ n 0 acc (by omega) (by omega) (ev_eq (ih (x + 1) (acc ++ ptSome p q x 0 n) (by omega) (by simp; omega)) ?_)
    rw [ptRow_eq]
    simp [List.range'_succ, List.flatMap_cons]
theorem pt_no (p q n : Int) (h : ¬ ((1 ≤ q ∧ q ≤ 200) ∧ (0 ≤ p ∧ p ≤ q - 1) ∧ (1 ≤ n ∧ n ≤ q))) : ptRes p q n = ([], false) := by
  unfold ptRes ptOk
  rw [decide_eq_false h]; simp
theorem pt_yes (p q n : Nat) (h : (1 ≤ q ∧ q ≤ 200) ∧ p < q ∧ (1 ≤ n ∧ n ≤ q)) (hg : Nat.gcd p q = 1) : ptRes p q n = (ptL p q n, true) := by
  unfold ptRes ptOk
  rw [decide_eq_true ⟨⟨by omega, by omega⟩, ⟨by omega, by omega⟩, ⟨by omega, by omega⟩⟩, Int.toNat_natCast, Int.toNat_natCast, Int.toNat_natCast, decide_eq_true hg]
  simp
theorem pt_gcd (p q n : Nat) (hg : ¬ Nat.gcd p q = 1) : ptRes p q n = ([], false) := by
  unfold ptRes ptOk
  rw [Int.toNat_natCast, Int.toNat_natCast, decide_eq_false hg]; simp
theorem spec_l25Fine_ev (p q n : Int) : Ev (fun k => spec_l25Fine.f k p q n) (ptOk p q n) := by
  simp only [spec_l25Fine.f, l1In_eq, Option.bind_some]
  by_cases h1 : 1 ≤ q ∧ q ≤ 200
  · refine ev_pos (by simpa using h1) ?_
    rw [wr (show -9223372036854775808 ≤ q - 1 by omega) (by omega)]
    by_cases h2 : 0 ≤ p ∧ p ≤ q - 1
    · refine ev_pos (by simpa using h2) ?_
      obtain ⟨a, rfl⟩ := Int.eq_ofNat_of_zero_le (show 0 ≤ p by omega)
      obtain ⟨b, rfl⟩ := Int.eq_ofNat_of_zero_le (show 0 ≤ q by omega)
      refine ev_bind (spec_l10Gcd_ev b a) ?_
      unfold ptOk
      rw [Int.toNat_natCast, Int.toNat_natCast]
      have hc := Nat.gcd_comm a b
      by_cases h3 : Nat.gcd a b = 1
      · refine ev_pos (by omega) (ev_some ?_)
        rw [decide_eq_true h3, Bool.and_true]
        simp only [decide_eq_decide]; omega
      · refine ev_neg (by omega) (ev_some ?_)
        rw [decide_eq_false h3, Bool.and_false]
    · refine ev_neg (by simpa using h2) (ev_some ?_)
      unfold ptOk; rw [decide_eq_false (by omega), Bool.false_and]
  · refine ev_neg (by simpa using h1) (ev_some ?_)
    unfold ptOk; rw [decide_eq_false (by omega), Bool.false_and]
theorem ptOk_nat {p q n : Int} (h : ptOk p q n = true) : ∃ a b m : Nat, p = a ∧ q = b ∧ n = m ∧ ((1 ≤ b ∧ b ≤ 200) ∧ a < b ∧ (1 ≤ m ∧ m ≤ b)) ∧ Nat.gcd a b = 1 := by
  unfold ptOk at h
  simp only [Bool.and_eq_true, decide_eq_true_eq] at h
  exact ⟨p.toNat, q.toNat, n.toNat, by omega, by omega, by omega, ⟨⟨by omega, by omega⟩, by omega, by omega, by omega⟩, h.2⟩
theorem spec_PointsOf_ev (p q n : Int) : Ev (fun k => spec_PointsOf.f k p q n) (ptRes p q n) := by
  simp only [spec_PointsOf.f, Option.bind_some]
  refine ev_bind (spec_l25Fine_ev p q n) ?_
  by_cases h : ptOk p q n = true
  · obtain ⟨a, b, m, rfl, rfl, rfl, hb, hg⟩ := ptOk_nat h
    refine ev_pos h ?_
    rw [pt_yes a b m hb hg]
    refine ev_eq (spec_PointsOf_l0 a b m (by omega) (by omega) (by omega) b 0 [] (by omega) (by simp)) ?_
    simp [ptL, ptN, List.range_eq_range']
  · refine ev_neg h (ev_some ?_)
    unfold ptRes; rw [if_neg h]
theorem impl_points_l0 (p q n : Nat) (hq : 0 < q ∧ q ≤ 200) (hp : p < q) (hn : n ≤ q) (d : Nat) : ∀ (i : Nat) (acc : List Int), i + d = n → acc.length ≤ 200 + i →
    Ev (fun k => impl_points.l0 k (p : Int) (q : Int) acc (n : Int) (i : Int)) ((acc ++ ((List.range' i d).map fun i => ((ptF p q i : Nat) : Int))).mergeSort (fun x y => decide (x ≤ y)), true) := by
  induction d with
  | zero =>
    intro i acc hi ha
    refine ev_succ ?_
    simp only [impl_points.l0]
    refine ev_neg (by omega) ?_
    simp only [slices_Sort_int_int.f]
    refine ev_bind (ev_pos (by omega) (ev_some rfl)) (ev_some ?_)
    simp
  | succ d ih =>
    intro i acc hi ha
    refine ev_succ ?_
    simp only [impl_points.l0]
    rw [pt_mul hq.2 hp (by omega), tmod_nat, wr1 (by omega) (by omega)]
    refine ev_pos (by omega) (ev_neg (by omega) (ev_pos (by omega) ?_))
    refine ev_eq (ih (i + 1) (acc ++ [((ptF p q i : Nat) : Int)]) (by omega) (by simp; omega)) ?_
    simp [List.range'_succ]
theorem impl_points_ev (p q n : Int) : Ev (fun k => impl_points.f k p q n) (ptRes p q n) := by
  simp only [impl_points.f]
  have no : ptRes p q n = ([], false) → Ev (fun k => impl_points.j0 k p q n true) (ptRes p q n) := by
    intro h
    refine ev_succ ?_
    simp only [impl_points.j0]
    exact ev_pos trivial (ev_some h.symm)
  refine ev_ite (fun h => no (pt_no p q n (by omega))) (fun h1 => ?_)
  refine ev_ite (fun h => no (pt_no p q n (by omega))) (fun h2 => ?_)
  refine ev_ite (fun h => no (pt_no p q n (by omega))) (fun h3 => ?_)
  refine ev_ite (fun h => no (pt_no p q n (by omega))) (fun h4 => ?_)
  obtain ⟨a, rfl⟩ := Int.eq_ofNat_of_zero_le (show 0 ≤ p by omega)
  obtain ⟨b, rfl⟩ := Int.eq_ofNat_of_zero_le (show 0 ≤ q by omega)
  refine ev_bind (impl_gcd_ev a b) ?_
  have hg : 0 < Nat.gcd a b := Nat.gcd_pos_of_pos_right _ (by omega)
  refine ev_ite (fun h => ?_) (fun h5 => ?_)
  · by_cases hn : 0 ≤ n
    · obtain ⟨m, rfl⟩ := Int.eq_ofNat_of_zero_le hn
      exact no (pt_gcd a b m (by omega))
    · exact no (pt_no _ _ _ (by omega))
  refine ev_ite (fun h => no (pt_no _ _ _ (by omega))) (fun h6 => ?_)
  by_cases h7 : n > b
  · rw [decide_eq_true h7]; exact no (pt_no _ _ _ (by omega))
  · rw [decide_eq_false h7]
    obtain ⟨m, rfl⟩ := Int.eq_ofNat_of_zero_le (show 0 ≤ n by omega)
    refine ev_succ ?_
    simp only [impl_points.j0]
    refine ev_neg (by simp) ?_
    rw [pt_yes a b m ⟨⟨by omega, by omega⟩, by omega, by omega, by omega⟩ (by omega), ← pt_sort a b m (by omega)]
    refine ev_eq (impl_points_l0 a b m ⟨by omega, by omega⟩ (by omega) (by omega) m 0 [] (by omega) (by simp)) ?_
    simp [ptM, List.range_eq_range']
theorem ptRes_length (p q n : Int) : (ptRes p q n).1.length ≤ 200 := by
  by_cases h : ptOk p q n = true
  · obtain ⟨a, b, m, rfl, rfl, rfl, hb, hg⟩ := ptOk_nat h
    rw [pt_yes a b m hb hg]; simp only; rw [ptL_length a b m (by omega)]; omega
  · unfold ptRes; rw [if_neg h]; simp


theorem impl_PointsOf_ev (p q n : Int) : Ev (fun k => impl_PointsOf.f k p q n) (ptRes p q n) := by
  simp only [impl_PointsOf.f]
  refine ev_bind (impl_points_ev p q n) (ev_some rfl)


theorem ptL_bound {p q n : Nat} {x : Int} (hx : x ∈ ptL p q n) : 0 ≤ x ∧ x < q := by
  simp only [ptL, ptN, List.mem_map, List.mem_flatMap, List.mem_range, ptRow] at hx
  obtain ⟨_, ⟨y, hy, _, _, rfl⟩, rfl⟩ := hx
  omega
def gapL (q : Int) : List Int → List Int
  | [] => []
  | [a] => [q - a]
  | a :: b :: l => (b - a) :: gapL q (b :: l)
theorem gapL_length (q : Int) : ∀ (l : List Int), (gapL q l).length = l.length
  | [] => rfl
  | [_] => rfl
  | _ :: b :: l => by simp only [gapL, List.length_cons]; rw [gapL_length q (b :: l)]; rfl
theorem gapL_next (q : Int) (l : List Int) (i : Nat) (h : i + 1 < l.length) : gapL q (l.drop i) = (rd l ((i + 1 : Nat) : Int) - rd l (i : Int)) :: gapL q (l.drop (i + 1)) := by
  rw [drop_rd (show i < l.length by omega), drop_rd h, gapL]
theorem gapL_last (q : Int) (l : List Int) (i : Nat) (h : i + 1 = l.length) : gapL q (l.drop i) = [q - rd l (i : Int)] := by
  rw [drop_rd (show i < l.length by omega), List.drop_eq_nil_of_le (by omega), gapL]
theorem spec_GapsOf_l0 (q : Nat) (hq : q ≤ 200) (l : List Int) (hl : l.length ≤ 200) (hb : ∀ x ∈ l, 0 ≤ x ∧ x < (q : Int)) (d : Nat) : ∀ (i : Nat) (acc : List Int), i + d = l.length → acc.length ≤ i →
    Ev (fun k => spec_GapsOf.l0 k (q : Int) l true acc (i : Int)) (acc ++ gapL q (l.drop i), true) := by
  induction d with
  | zero =>
    intro i acc hi ha
    refine ev_succ ?_
    simp only [spec_GapsOf.l0]
    refine ev_neg (by omega) (ev_succ ?_)
    simp only [spec_GapsOf.j1]
    exact ev_neg (by simp) (ev_some (by rw [List.drop_eq_nil_of_le (by omega)]; simp [gapL]))
  | succ d ih =>
    intro i acc hi ha
    refine ev_succ ?_
    simp only [spec_GapsOf.l0]
    refine ev_pos (by omega) (ev_succ ?_)
    simp only [spec_GapsOf.j1]
    have h1 := hb _ (rd_mem (l := l) (i := i) (by omega))
    refine ev_pos trivial ?_
    rw [wr1 (by omega) (by omega)]
    by_cases h : i + 1 < l.length
    · have h2 := hb _ (rd_mem (l := l) (i := i + 1) (by omega))
      rw [gapL_next _ _ _ h, show ((i : Int) + 1) = ((i + 1 : Nat) : Int) by omega]
      refine ev_pos (by omega) (ev_pos (by omega) (ev_pos (by omega) (ev_pos (by omega) (ev_pos (by omega) ?_))))
      rw [wr (show -9223372036854775808 ≤ rd l ((i + 1 : Nat) : Int) - rd l (i : Int) by omega) (by omega)]
      exact ev_eq (ih (i + 1) _ (by omega) (by simp; omega)) (by simp)
    · rw [gapL_last _ _ _ (by omega), show ((i : Int) + 1) = ((i + 1 : Nat) : Int) by omega]
      refine ev_neg (by omega) (ev_pos (by omega) (ev_pos (by omega) (ev_pos (by omega) ?_)))
      rw [wr (show -9223372036854775808 ≤ (q : Int) - rd l (i : Int) by omega) (by omega)]
      exact ev_eq (ih (i + 1) _ (by omega) (by simp; omega)) (by rw [List.drop_eq_nil_of_le (by omega)]; simp [gapL])
theorem impl_GapsOf_l0 (q : Nat) (hq : q ≤ 200) (l : List Int) (hl : l.length ≤ 200) (hb : ∀ x ∈ l, 0 ≤ x ∧ x < (q : Int)) (is : Bool) (d : Nat) : ∀ (i : Nat) (acc : List Int), i + d = l.length → acc.length ≤ i →
    Ev (fun k => impl_GapsOf.l0 k (q : Int) l is acc l (l.length : Int) (i : Int)) (acc ++ gapL q (l.drop i), is) := by
  induction d with
  | zero =>
    intro i acc hi ha
    refine ev_succ ?_
    simp only [impl_GapsOf.l0]
    exact ev_neg (by omega) (ev_some (by rw [List.drop_eq_nil_of_le (by omega)]; simp [gapL]))
  | succ d ih =>
    intro i acc hi ha
    refine ev_succ ?_
    simp only [impl_GapsOf.l0]
    have h1 := hb _ (rd_mem (l := l) (i := i) (by omega))
    refine ev_pos (by omega) (ev_pos (by omega) (ev_pos (by omega) ?_))
    rw [wr1 (by omega) (by omega)]
    by_cases h : i + 1 < l.length
    · have h2 := hb _ (rd_mem (l := l) (i := i + 1) (by omega))
      rw [gapL_next _ _ _ h, show ((i : Int) + 1) = ((i + 1 : Nat) : Int) by omega]
      refine ev_pos (by omega) (ev_pos (by omega) (ev_pos (by omega) ?_))
      rw [wr (show -9223372036854775808 ≤ rd l ((i + 1 : Nat) : Int) - rd l (i : Int) by omega) (by omega)]
      exact ev_eq (ih (i + 1) _ (by omega) (by simp; omega)) (by simp)
    · rw [gapL_last _ _ _ (by omega), show ((i : Int) + 1) = ((i + 1 : Nat) : Int) by omega]
      refine ev_neg (by omega) (ev_pos (by omega) ?_)
      rw [wr (show -9223372036854775808 ≤ (q : Int) - rd l (i : Int) by omega) (by omega)]
      exact ev_eq (ih (i + 1) _ (by omega) (by simp; omega)) (by rw [List.drop_eq_nil_of_le (by omega)]; simp [gapL])
def gapRes (p q n : Int) : List Int × Bool := (gapL q (ptRes p q n).1, (ptRes p q n).2)
theorem gap_nil (p q n : Int) (h : ¬ ptOk p q n = true) : ptRes p q n = ([], false) := by unfold ptRes; rw [if_neg h]
theorem spec_GapsOf_ev (p q n : Int) : Ev (fun k => spec_GapsOf.f k p q n) (gapRes p q n) := by
  simp only [spec_GapsOf.f]
  refine ev_bind (spec_PointsOf_ev p q n) ?_
  by_cases h : ptOk p q n = true
  · obtain ⟨a, b, m, rfl, rfl, rfl, hb, hg⟩ := ptOk_nat h
    have hl := ptRes_length a b m
    unfold gapRes
    rw [pt_yes a b m hb hg] at hl ⊢
    exact ev_eq (spec_GapsOf_l0 b (by omega) _ hl (fun x hx => ptL_bound hx) _ 0 [] (Nat.zero_add _) (by simp)) (by simp)
  · unfold gapRes
    rw [gap_nil p q n h]
    refine ev_succ ?_
    simp only [spec_GapsOf.l0]
    refine ev_neg (by simp) (ev_succ ?_)
    simp only [spec_GapsOf.j1]
    exact ev_neg (by simp) (ev_some (by simp [gapL]))
theorem impl_GapsOf_ev (p q n : Int) : Ev (fun k => impl_GapsOf.f k p q n) (gapRes p q n) := by
  simp only [impl_GapsOf.f]
  refine ev_bind (impl_points_ev p q n) ?_
  by_cases h : ptOk p q n = true
  · obtain ⟨a, b, m, rfl, rfl, rfl, hb, hg⟩ := ptOk_nat h
    have hl := ptRes_length a b m
    unfold gapRes
    rw [pt_yes a b m hb hg] at hl ⊢
    exact ev_eq (impl_GapsOf_l0 b (by omega) _ hl (fun x hx => ptL_bound hx) true _ 0 [] (Nat.zero_add _) (by simp)) (by simp)
  · unfold gapRes
    rw [gap_nil p q n h]
    refine ev_succ ?_
    simp only [impl_GapsOf.l0]
    exact ev_neg (by simp) (ev_some (by simp [gapL]))
theorem gapRes_length (p q n : Int) : (gapRes p q n).1.length ≤ 200 := by
  have := ptRes_length p q n
  unfold gapRes
  rw [gapL_length]; exact this


theorem pt_inj {p q n i j : Nat} (hg : Nat.gcd p q = 1) (hn : n ≤ q) (hi : i < n) (hj : j < n) (h : ptF p q i = ptF p q j) : i = j := by
  have key : ∀ a b : Nat, a < n → b < n → a ≤ b → ptF p q a = ptF p q b → a = b := by
    intro a b ha hb hab he
    have h1 : (b * p - a * p) % q = 0 := Nat.sub_mod_eq_zero_of_mod_eq he.symm
    rw [← Nat.mul_sub_right_distrib] at h1
    have h2 : q ∣ (b - a) * p := Nat.dvd_of_mod_eq_zero h1
    have h3 : q ∣ (b - a) := Nat.Coprime.dvd_of_dvd_mul_right (by unfold Nat.Coprime; rw [Nat.gcd_comm]; exact hg) h2
    by_cases h5 : b - a = 0
    · omega
    · have := Nat.le_of_dvd (by omega) h3
      omega
  rcases Nat.le_total i j with h1 | h1
  · exact key i j hi hj h1 h
  · exact (key j i hj hi h1 h.symm).symm
theorem ptM_mem {p q n : Nat} {x : Int} : x ∈ ptM p q n ↔ ∃ i, i < n ∧ x = (ptF p q i : Nat) := by
  simp only [ptM, List.mem_map, List.mem_range]
  exact ⟨fun ⟨i, h, e⟩ => ⟨i, h, e.symm⟩, fun ⟨i, h, e⟩ => ⟨i, h, e.symm⟩⟩
theorem ptL_perm (p q n : Nat) (hq : 0 < q) : (ptL p q n).Perm (ptM p q n) := by
  rw [← pt_sort p q n hq]; exact List.mergeSort_perm _ _
theorem ptL_mem {p q n : Nat} (hq : 0 < q) {x : Int} : x ∈ ptL p q n ↔ ∃ i, i < n ∧ x = (ptF p q i : Nat) := by
  rw [(ptL_perm p q n hq).mem_iff]; exact ptM_mem
theorem ptM_nodup {p q n : Nat} (hg : Nat.gcd p q = 1) (hn : n ≤ q) : (ptM p q n).Nodup := by
  unfold ptM
  rw [List.nodup_iff_pairwise_ne, List.pairwise_map, List.pairwise_iff_getElem]
  intro i j hi hj hij e
  simp only [List.length_range] at hi hj
  simp only [List.getElem_range] at e
  have := pt_inj hg hn hi hj (by omega)
  omega
theorem ptL_strict {p q n : Nat} (hg : Nat.gcd p q = 1) (hq : 0 < q) (hn : n ≤ q) : (ptL p q n).Pairwise (fun a b => a < b) := by
  have h1 : (ptL p q n).Pairwise (fun a b => a ≤ b) := by
    unfold ptL
    rw [List.pairwise_map]
    exact (ptN_sorted p q n).imp (fun h => by omega)
  have h2 : (ptL p q n).Nodup := (ptL_perm p q n hq).nodup_iff.2 (ptM_nodup hg hn)
  rw [List.nodup_iff_pairwise_ne] at h2
  exact (h1.and h2).imp (fun h => by omega)
def ptD (q a x : Nat) : Nat := if a ≤ x then x - a else x + q - a
theorem tmod_round (z q : Int) (hq : 0 < q) : Int.tmod (Int.tmod z q + q) q = z % q := by
  have h1 : -q < Int.tmod z q := Int.lt_tmod_of_pos z hq
  rw [Int.tmod_eq_emod_of_nonneg (by omega), Int.add_emod_right]
  have h2 := Int.tmod_add_tdiv_mul z q
  have h3 : Int.tmod z q = z - Int.tdiv z q * q := by omega
  rw [h3, Int.sub_mul_emod_self_right]
theorem ptD_eq (p q i k : Nat) (hq : 0 < q) : Int.tmod (Int.tmod (((k * p : Nat) : Int) - ((i * p : Nat) : Int)) (q : Int) + (q : Int)) (q : Int) = ((ptD q (ptF p q i) (ptF p q k) : Nat) : Int) := by
  rw [tmod_round _ _ (by omega), Int.sub_emod]
  have h1 : (((k * p : Nat) : Int) % (q : Int)) = ((ptF p q k : Nat) : Int) := by unfold ptF; omega
  have h2 : (((i * p : Nat) : Int) % (q : Int)) = ((ptF p q i : Nat) : Int) := by unfold ptF; omega
  rw [h1, h2]
  have h3 : ptF p q k < q := Nat.mod_lt _ hq
  have h4 : ptF p q i < q := Nat.mod_lt _ hq
  unfold ptD
  split
  · rw [Int.emod_eq_of_lt (by omega) (by omega)]; omega
  · rw [← Int.add_emod_right, Int.emod_eq_of_lt (by omega) (by omega)]; omega
def isNb (p q n i j : Nat) : Prop := j < n ∧ ∀ k, k < n → k ≠ i → j ≠ i ∧ ptD q (ptF p q i) (ptF p q j) ≤ ptD q (ptF p q i) (ptF p q k)
theorem ptD_inj {q a x y : Nat} (ha : a < q) (hx : x < q) (hy : y < q) (h : ptD q a x = ptD q a y) : x = y := by
  unfold ptD at h
  split at h <;> split at h <;> omega
theorem isNb_uniq {p q n i j j' : Nat} (hg : Nat.gcd p q = 1) (hq : 0 < q) (hn : n ≤ q) (hi : i < n) (h : isNb p q n i j) (h' : isNb p q n i j') : j = j' := by
  by_cases h1 : n = 1
  · have := h.1; have := h'.1; omega
  · have hf : ∀ x, ptF p q x < q := fun x => Nat.mod_lt _ hq
    obtain ⟨k, hk, hki⟩ : ∃ k, k < n ∧ k ≠ i := by
      by_cases h2 : i = 0
      · exact ⟨1, by omega, by omega⟩
      · exact ⟨0, by omega, by omega⟩
    have a1 := (h.2 k hk hki).1
    have a2 := (h'.2 k hk hki).1
    have b1 := (h.2 j' h'.1 a2).2
    have b2 := (h'.2 j h.1 a1).2
    exact pt_inj hg hn h.1 h'.1 (ptD_inj (hf i) (hf j) (hf j') (by omega))
theorem spec_NeighbourOf_l0 (p q n i j : Nat) (hq : 0 < q ∧ q ≤ 200) (hp : p < q) (hg : Nat.gcd p q = 1) (hn : n ≤ q) (hi : i < n) (hj : isNb p q n i j) (d : Nat) : ∀ (k best least : Nat), k + d = n → best < n →
    ((best = i ∧ least = q) ∨ (best ≠ i ∧ least = ptD q (ptF p q i) (ptF p q best))) → (∀ k', k' < k → k' ≠ i → least ≤ ptD q (ptF p q i) (ptF p q k')) →
    Ev (fun m => spec_NeighbourOf.l0 m (p : Int) (q : Int) (n : Int) (i : Int) (best : Int) (least : Int) (k : Int)) ((j : Int), true) := by
  have hf : ∀ x, ptF p q x < q := fun x => Nat.mod_lt _ hq.1
  have hD : ∀ x, ptD q (ptF p q i) (ptF p q x) < q := by
    intro x; have := hf x; have := hf i; unfold ptD; split <;> omega
  induction d with
  | zero =>
    intro k best least hk hb hs hl
    refine ev_succ ?_
    simp only [spec_NeighbourOf.l0]
    refine ev_neg (by omega) (ev_some ?_)
    have : isNb p q n i best := by
      refine ⟨hb, fun k' hk' hki => ?_⟩
      have h1 := hl k' (by omega) hki
      rcases hs with ⟨_, h2⟩ | ⟨h2, h3⟩
      · have := hD k'; omega
      · exact ⟨h2, by omega⟩
    rw [isNb_uniq hg hq.1 hn hi this hj]
  | succ d ih =>
    intro k best least hk hb hs hl
    refine ev_succ ?_
    simp only [spec_NeighbourOf.l0]
    rw [pt_mul hq.2 hp (show k ≤ 200 by omega), pt_mul hq.2 hp (show i ≤ 200 by omega)]
    have m1 : k * p ≤ 200 * 200 := Nat.mul_le_mul (by omega) (by omega)
    have m2 : i * p ≤ 200 * 200 := Nat.mul_le_mul (by omega) (by omega)
    rw [wr (show -9223372036854775808 ≤ ((k * p : Nat) : Int) - ((i * p : Nat) : Int) by omega) (by omega)]
    have t1 : -(q : Int) < Int.tmod (((k * p : Nat) : Int) - ((i * p : Nat) : Int)) (q : Int) := Int.lt_tmod_of_pos _ (by omega)
    have t2 : Int.tmod (((k * p : Nat) : Int) - ((i * p : Nat) : Int)) (q : Int) < (q : Int) := Int.tmod_lt_of_pos _ (by omega)
    rw [wr (show -9223372036854775808 ≤ Int.tmod (((k * p : Nat) : Int) - ((i * p : Nat) : Int)) (q : Int) + (q : Int) by omega) (by omega)]
    rw [ptD_eq p q i k hq.1, wr1 (show (0 : Int) ≤ (k : Int) by omega) (by omega), show ((k : Int) + 1) = ((k + 1 : Nat) : Int) by omega]
    refine ev_pos (by omega) (ev_neg (by omega) ?_)
    have hz : ptD q (ptF p q i) (ptF p q k) = 0 ↔ k = i := by
      constructor
      · intro h
        have : ptD q (ptF p q i) (ptF p q i) = 0 := by unfold ptD; simp
        exact pt_inj hg hn (by omega) hi (ptD_inj (hf i) (hf k) (hf i) (by omega))
      · rintro rfl; unfold ptD; simp
    by_cases h1 : k = i
    · refine ev_neg (by omega) ?_
      refine ih (k + 1) best least (by omega) hb hs (fun k' hk' hki => hl k' (by omega) hki)
    · refine ev_pos (by omega) ?_
      by_cases h2 : ptD q (ptF p q i) (ptF p q k) < least
      · refine ev_pos (by omega) ?_
        refine ih (k + 1) k (ptD q (ptF p q i) (ptF p q k)) (by omega) (by omega) (.inr ⟨h1, rfl⟩) (fun k' hk' hki => ?_)
        by_cases h3 : k' = k
        · rw [h3]; omega
        · have := hl k' (by omega) hki; omega
      · refine ev_neg (by omega) ?_
        refine ih (k + 1) best least (by omega) hb hs (fun k' hk' hki => ?_)
        by_cases h3 : k' = k
        · rw [h3]; omega
        · exact hl k' (by omega) hki
theorem slices_Index_l0 (l : List Int) (x : Int) (hl : l.length ≤ 4611686018427387904) (d : Nat) : ∀ (i : Nat), i + d = l.length → x ∈ l.drop i → ∃ t : Nat, t < l.length ∧ rd l (t : Int) = x ∧
    Ev (fun k => slices_Index_int_int.l0 k l x (l.length : Int) (i : Int)) ((t : Nat) : Int) := by
  induction d with
  | zero => intro i hi hx; rw [List.drop_eq_nil_of_le (by omega)] at hx; simp at hx
  | succ d ih =>
    intro i hi hx
    rw [drop_rd (show i < l.length by omega)] at hx
    by_cases h : x = rd l (i : Int)
    · refine ⟨i, by omega, h.symm, ev_succ ?_⟩
      simp only [slices_Index_int_int.l0]
      exact ev_pos (by omega) (ev_pos (by omega) (ev_pos (by omega) (ev_pos h (ev_some rfl))))
    · obtain ⟨t, h1, h2, h3⟩ := ih (i + 1) (by omega) (by rcases List.mem_cons.1 hx with e | e; exact absurd e h; exact e)
      refine ⟨t, h1, h2, ev_succ ?_⟩
      simp only [slices_Index_int_int.l0]
      rw [wr1 (by omega) (by omega), show ((i : Int) + 1) = ((i + 1 : Nat) : Int) by omega]
      exact ev_pos (by omega) (ev_pos (by omega) (ev_pos (by omega) (ev_neg h h3)))
theorem impl_NeighbourOf_l0 (p q n j : Nat) (hq : 0 < q ∧ q ≤ 200) (hp : p < q) (hg : Nat.gcd p q = 1) (hn : n ≤ q) (hj : j < n) (d : Nat) : ∀ (k : Nat), k + d = j →
    Ev (fun m => impl_NeighbourOf.l0 m (p : Int) (q : Int) ((ptF p q j : Nat) : Int) (n : Int) (k : Int)) ((j : Int), true) := by
  induction d with
  | zero =>
    intro k hk
    obtain rfl : k = j := by omega
    refine ev_succ ?_
    simp only [impl_NeighbourOf.l0]
    rw [pt_mul hq.2 hp (show k ≤ 200 by omega), tmod_nat]
    exact ev_pos (by omega) (ev_neg (by omega) (ev_pos rfl (ev_some rfl)))
  | succ d ih =>
    intro k hk
    refine ev_succ ?_
    simp only [impl_NeighbourOf.l0]
    rw [pt_mul hq.2 hp (show k ≤ 200 by omega), tmod_nat, wr1 (by omega) (by omega), show ((k : Int) + 1) = ((k + 1 : Nat) : Int) by omega]
    refine ev_pos (by omega) (ev_neg (by omega) (ev_neg (fun e => ?_) (ih (k + 1) (by omega))))
    have : k = j := pt_inj hg hn (by omega) hj (by unfold ptF at e ⊢; omega)
    omega
theorem pt_next (p q n i t : Nat) (hq : 0 < q ∧ q ≤ 200) (hg : Nat.gcd p q = 1) (hn : n ≤ q) (hi : i < n) (ht : t < n) (he : rd (ptL p q n) (t : Int) = (ptF p q i : Nat)) :
    ∃ j, isNb p q n i j ∧ rd (ptL p q n) (((t + 1) % n : Nat) : Int) = (ptF p q j : Nat) := by
  have hlen := ptL_length p q n hq.1
  have hst := ptL_strict hg hq.1 hn
  have hf : ∀ x, ptF p q x < q := fun x => Nat.mod_lt _ hq.1
  have hs : (t + 1) % n < n := Nat.mod_lt _ (by omega)
  obtain ⟨j, hj, hje⟩ := (ptL_mem hq.1).1 (rd_mem (l := ptL p q n) (i := (t + 1) % n) (by omega))
  refine ⟨j, ⟨hj, fun k hk hki => ?_⟩, hje⟩
  obtain ⟨s, hs1, hs2⟩ := List.getElem_of_mem ((ptL_mem (n := n) hq.1).2 ⟨k, hk, rfl⟩)
  have hmono : ∀ a b, a < b → b < n → rd (ptL p q n) (a : Int) < rd (ptL p q n) (b : Int) := by
    intro a b hab hb
    rw [rd_get (by omega), rd_get (by omega)]
    exact (List.pairwise_iff_getElem.1 hst) a b (by omega) (by omega) hab
  have hs3 : rd (ptL p q n) (s : Int) = (ptF p q k : Nat) := by rw [rd_get hs1, hs2]
  rw [hlen] at hs1
  have hne : s ≠ t := by
    rintro rfl
    rw [he] at hs3
    exact hki (pt_inj hg hn hk hi (by omega))
  have f1 := hf i
  have f2 := hf j
  have f3 := hf k
  by_cases h1 : t + 1 < n
  · rw [Nat.mod_eq_of_lt h1] at hje
    have g1 := hmono t (t + 1) (by omega) h1
    refine ⟨fun e => ?_, ?_⟩
    · subst e; omega
    · unfold ptD
      rw [if_pos (by omega)]
      by_cases h2 : s < t
      · have := hmono s t h2 ht
        rw [if_neg (by omega)]; omega
      · have : s = t + 1 ∨ t + 1 < s := by omega
        rcases this with e | e
        · subst e; rw [if_pos (by omega)]; omega
        · have := hmono (t + 1) s e hs1
          rw [if_pos (by omega)]; omega
  · have h0 : t + 1 = n := by omega
    rw [h0, Nat.mod_self] at hje
    have g1 := hmono s t (by omega) ht
    have g2 : rd (ptL p q n) ((0 : Nat) : Int) ≤ rd (ptL p q n) (s : Int) := by
      by_cases e : s = 0
      · rw [e]; omega
      · have := hmono 0 s (by omega) hs1; omega
    refine ⟨fun e => ?_, ?_⟩
    · subst e; omega
    · unfold ptD
      rw [if_neg (by omega), if_neg (by omega)]; omega
def nbOk (p q n i : Int) : Prop := ptOk p q n = true ∧ 0 ≤ i ∧ i < n
theorem spec_NeighbourOf_no (p q n i : Int) (h : ¬ nbOk p q n i) : Ev (fun k => spec_NeighbourOf.f k p q n i) (0, false) := by
  simp only [spec_NeighbourOf.f]
  refine ev_bind (spec_l25Fine_ev p q n) ?_
  have no : Ev (fun k => spec_NeighbourOf.j0 k p q n i true) (0, false) := by
    refine ev_succ ?_
    simp only [spec_NeighbourOf.j0]
    exact ev_pos trivial (ev_some rfl)
  unfold nbOk at h
  refine ev_ite (fun h1 => ev_ite (fun _ => no) (fun h2 => ?_)) (fun _ => no)
  have h4 : i ≥ n := Int.not_lt.1 (fun h5 => h ⟨h1, by omega, h5⟩)
  rw [decide_eq_true h4]; exact no
theorem impl_NeighbourOf_no (p q n i : Int) (h : ¬ nbOk p q n i) : Ev (fun k => impl_NeighbourOf.f k p q n i) (0, false) := by
  simp only [impl_NeighbourOf.f]
  refine ev_bind (impl_points_ev p q n) ?_
  have no : ∀ l, Ev (fun k => impl_NeighbourOf.j0 k p q n i l true) (0, false) := by
    intro l
    refine ev_succ ?_
    simp only [impl_NeighbourOf.j0]
    exact ev_pos trivial (ev_some rfl)
  unfold nbOk at h
  refine ev_ite (fun h1 => ev_ite (fun _ => no _) (fun h2 => ?_)) (fun _ => no _)
  have h3 : ptOk p q n = true := by
    unfold ptRes at h1
    split at h1
    · assumption
    · cases h1
  have h4 : i ≥ n := Int.not_lt.1 (fun h5 => h ⟨h3, by omega, h5⟩)
  rw [decide_eq_true h4]; exact no _
theorem NeighbourOf_yes (p q n i : Int) (h : nbOk p q n i) : ∃ r, Ev (fun k => spec_NeighbourOf.f k p q n i) r ∧ Ev (fun k => impl_NeighbourOf.f k p q n i) r := by
  obtain ⟨h1, h2, h3⟩ := h
  obtain ⟨a, b, m, rfl, rfl, rfl, hb, hg⟩ := ptOk_nat h1
  obtain ⟨c, rfl⟩ := Int.eq_ofNat_of_zero_le h2
  have hq : 0 < b ∧ b ≤ 200 := ⟨by omega, by omega⟩
  have hlen := ptL_length a b m hq.1
  have hf : ∀ x, ptF a b x < b := fun x => Nat.mod_lt _ hq.1
  obtain ⟨t, ht, he, hev⟩ := slices_Index_l0 (ptL a b m) ((ptF a b c : Nat) : Int) (by omega) _ 0 (Nat.zero_add _) (by rw [List.drop_zero]; exact (ptL_mem hq.1).2 ⟨c, by omega, rfl⟩)
  rw [hlen] at ht
  obtain ⟨j, hj, hje⟩ := pt_next a b m c t hq hg (by omega) (by omega) ht he
  refine ⟨((j : Int), true), ?_, ?_⟩
  · simp only [spec_NeighbourOf.f]
    refine ev_bind (spec_l25Fine_ev _ _ _) (ev_pos h1 (ev_neg (by omega) ?_))
    rw [decide_eq_false (show ¬ (c : Int) ≥ (m : Int) by omega)]
    refine ev_succ ?_
    simp only [spec_NeighbourOf.j0]
    refine ev_neg (by simp) ?_
    exact spec_NeighbourOf_l0 a b m c j hq (by omega) hg (by omega) (by omega) hj m 0 c b (by omega) (by omega) (.inl ⟨rfl, rfl⟩) (fun k' hk' _ => by omega)
  · simp only [impl_NeighbourOf.f]
    refine ev_bind (impl_points_ev _ _ _) ?_
    rw [pt_yes a b m hb hg]
    refine ev_pos rfl (ev_neg (by omega) ?_)
    rw [decide_eq_false (show ¬ (c : Int) ≥ (m : Int) by omega)]
    refine ev_succ ?_
    simp only [impl_NeighbourOf.j0]
    refine ev_neg (by simp) (ev_neg (by omega) ?_)
    rw [pt_mul hq.2 (show a < b by omega) (show c ≤ 200 by omega), tmod_nat]
    simp only [slices_Index_int_int.f]
    refine ev_bind hev (ev_neg (by omega) ?_)
    rw [wr1 (by omega) (by omega), show ((t : Int) + 1) = ((t + 1 : Nat) : Int) by omega, tmod_nat]
    have hs : (t + 1) % m < m := Nat.mod_lt _ (by omega)
    refine ev_pos (by omega) (ev_pos (by omega) ?_)
    rw [hje]
    exact impl_NeighbourOf_l0 a b m j hq (by omega) hg (by omega) hj.1 j 0 (by omega)


theorem gapL_bound (q : Int) : ∀ (l : List Int), (∀ x ∈ l, 0 ≤ x ∧ x < q) → l.Pairwise (fun a b => a < b) → ∀ g ∈ gapL q l, 1 ≤ g ∧ g ≤ q
  | [], _, _, g, hg => by simp [gapL] at hg
  | [a], hb, _, g, hg => by
    have := hb a (by simp)
    simp only [gapL, List.mem_singleton] at hg
    omega
  | a :: b :: l, hb, hs, g, hg => by
    simp only [gapL, List.mem_cons] at hg
    have h1 := hb a (by simp)
    have h2 := hb b (by simp)
    have h3 := (List.pairwise_cons.1 hs).1 b (by simp)
    rcases hg with rfl | hg
    · omega
    · exact gapL_bound q (b :: l) (fun x hx => hb x (List.mem_cons_of_mem _ hx)) (List.pairwise_cons.1 hs).2 g hg
theorem compact_mem (zs : List Int) (x : Int) : x ∈ Lib.compact zs ↔ x ∈ zs := by
  unfold Lib.compact Lib.compactUpTo
  simp only [List.mem_map, List.mem_filter, List.mem_range]
  constructor
  · rintro ⟨i, ⟨h1, _⟩, rfl⟩
    rw [getElem!_pos _ i (by simpa using h1)]
    simp
  · intro hx
    obtain ⟨i, hi, rfl⟩ := List.getElem_of_mem hx
    induction i with
    | zero => exact ⟨0, ⟨hi, by simp [Lib.keeps]⟩, by rw [getElem!_pos _ 0 (by simpa using hi)]; simp⟩
    | succ i ih =>
      by_cases h : zs[i] = zs[i + 1]
      · obtain ⟨j, hj, he⟩ := ih (by omega) (List.getElem_mem _)
        exact ⟨j, hj, by rw [he, h]⟩
      · refine ⟨i + 1, ⟨hi, Lib.keeps_pos ?_⟩, by rw [getElem!_pos _ (i + 1) (by simpa using hi)]; simp⟩
        rw [getElem!_pos _ (i + 1) (by simpa using hi), getElem!_pos _ (i + 1 - 1) (by simp; omega)]
        simpa using fun e => h e.symm
theorem compact_strict (zs : List Int) (hs : zs.Pairwise (fun a b => a ≤ b)) : (Lib.compact zs).Pairwise (fun a b => a < b) := by
  have hle : ∀ i j, i ≤ j → (hj : j < zs.length) → (hi : i < zs.length) → zs[i] ≤ zs[j] := by
    intro i j hij hj hi
    by_cases e : i = j
    · subst e; exact Int.le_refl _
    · exact (List.pairwise_iff_getElem.1 hs) i j hi hj (by omega)
  unfold Lib.compact Lib.compactUpTo
  rw [List.pairwise_map, List.pairwise_filter]
  refine (List.pairwise_iff_getElem.2 ?_)
  intro i j hi hj hij
  simp only [List.length_range] at hi hj
  simp only [List.getElem_range]
  intro _ hk
  rw [getElem!_pos _ i (by simpa using hi), getElem!_pos _ j (by simpa using hj)]
  simp only [List.getElem_toArray]
  simp only [Lib.keeps, decide_eq_true_eq] at hk
  have hk2 := hk.resolve_left (by omega)
  rw [getElem!_pos _ j (by simpa using hj), getElem!_pos _ (j - 1) (by simp; omega)] at hk2
  simp only [List.getElem_toArray] at hk2
  have h1 := hle i (j - 1) (by omega) (by omega) hi
  have h2 := hle (j - 1) j (by omega) hj (by omega)
  omega
def lenL (q : Nat) (l : List Int) : List Int := ((List.range' 1 q).map (fun x : Nat => (x : Int))).filter (fun x => decide (x ∈ l))
theorem lenL_strict (q : Nat) (l : List Int) : (lenL q l).Pairwise (fun a b => a < b) := by
  unfold lenL
  refine List.Pairwise.filter _ ?_
  rw [List.pairwise_map]
  exact (List.pairwise_lt_range' (s := 1) (n := q) (step := 1)).imp (fun h => by omega)
theorem lenL_eq (q : Nat) (l : List Int) (h : ∀ g ∈ l, 1 ≤ g ∧ g ≤ q) : Lib.compact (l.mergeSort fun x y => decide (x ≤ y)) = lenL q l := by
  have hs : (l.mergeSort fun x y => decide (x ≤ y)).Pairwise (fun a b => a ≤ b) :=
    (List.pairwise_mergeSort (le := fun x y : Int => decide (x ≤ y)) (fun a b c h h' => by simp at *; omega) (fun a b => by simp; omega) _).imp (fun h => by simpa using h)
  have h1 := compact_strict _ hs
  have h2 := lenL_strict q l
  refine List.Perm.eq_of_pairwise (le := fun a b : Int => a < b) (fun a b _ _ h h' => by omega) h1 h2 ?_
  refine (List.perm_ext_iff_of_nodup (h1.imp (fun h => by omega)) (h2.imp (fun h => by omega))).2 (fun x => ?_)
  rw [compact_mem, (List.mergeSort_perm _ _).mem_iff]
  unfold lenL
  simp only [List.mem_filter, List.mem_map, List.mem_range', decide_eq_true_eq]
  refine ⟨fun hx => ⟨⟨x.toNat, ⟨x.toNat - 1, ?_, ?_⟩, ?_⟩, hx⟩, fun hx => hx.2⟩ <;> have := h x hx <;> omega
theorem spec_l4Has_l0 (l : List Int) (x : Int) (hl : l.length ≤ 4611686018427387904) (d : Nat) : ∀ (i : Nat), i + d = l.length → Ev (fun k => spec_l4Has.l0 k l x (i : Int)) (decide (x ∈ l.drop i)) := by
  induction d with
  | zero =>
    intro i hi
    refine ev_succ ?_
    simp only [spec_l4Has.l0]
    exact ev_neg (by omega) (ev_some (by rw [List.drop_eq_nil_of_le (by omega)]; simp))
  | succ d ih =>
    intro i hi
    refine ev_succ ?_
    simp only [spec_l4Has.l0]
    rw [wr1 (by omega) (by omega), show ((i : Int) + 1) = ((i + 1 : Nat) : Int) by omega]
    refine ev_pos (by omega) (ev_pos (by omega) (ev_ite (fun h => ev_some ?_) (fun h => ev_eq (ih (i + 1) (by omega)) ?_)))
    · rw [drop_rd (show i < l.length by omega), h]; simp
    · rw [drop_rd (show i < l.length by omega)]
      have : x ≠ rd l (i : Int) := fun e => h e.symm
      simp [this]
theorem spec_l4Has_ev (l : List Int) (x : Int) (hl : l.length ≤ 4611686018427387904) : Ev (fun k => spec_l4Has.f k l x) (decide (x ∈ l)) := by
  simp only [spec_l4Has.f]
  exact ev_eq (spec_l4Has_l0 l x hl _ 0 (Nat.zero_add _)) (by simp)
theorem spec_GapLengths_l0 (q : Nat) (hq : q ≤ 200) (l : List Int) (hl : l.length ≤ 200) (d : Nat) : ∀ (x : Nat) (acc : List Int), x + d = q + 1 → acc.length ≤ x →
    Ev (fun k => spec_GapLengths.l0 k (q : Int) l true acc (x : Int)) (acc ++ ((List.range' x d).map (fun x : Nat => (x : Int))).filter (fun x => decide (x ∈ l)), true) := by
  induction d with
  | zero =>
    intro x acc hx ha
    refine ev_succ ?_
    simp only [spec_GapLengths.l0]
    refine ev_neg (by omega) (ev_succ ?_)
    simp only [spec_GapLengths.j1]
    exact ev_neg (by simp) (ev_some (by simp))
  | succ d ih =>
    intro x acc hx ha
    refine ev_succ ?_
    simp only [spec_GapLengths.l0]
    refine ev_pos (by omega) (ev_succ ?_)
    simp only [spec_GapLengths.j1]
    rw [wr1 (by omega) (by omega), show ((x : Int) + 1) = ((x + 1 : Nat) : Int) by omega]
    refine ev_pos trivial (ev_bind (spec_l4Has_ev l x (by omega)) ?_)
    by_cases h : (x : Int) ∈ l
    · rw [decide_eq_true h]
      refine ev_pos rfl (ev_pos (by omega) (ev_eq (ih (x + 1) (acc ++ [(x : Int)]) (by omega) (by simp; omega)) ?_))
      simp [List.range'_succ, List.filter_cons, h]
    · rw [decide_eq_false h]
      refine ev_neg (by simp) (ev_eq (ih (x + 1) acc (by omega) (by omega)) ?_)
      simp [List.range'_succ, List.filter_cons, h]
def gapLenRes (p q n : Int) : List Int × Bool := (lenL q.toNat (gapRes p q n).1, (gapRes p q n).2)
theorem lenL_nil (q : Nat) : lenL q [] = [] := by simp [lenL]
theorem gapRes_no (p q n : Int) (h : ¬ ptOk p q n = true) : gapRes p q n = ([], false) := by unfold gapRes; rw [gap_nil p q n h]; rfl
theorem spec_GapLengths_ev (p q n : Int) : Ev (fun k => spec_GapLengths.f k p q n) (gapLenRes p q n) := by
  simp only [spec_GapLengths.f]
  refine ev_bind (spec_GapsOf_ev p q n) ?_
  by_cases h : ptOk p q n = true
  · have hl := gapRes_length p q n
    have h2 : (gapRes p q n).2 = true := by unfold gapRes ptRes; rw [if_pos h]
    obtain ⟨a, b, m, rfl, rfl, rfl, hb, hg⟩ := ptOk_nat h
    unfold gapLenRes
    rw [h2]
    exact ev_eq (spec_GapLengths_l0 b (by omega) _ hl b 1 [] (by omega) (by simp)) (by simp [lenL])
  · unfold gapLenRes
    rw [gapRes_no p q n h]
    simp only [lenL_nil]
    refine ev_succ ?_
    simp only [spec_GapLengths.l0]
    have no : Ev (fun k => spec_GapLengths.j1 k q [] false [] 1 false) ([], false) := by
      refine ev_succ ?_
      simp only [spec_GapLengths.j1]
      exact ev_neg (by simp) (ev_some rfl)
    exact ev_ite (fun _ => no) (fun _ => no)
theorem impl_GapLengths_ev (p q n : Int) : Ev (fun k => impl_GapLengths.f k p q n) (gapLenRes p q n) := by
  simp only [impl_GapLengths.f]
  have hl := gapRes_length p q n
  refine ev_bind (impl_GapsOf_ev p q n) ?_
  simp only [slices_Sort_int_int.f, slices_Compact_int_int.f]
  refine ev_bind (ev_pos (by omega) (ev_some rfl)) (ev_bind (ev_pos (by simp; omega) (ev_some rfl)) (ev_some ?_))
  unfold gapLenRes
  by_cases h : ptOk p q n = true
  · obtain ⟨a, b, m, rfl, rfl, rfl, hb, hg⟩ := ptOk_nat h
    rw [lenL_eq b]
    · simp
    · intro g hgm
      unfold gapRes at hgm
      rw [pt_yes a b m hb hg] at hgm
      exact gapL_bound b _ (fun x hx => ptL_bound hx) (ptL_strict hg (by omega) (by omega)) g hgm
  · rw [gapRes_no p q n h]
    simp [lenL_nil, Lib.compact, Lib.compactUpTo]
theorem gapLenRes_length (p q n : Int) : (gapLenRes p q n).1.length ≤ 200 := by
  by_cases h : ptOk p q n = true
  · obtain ⟨a, b, m, rfl, rfl, rfl, hb, hg⟩ := ptOk_nat h
    unfold gapLenRes lenL
    refine Nat.le_trans (List.length_filter_le _ _) ?_
    simp; omega
  · unfold gapLenRes
    rw [gapRes_no p q n h]
    simp [lenL_nil]


theorem gap_nil' (p q n : Int) (h : ¬ ptOk p q n = true) : ptRes p q n = ([], false) := by unfold ptRes; rw [if_neg h]
def cutM (x : Int) : List Int → Nat
  | [] => 0
  | a :: l => if a ≤ x then cutM x l + 1 else 0
theorem cutM_le (x : Int) : ∀ (l : List Int), cutM x l ≤ l.length
  | [] => Nat.le_refl _
  | a :: l => by
    have := cutM_le x l
    unfold cutM; split <;> simp <;> omega
theorem cutM_iff (x : Int) : ∀ (l : List Int), l.Pairwise (fun a b => a ≤ b) → ∀ i, i < l.length → (rd l (i : Int) ≤ x ↔ i < cutM x l)
  | [], _, i, h => by simp at h
  | a :: l, hs, i, h => by
    have ih := cutM_iff x l (List.pairwise_cons.1 hs).2
    have ha := (List.pairwise_cons.1 hs).1
    unfold cutM
    by_cases hx : a ≤ x
    · rw [if_pos hx]
      cases i with
      | zero => simp [rd, hx]
      | succ i =>
        have := ih i (by simpa using h)
        rw [rd_nat] at this ⊢
        simp only [List.getD_cons_succ]
        omega
    · rw [if_neg hx]
      have : ¬ rd (a :: l) (i : Int) ≤ x := by
        have hm := rd_mem h
        rcases List.mem_cons.1 hm with e | e
        · omega
        · have := ha _ e; omega
      omega
theorem spec_CutWord_l0 (x : Int) (l : List Int) (hl : l.length ≤ 200) (h0 : 0 < l.length) (hs : l.Pairwise (fun a b => a ≤ b)) (d : Nat) : ∀ (i : Nat), i + d = l.length → i ≤ cutM x l - 1 →
    Ev (fun k => spec_CutWord.l0 k x l (i : Int)) (((cutM x l - 1 : Nat) : Int), true) := by
  have hc := cutM_le x l
  induction d with
  | zero =>
    intro i hi hm
    omega
  | succ d ih =>
    intro i hi hm
    refine ev_succ ?_
    simp only [spec_CutWord.l0]
    rw [wr1 (by omega) (by omega), show ((i : Int) + 1) = ((i + 1 : Nat) : Int) by omega]
    by_cases h : i + 1 < l.length
    · have hh := cutM_iff x l hs (i + 1) h
      refine ev_pos (by omega) (ev_pos (by omega) (ev_ite (fun h1 => ?_) (fun h1 => ev_some ?_)))
      · exact ih (i + 1) (by omega) (by omega)
      · rw [show cutM x l - 1 = i by omega]
    · refine ev_neg (by omega) (ev_some ?_)
      rw [show cutM x l - 1 = i by omega]
theorem impl_CutWord_l0 (x : Int) (l : List Int) (hl : l.length ≤ 200) (hs : l.Pairwise (fun a b => a ≤ b)) (d : Nat) : ∀ (i : Nat), i + d = l.length →
    Ev (fun k => impl_CutWord.l0 k x ((min i (cutM x l) - 1 : Nat) : Int) l (l.length : Int) (i : Int)) (((cutM x l - 1 : Nat) : Int), true) := by
  have hc := cutM_le x l
  induction d with
  | zero =>
    intro i hi
    refine ev_succ ?_
    simp only [impl_CutWord.l0]
    refine ev_neg (by omega) (ev_some ?_)
    rw [show min i (cutM x l) = cutM x l by omega]
  | succ d ih =>
    intro i hi
    refine ev_succ ?_
    simp only [impl_CutWord.l0]
    have hh := cutM_iff x l hs i (by omega)
    rw [wr1 (by omega) (by omega), show ((i : Int) + 1) = ((i + 1 : Nat) : Int) by omega]
    refine ev_pos (by omega) (ev_pos (by omega) (ev_pos (by omega) (ev_ite (fun h1 => ?_) (fun h1 => ?_))))
    · have := ih (i + 1) (by omega)
      rw [show min (i + 1) (cutM x l) - 1 = i by omega] at this
      exact this
    · have := ih (i + 1) (by omega)
      rw [show min (i + 1) (cutM x l) = min i (cutM x l) by omega] at this
      exact this
def cutRes (p q n x : Int) : Int × Bool := if ptOk p q n = true ∧ 0 ≤ x ∧ x ≤ q - 1 then (((cutM x (ptRes p q n).1 - 1 : Nat) : Int), true) else (0, false)
theorem ptL_sorted (p q n : Nat) : (ptL p q n).Pairwise (fun a b => a ≤ b) := by
  unfold ptL
  rw [List.pairwise_map]
  exact (ptN_sorted p q n).imp (fun h => by omega)
theorem spec_CutWord_ev (p q n x : Int) : Ev (fun k => spec_CutWord.f k p q n x) (cutRes p q n x) := by
  simp only [spec_CutWord.f, l1In_eq, Option.bind_some]
  refine ev_bind (spec_PointsOf_ev p q n) ?_
  have no : ∀ l, cutRes p q n x = (0, false) → Ev (fun k => spec_CutWord.j0 k x l true) (cutRes p q n x) := by
    intro l h
    refine ev_succ ?_
    simp only [spec_CutWord.j0]
    exact ev_pos trivial (ev_some h.symm)
  by_cases h : ptOk p q n = true
  · have hres : (ptRes p q n).2 = true := by unfold ptRes; rw [if_pos h]
    obtain ⟨a, b, m, rfl, rfl, rfl, hb, hg⟩ := ptOk_nat h
    refine ev_pos hres ?_
    rw [wr (show -9223372036854775808 ≤ (b : Int) - 1 by omega) (by omega)]
    have hl := ptRes_length a b m
    by_cases hx : 0 ≤ x ∧ x ≤ (b : Int) - 1
    · rw [decide_eq_true hx]
      refine ev_succ ?_
      simp only [spec_CutWord.j0]
      refine ev_neg (by simp) ?_
      unfold cutRes
      rw [if_pos ⟨h, hx⟩]
      rw [pt_yes a b m hb hg] at hl ⊢
      exact spec_CutWord_l0 x _ hl (by simp only; rw [ptL_length a b m (by omega)]; omega) (ptL_sorted a b m) _ 0 (Nat.zero_add _) (by omega)
    · rw [decide_eq_false hx]
      refine no _ ?_
      unfold cutRes
      rw [if_neg (fun e => hx e.2)]
  · rw [gap_nil' p q n h]
    refine ev_neg (by simp) (no _ ?_)
    unfold cutRes
    rw [if_neg (fun e => h e.1)]
theorem impl_CutWord_ev (p q n x : Int) : Ev (fun k => impl_CutWord.f k p q n x) (cutRes p q n x) := by
  simp only [impl_CutWord.f]
  refine ev_bind (impl_points_ev p q n) ?_
  have no : ∀ l, cutRes p q n x = (0, false) → Ev (fun k => impl_CutWord.j0 k x l true) (cutRes p q n x) := by
    intro l h
    refine ev_succ ?_
    simp only [impl_CutWord.j0]
    exact ev_pos trivial (ev_some h.symm)
  by_cases h : ptOk p q n = true
  · have hres : (ptRes p q n).2 = true := by unfold ptRes; rw [if_pos h]
    refine ev_pos hres (ev_ite (fun h1 => no _ ?_) (fun h1 => ?_))
    · unfold cutRes; rw [if_neg (by omega)]
    · by_cases h2 : x ≥ q
      · rw [decide_eq_true h2]
        refine no _ ?_
        unfold cutRes; rw [if_neg (by omega)]
      · rw [decide_eq_false h2]
        obtain ⟨a, b, m, rfl, rfl, rfl, hb, hg⟩ := ptOk_nat h
        have hl := ptRes_length a b m
        refine ev_succ ?_
        simp only [impl_CutWord.j0]
        refine ev_neg (by simp) ?_
        unfold cutRes
        rw [if_pos ⟨h, by omega⟩]
        rw [pt_yes a b m hb hg] at hl ⊢
        have := impl_CutWord_l0 x _ hl (ptL_sorted a b m) _ 0 (Nat.zero_add _)
        simpa using this
  · rw [gap_nil' p q n h]
    refine ev_neg (by simp) (no _ ?_)
    unfold cutRes
    rw [if_neg (fun e => h e.1)]


theorem u_add (p q x y : Nat) (hq : 0 < q) : (ptF p q x + ptF p q y < q ∧ ptF p q (x + y) = ptF p q x + ptF p q y) ∨ (q ≤ ptF p q x + ptF p q y ∧ ptF p q (x + y) + q = ptF p q x + ptF p q y) := by
  have h : ptF p q (x + y) = (ptF p q x + ptF p q y) % q := by unfold ptF; rw [Nat.add_mul, Nat.add_mod]
  have h1 : ptF p q x < q := Nat.mod_lt _ hq
  have h2 : ptF p q y < q := Nat.mod_lt _ hq
  by_cases hs : ptF p q x + ptF p q y < q
  · left; exact ⟨hs, by rw [h, Nat.mod_eq_of_lt hs]⟩
  · right
    refine ⟨by omega, ?_⟩
    rw [h, Nat.mod_eq_sub_mod (by omega), Nat.mod_eq_of_lt (by omega)]
    omega
theorem u_pos {p q m : Nat} (hg : Nat.gcd p q = 1) (h1 : 1 ≤ m) (h2 : m < q) : 0 < ptF p q m := by
  refine Nat.pos_of_ne_zero (fun e => ?_)
  have hd : q ∣ m * p := Nat.dvd_of_mod_eq_zero e
  have hc : Nat.Coprime q p := by rw [Nat.coprime_comm]; exact hg
  have := Nat.le_of_dvd h1 (hc.dvd_of_dvd_mul_right hd)
  omega
theorem u_lt {p q : Nat} (hq : 0 < q) (m : Nat) : ptF p q m < q := Nat.mod_lt _ hq
theorem d_up {p q i m : Nat} (hq : 0 < q) : ptD q (ptF p q i) (ptF p q (i + m)) = ptF p q m := by
  have h := u_add p q i m hq
  have h1 := u_lt (p := p) hq i
  have h2 := u_lt (p := p) hq m
  unfold ptD
  split <;> omega
theorem d_down {p q k m : Nat} (hq : 0 < q) (hm : 0 < ptF p q m) : ptD q (ptF p q (k + m)) (ptF p q k) = q - ptF p q m := by
  have h := u_add p q k m hq
  have h1 := u_lt (p := p) hq k
  have h2 := u_lt (p := p) hq m
  unfold ptD
  split <;> omega
theorem ex_min (f : Nat → Nat) : ∀ n, 2 ≤ n → ∃ a, 1 ≤ a ∧ a < n ∧ ∀ m, 1 ≤ m → m < n → f a ≤ f m
  | 0, h => by omega
  | 1, h => by omega
  | 2, _ => ⟨1, by omega, by omega, fun m h1 h2 => by rw [show m = 1 by omega]; exact Nat.le_refl _⟩
  | n + 3, _ => by
    obtain ⟨a, h1, h2, h3⟩ := ex_min f (n + 2) (by omega)
    by_cases h : f a ≤ f (n + 2)
    · refine ⟨a, h1, by omega, fun m hm1 hm2 => ?_⟩
      by_cases e : m = n + 2
      · rw [e]; exact h
      · exact h3 m hm1 (by omega)
    · refine ⟨n + 2, by omega, by omega, fun m hm1 hm2 => ?_⟩
      by_cases e : m = n + 2
      · rw [e]; exact Nat.le_refl _
      · have := h3 m hm1 (by omega); omega
/-- the three gaps: the nearest point behind each point lies at one of three distances, of which the third is the sum of the others -/
theorem three_gap (p q n : Nat) (hg : Nat.gcd p q = 1) (hq : 0 < q) (hn : n ≤ q) (h2 : 2 ≤ n) : ∃ al be : Nat, 1 ≤ al ∧ 1 ≤ be ∧ ∀ i, i < n → ∃ j, j < n ∧ j ≠ i ∧ (∀ k, k < n → k ≠ i → ptD q (ptF p q i) (ptF p q j) ≤ ptD q (ptF p q i) (ptF p q k)) ∧
    (ptD q (ptF p q i) (ptF p q j) = al ∨ ptD q (ptF p q i) (ptF p q j) = be ∨ ptD q (ptF p q i) (ptF p q j) = al + be) := by
  obtain ⟨a, a1, a2, a3⟩ := ex_min (fun m => ptF p q m) n h2
  obtain ⟨b, b1, b2, b3⟩ := ex_min (fun m => q - ptF p q m) n h2
  have up : ∀ m, 1 ≤ m → m < n → 0 < ptF p q m ∧ ptF p q m < q := fun m h1 h2 => ⟨u_pos hg h1 (by omega), u_lt hq m⟩
  have ua := up a a1 a2
  have ub := up b b1 b2
  -- a distance, by the indices
  have dist : ∀ i k, i < n → k < n → k ≠ i → (∃ m, 1 ≤ m ∧ k = i + m ∧ ptD q (ptF p q i) (ptF p q k) = ptF p q m) ∨ (∃ m, 1 ≤ m ∧ i = k + m ∧ ptD q (ptF p q i) (ptF p q k) = q - ptF p q m) := by
    intro i k hi hk hne
    by_cases h : i < k
    · left; exact ⟨k - i, by omega, by omega, by have := d_up (p := p) (i := i) (m := k - i) hq; rwa [show i + (k - i) = k by omega] at this⟩
    · right
      have hp := (up (i - k) (by omega) (by omega)).1
      exact ⟨i - k, by omega, by omega, by have := d_down (p := p) (k := k) (m := i - k) hq hp; rwa [show k + (i - k) = i by omega] at this⟩
  have hab : n ≤ a + b := by
    refine Nat.le_of_not_lt (fun hlt => ?_)
    have hs := u_add p q a b hq
    have h4 := up (a + b) (by omega) hlt
    have h5 := a3 (a + b) (by omega) hlt
    have h6 := b3 (a + b) (by omega) hlt
    omega
  refine ⟨ptF p q a, q - ptF p q b, by omega, by omega, fun i hi => ?_⟩
  by_cases c1 : i + a < n
  · have e : ptD q (ptF p q i) (ptF p q (i + a)) = ptF p q a := d_up hq
    refine ⟨i + a, c1, by omega, fun k hk hne => ?_, .inl e⟩
    rw [e]
    rcases dist i k hi hk hne with ⟨m, m1, m2, m3⟩ | ⟨m, m1, m2, m3⟩
    · rw [m3]; exact a3 m m1 (by omega)
    · rw [m3]
      refine Nat.le_of_not_lt (fun hlt => ?_)
      have hs := u_add p q m a hq
      have h4 := up (m + a) (by omega) (by omega)
      have h5 := a3 (m + a) (by omega) (by omega)
      have h6 := up m m1 (by omega)
      omega
  · by_cases c2 : b ≤ i
    · have e : ptD q (ptF p q i) (ptF p q (i - b)) = q - ptF p q b := by
        have := d_down (p := p) (k := i - b) (m := b) hq ub.1
        rwa [show i - b + b = i by omega] at this
      refine ⟨i - b, by omega, by omega, fun k hk hne => ?_, .inr (.inl e)⟩
      rw [e]
      rcases dist i k hi hk hne with ⟨m, m1, m2, m3⟩ | ⟨m, m1, m2, m3⟩
      · rw [m3]
        refine Nat.le_of_not_lt (fun hlt => ?_)
        have hs := u_add p q m b hq
        have h4 := up (m + b) (by omega) (by omega)
        have h5 := b3 (m + b) (by omega) (by omega)
        have h6 := up m m1 (by omega)
        omega
      · rw [m3]; exact b3 m m1 (by omega)
    · -- the middle
      have hne0 : a ≠ b := by
        intro hab2
        subst hab2
        by_cases hn2 : n = 2
        · omega
        · have h11 := a3 1 (by omega) (by omega)
          have h12 := b3 1 (by omega) (by omega)
          have h21 := a3 2 (by omega) (by omega)
          have h22 := b3 2 (by omega) (by omega)
          have h31 := up 1 (by omega) (by omega)
          have h32 := up 2 (by omega) (by omega)
          have hs := u_add p q 1 1 hq
          rw [show 1 + 1 = 2 from rfl] at hs
          omega
      have e : ptD q (ptF p q i) (ptF p q (i + a - b)) = ptF p q a + (q - ptF p q b) := by
        have h3 := a3 b b1 b2
        have h4 := b3 a a1 a2
        rcases Nat.lt_or_gt_of_ne hne0 with h | h
        · have hd := d_down (p := p) (k := i + a - b) (m := b - a) hq (up (b - a) (by omega) (by omega)).1
          rw [show i + a - b + (b - a) = i by omega] at hd
          have hs := u_add p q (b - a) a hq
          rw [show b - a + a = b by omega] at hs
          have h5 := up (b - a) (by omega) (by omega)
          omega
        · have hd := d_up (p := p) (i := i) (m := a - b) hq
          rw [show i + (a - b) = i + a - b by omega] at hd
          have hs := u_add p q (a - b) b hq
          rw [show a - b + b = a by omega] at hs
          have h5 := up (a - b) (by omega) (by omega)
          omega
      refine ⟨i + a - b, by omega, by omega, fun k hk hne => ?_, .inr (.inr e)⟩
      rw [e]
      refine Nat.le_of_not_lt (fun hlt => ?_)
      rcases dist i k hi hk hne with ⟨m, m1, m2, m3⟩ | ⟨m, m1, m2, m3⟩
      · rw [m3] at hlt
        have hma : m < a := by omega
        have h3 := a3 m m1 (by omega)
        have hs := u_add p q (a - m) m hq
        rw [show a - m + m = a by omega] at hs
        have h5 := up (a - m) (by omega) (by omega)
        have h6 := b3 (a - m) (by omega) (by omega)
        omega
      · rw [m3] at hlt
        have hmb : m < b := by omega
        have h3 := b3 m m1 (by omega)
        have h6 := up m m1 (by omega)
        have hs := u_add p q (b - m) m hq
        rw [show b - m + m = b by omega] at hs
        have h5 := up (b - m) (by omega) (by omega)
        have h7 := a3 (b - m) (by omega) (by omega)
        omega


theorem gapL_mem (q : Int) (l : List Int) (d : Nat) : ∀ (i : Nat) (g : Int), i + d = l.length → g ∈ gapL q (l.drop i) → ∃ t : Nat, t < l.length ∧ ((t + 1 < l.length ∧ g = rd l ((t + 1 : Nat) : Int) - rd l (t : Int)) ∨ (t + 1 = l.length ∧ g = q - rd l (t : Int))) := by
  induction d with
  | zero => intro i g hi hg; rw [List.drop_of_length_le (by omega)] at hg; simp [gapL] at hg
  | succ d ih =>
    intro i g hi hg
    by_cases h : i + 1 < l.length
    · rw [gapL_next q l i h] at hg
      rcases List.mem_cons.1 hg with e | e
      · exact ⟨i, by omega, .inl ⟨h, e⟩⟩
      · exact ih (i + 1) g (by omega) e
    · rw [gapL_last q l i (by omega)] at hg
      simp only [List.mem_cons, List.not_mem_nil, or_false] at hg
      exact ⟨i, by omega, .inr ⟨by omega, hg⟩⟩
theorem ptL_first (p q n : Nat) (hq : 0 < q) (hg : Nat.gcd p q = 1) (hn : n ≤ q) (h1 : 1 ≤ n) : rd (ptL p q n) ((0 : Nat) : Int) = 0 := by
  have hlen := ptL_length p q n hq
  have hst := ptL_strict hg hq hn
  have h0 : ((ptF p q 0 : Nat) : Int) = 0 := by simp [ptF]
  obtain ⟨s, hs1, hs2⟩ := List.getElem_of_mem ((ptL_mem (p := p) (n := n) hq).2 ⟨0, by omega, rfl⟩)
  have hb := ptL_bound (rd_mem (l := ptL p q n) (i := 0) (by omega))
  by_cases e : s = 0
  · subst e; rw [rd_get (by omega), hs2]; exact h0
  · have := (List.pairwise_iff_getElem.1 hst) 0 s (by omega) hs1 (by omega)
    rw [rd_get (by omega)] at hb ⊢
    omega
theorem gap_three (p q n : Nat) (hq : 0 < q ∧ q ≤ 200) (hg : Nat.gcd p q = 1) (hn : n ≤ q) (h1 : 1 ≤ n) : ∃ al be : Int, 1 ≤ al ∧ 1 ≤ be ∧ ∀ g ∈ gapL (q : Int) (ptL p q n), g = al ∨ g = be ∨ g = al + be := by
  have hlen := ptL_length p q n hq.1
  have hfirst := ptL_first p q n hq.1 hg hn h1
  by_cases h2 : n = 1
  · refine ⟨q, 1, by omega, by omega, fun g hgm => .inl ?_⟩
    obtain ⟨t, ht, h | h⟩ := gapL_mem q _ _ 0 g (Nat.zero_add _) (by rw [List.drop_zero]; exact hgm)
    · omega
    · obtain rfl : t = 0 := by omega
      rw [hfirst] at h; omega
  · obtain ⟨al, be, ha, hb, hth⟩ := three_gap p q n hg hq.1 hn (by omega)
    refine ⟨al, be, by omega, by omega, fun g hgm => ?_⟩
    obtain ⟨t, ht, h⟩ := gapL_mem q _ _ 0 g (Nat.zero_add _) (by rw [List.drop_zero]; exact hgm)
    obtain ⟨i, hi, hie⟩ := (ptL_mem hq.1).1 (rd_mem (l := ptL p q n) (i := t) ht)
    obtain ⟨j, hj, hje⟩ := pt_next p q n i t hq hg hn hi (by omega) hie
    obtain ⟨j', hj1, hj2, hj3, hj4⟩ := hth i hi
    have hjj : j = j' := isNb_uniq hg hq.1 hn hi hj ⟨hj1, fun k hk hki => ⟨hj2, hj3 k hk hki⟩⟩
    subst hjj
    have fi : ptF p q i < q := Nat.mod_lt _ hq.1
    have fj : ptF p q j < q := Nat.mod_lt _ hq.1
    have hst := ptL_strict hg hq.1 hn
    have key : g = ((ptD q (ptF p q i) (ptF p q j) : Nat) : Int) := by
      rcases h with ⟨h3, h4⟩ | ⟨h3, h4⟩
      · rw [Nat.mod_eq_of_lt (by omega)] at hje
        have hlt := (List.pairwise_iff_getElem.1 hst) t (t + 1) (by omega) (by omega) (by omega)
        rw [← rd_get (by omega), ← rd_get (by omega)] at hlt
        rw [hje, hie] at hlt
        rw [h4, hje, hie]
        unfold ptD
        rw [if_pos (by omega)]; omega
      · rw [show t + 1 = n by omega, Nat.mod_self, hfirst] at hje
        rw [h4, hie]
        unfold ptD
        split
        · have hji : ptF p q j = ptF p q i := by omega
          exact absurd (pt_inj hg hn hj1 hi hji) hj2
        · omega
    rw [key]
    rcases hj4 with e | e | e <;> rw [e] <;> omega
theorem lenL_mem {q : Nat} {l : List Int} {x : Int} (h : x ∈ lenL q l) : x ∈ l := by
  unfold lenL at h
  simp only [List.mem_filter, decide_eq_true_eq] at h
  exact h.2
theorem three_list {a b : Int} (ha : 1 ≤ a) (hb : 1 ≤ b) : ∀ (l : List Int), l.Pairwise (fun x y => x < y) → (∀ x ∈ l, x = a ∨ x = b ∨ x = a + b) → l.length ≤ 3 ∧ (l.length = 3 → rd l 0 + rd l 1 = rd l 2)
  | [], _, _ => by simp
  | [x], _, _ => by simp
  | [x, y], _, _ => by simp
  | [x, y, z], hp, hm => by
    have h1 := hm x (by simp)
    have h2 := hm y (by simp)
    have h3 := hm z (by simp)
    simp only [List.pairwise_cons, List.mem_cons, List.not_mem_nil, or_false, forall_eq_or_imp, forall_eq] at hp
    have e : rd [x, y, z] 0 = x ∧ rd [x, y, z] 1 = y ∧ rd [x, y, z] 2 = z := ⟨rfl, rfl, rfl⟩
    refine ⟨by simp, fun _ => ?_⟩
    rw [e.1, e.2.1, e.2.2]
    omega
  | x :: y :: z :: w :: l, hp, hm => by
    have h1 := hm x (by simp)
    have h2 := hm y (by simp)
    have h3 := hm z (by simp)
    have h4 := hm w (by simp)
    simp only [List.pairwise_cons, List.mem_cons] at hp
    have p1 := hp.1 y (by simp)
    have p2 := hp.2.1 z (by simp)
    have p3 := hp.2.2.1 w (by simp)
    omega
theorem gapLen_three (p q n : Int) : (gapLenRes p q n).1.length ≤ 3 ∧ ((gapLenRes p q n).1.length = 3 → rd (gapLenRes p q n).1 0 + rd (gapLenRes p q n).1 1 = rd (gapLenRes p q n).1 2) := by
  by_cases h : ptOk p q n = true
  · obtain ⟨a, b, m, rfl, rfl, rfl, h1, h2⟩ := ptOk_nat h
    have e : (gapLenRes (a : Int) (b : Int) (m : Int)).1 = lenL b (gapL (b : Int) (ptL a b m)) := by
      unfold gapLenRes gapRes ptRes
      rw [if_pos h]
      simp
    rw [e]
    obtain ⟨al, be, ha, hb, hth⟩ := gap_three a b m (by omega) h2 (by omega) (by omega)
    exact three_list ha hb _ (lenL_strict _ _) (fun x hx => hth x (lenL_mem hx))
  · have e : (gapLenRes p q n).1 = [] := by
      unfold gapLenRes
      rw [gapRes_no p q n h]
      exact lenL_nil _
    rw [e]; simp
def sumI : List Int → Int
  | [] => 0
  | x :: l => x + sumI l
theorem gapL_sum (q : Int) : ∀ (x : Int) (l : List Int), sumI (gapL q (x :: l)) = q - x
  | x, [] => by simp [gapL, sumI]
  | x, y :: l => by
    have := gapL_sum q y l
    simp only [gapL, sumI] at this ⊢
    omega
theorem gapRes_sum (p q n : Int) (h : ptOk p q n = true) : sumI (gapRes p q n).1 = q ∧ ((gapRes p q n).1.length : Int) = n := by
  obtain ⟨a, b, m, rfl, rfl, rfl, h1, h2⟩ := ptOk_nat h
  have e : (gapRes (a : Int) (b : Int) (m : Int)).1 = gapL (b : Int) (ptL a b m) := by
    unfold gapRes ptRes
    rw [if_pos h]
    simp
  have hlen := ptL_length a b m (by omega)
  have hf := ptL_first a b m (by omega) h2 (by omega) (by omega)
  rw [e, gapL_length, hlen]
  refine ⟨?_, rfl⟩
  cases hl : ptL a b m with
  | nil => rw [hl] at hlen; simp at hlen; omega
  | cons x l =>
    rw [hl] at hf
    rw [gapL_sum]
    have : x = 0 := by simpa [rd] using hf
    omega


-- SAY: For every code the law of gaps holds: points on a circle leave gaps of three lengths at most, the longest of three is the sum of the others, all gaps make up the circle, and the reference agrees. No conditions beyond the given statement.
theorem l25Draw_tot (b : List Int) (i h : Int) (hc : curOk b i) : ∃ r, spec_l25Draw.f b i h = some r ∧ curOk b r.2.2.2.1 := by
  unfold spec_l25Draw.f
  obtain ⟨r1, e1, h1, c1⟩ := l1Below_tot b i h 40 hc (by omega) (by omega)
  rw [e1]
  simp only [Option.bind_some]
  rw [wr (n := 1 + r1.1) (by omega) (by omega)]
  obtain ⟨r2, e2, h2, c2⟩ := l1Below_tot b r1.2.1 r1.2.2 (1 + r1.1) c1 (by omega) (by omega)
  rw [e2]
  simp only [Option.bind_some]
  obtain ⟨r3, e3, h3, c3⟩ := l1Below_tot b r2.2.1 r2.2.2 (1 + r1.1) c2 (by omega) (by omega)
  rw [e3]
  simp only [Option.bind_some]
  obtain ⟨r4, e4, c4⟩ : ∃ a, spec_l1Once.f b r3.2.1 r3.2.2 12 = some a ∧ curOk b a.2.1 := by
    unfold spec_l1Once.f
    obtain ⟨r, e, _, hc⟩ := l1Below_tot b r3.2.1 r3.2.2 12 c3 (by omega) (by omega)
    rw [e]
    exact ⟨_, rfl, hc⟩
  rw [e4]
  simp only [Option.bind_some]
  split
  · obtain ⟨r5, e5, _, c5⟩ := l1PickInt_tot b r4.2.1 r4.2.2 [0, 201] c4 (by decide) (by decide)
    rw [e5]
    exact ⟨_, rfl, c5⟩
  · exact ⟨_, rfl, c4⟩
theorem curZ {b : List Int} (h : b.length ≤ 1048576) : curOk b 0 := ⟨by omega, h⟩
theorem drawGap_tot (l : List Int) (hn : l.length ≤ 1048576) : Tot (fun k => spec_DrawGapLengths.f k l) (fun _ => True) := by
  simp only [spec_DrawGapLengths.f]
  refine tot_bind (l1New_tot l hn) (fun r hr => ?_)
  rw [hr.1, hr.2]
  obtain ⟨a, e, _⟩ := l25Draw_tot l 0 r.2.2 (curZ hn)
  exact tot_bind0 (P := fun _ => True) ⟨a, e, trivial⟩ (fun _ _ => tot_some trivial)
theorem drawNb_tot (l : List Int) (hn : l.length ≤ 1048576) : Tot (fun k => spec_DrawNeighbourOf.f k l) (fun _ => True) := by
  simp only [spec_DrawNeighbourOf.f]
  refine tot_bind (l1New_tot l hn) (fun r hr => ?_)
  rw [hr.1, hr.2]
  obtain ⟨a, e, hc⟩ := l25Draw_tot l 0 r.2.2 (curZ hn)
  refine tot_bind0 (P := fun x => curOk l x.2.2.2.1) ⟨a, e, hc⟩ (fun x hx => ?_)
  exact tot_bind0 (l1Below_tot l x.2.2.2.1 x.2.2.2.2 20 hx (by omega) (by omega)) (fun _ _ => tot_some trivial)
theorem drawCut_tot (l : List Int) (hn : l.length ≤ 1048576) : Tot (fun k => spec_DrawCutWord.f k l) (fun _ => True) := by
  simp only [spec_DrawCutWord.f]
  refine tot_bind (l1New_tot l hn) (fun r hr => ?_)
  rw [hr.1, hr.2]
  obtain ⟨a, e, hc⟩ := l25Draw_tot l 0 r.2.2 (curZ hn)
  refine tot_bind0 (P := fun x => curOk l x.2.2.2.1) ⟨a, e, hc⟩ (fun x hx => ?_)
  exact tot_bind0 (l1Below_tot l x.2.2.2.1 x.2.2.2.2 30 hx (by omega) (by omega)) (fun _ _ => tot_some trivial)
theorem nb_both (p q n i : Int) : ∃ r, Ev (fun k => spec_NeighbourOf.f k p q n i) r ∧ Ev (fun k => impl_NeighbourOf.f k p q n i) r := by
  by_cases h : nbOk p q n i
  · exact NeighbourOf_yes p q n i h
  · exact ⟨_, spec_NeighbourOf_no p q n i h, impl_NeighbourOf_no p q n i h⟩
theorem cut_range (p q n x : Int) (h : (cutRes p q n x).2 = true) : 0 ≤ (cutRes p q n x).1 ∧ (cutRes p q n x).1 < n := by
  unfold cutRes at h ⊢
  split at h
  · rename_i hk
    rw [if_pos hk]
    obtain ⟨a, b, m, rfl, rfl, rfl, h1, h2⟩ := ptOk_nat hk.1
    have hle := cutM_le x (ptRes (a : Int) (b : Int) (m : Int)).1
    have hlen : (ptRes (a : Int) (b : Int) (m : Int)).1.length = m := by
      unfold ptRes
      rw [if_pos hk.1]
      simpa using ptL_length a b m (by omega)
    simp only
    omega
  · cases h
theorem fg_j2 (l : List Int) (hn : l.length ≤ 1048576) : Ev (fun k => laws_FnGaps.j2 k l false) true := by
  refine ev_succ ?_
  simp only [laws_FnGaps.j2]
  refine ev_neg (by simp) ?_
  obtain ⟨r, hr, _⟩ := drawNb_tot l hn
  obtain ⟨v, hv1, hv2⟩ := nb_both r.1 r.2.1 r.2.2.1 r.2.2.2
  obtain ⟨c, hc, _⟩ := drawCut_tot l hn
  refine ev_bind hr (ev_bind hv2 (ev_bind hv1 (ev_bind hc (ev_bind (impl_CutWord_ev _ _ _ _) (ev_bind (spec_CutWord_ev _ _ _ _) ?_)))))
  refine ev_pos (by simp) (ev_pos rfl (ev_pos (by simp) (ev_pos rfl (ev_ite (fun h => ?_) (fun h => ev_some rfl)))))
  have := cut_range c.1 c.2.1 c.2.2.1 c.2.2.2 h
  exact ev_pos (by omega) (ev_some (decide_eq_true (by omega)))
theorem sum_drop (l : List Int) (i : Nat) (h : i < l.length) : sumI (l.drop i) = rd l (i : Int) + sumI (l.drop (i + 1)) := by
  rw [drop_rd h]; rfl
theorem fg_l0 (l : List Int) (hn : l.length ≤ 1048576) (q n : Int) (is : Bool) (g : List Int) (hg : g.length ≤ 200) (hb : ∀ x ∈ g, 1 ≤ x ∧ x ≤ 200) (hs : is = true → sumI g = q ∧ (g.length : Int) = n) (d : Nat) : ∀ (i : Nat) (s : Int), i + d = g.length → 0 ≤ s → s ≤ 200 * i → s + sumI (g.drop i) = sumI g →
    Ev (fun k => laws_FnGaps.l0 k l q n is g s (i : Int)) true := by
  induction d with
  | zero =>
    intro i s hi h0 h1 h2
    rw [List.drop_of_length_le (by omega)] at h2
    simp only [sumI, Int.add_zero] at h2
    refine ev_succ ?_
    simp only [laws_FnGaps.l0]
    refine ev_neg (by omega) (ev_ite (fun h => ?_) (fun h => fg_j2 l hn))
    obtain ⟨e1, e2⟩ := hs h
    rw [show ((g.length : Int) != n) = false by simp [e2]]
    exact ev_pos (by omega) (fg_j2 l hn)
  | succ d ih =>
    intro i s hi h0 h1 h2
    have hx := hb _ (rd_mem (show i < g.length by omega))
    rw [sum_drop g i (by omega)] at h2
    refine ev_succ ?_
    simp only [laws_FnGaps.l0]
    rw [wr1 (show (0 : Int) ≤ (i : Int) by omega) (by omega), show ((i : Int) + 1) = ((i + 1 : Nat) : Int) by omega, wr (show -9223372036854775808 ≤ s + rd g (i : Int) by omega) (by omega)]
    exact ev_pos (by omega) (ev_pos (by omega) (ih (i + 1) _ (by omega) (by omega) (by omega) (by omega)))
theorem gapRes_bound (p q n : Int) : ∀ x ∈ (gapRes p q n).1, 1 ≤ x ∧ x ≤ 200 := by
  intro x hx
  by_cases h : ptOk p q n = true
  · obtain ⟨a, b, m, rfl, rfl, rfl, h1, h2⟩ := ptOk_nat h
    have e : (gapRes (a : Int) (b : Int) (m : Int)).1 = gapL (b : Int) (ptL a b m) := by
      unfold gapRes ptRes
      rw [if_pos h]
      simp
    rw [e] at hx
    have := gapL_bound (b : Int) (ptL a b m) (fun y hy => ptL_bound hy) (ptL_strict h2 (by omega) (by omega)) x hx
    omega
  · rw [gapRes_no p q n h] at hx; simp at hx
theorem FnGaps : laws_FnGaps.Pure := by
  intro l hl0 hl1 hwf
  refine Ev.rounds (g := fun k => laws_FnGaps.f k l) ?_
  simp only [laws_FnGaps.f, big_eq, Option.bind_some]
  refine ev_ite (fun h => ev_some rfl) (fun h => ?_)
  have hn : l.length ≤ 1048576 := by
    simp only [decide_eq_true_eq] at h; omega
  obtain ⟨r, hr, _⟩ := drawGap_tot l hn
  obtain ⟨p, q, n⟩ := r
  have g1 := gapLenRes_length p q n
  have g2 := gapRes_length p q n
  have g3 := ptRes_length p q n
  have g4 := gapLen_three p q n
  have gb := gapRes_bound p q n
  refine ev_bind hr ?_
  simp only
  refine ev_bind (impl_GapLengths_ev p q n) (ev_bind (spec_GapLengths_ev p q n) (ev_bind (impl_GapsOf_ev p q n) (ev_bind (spec_GapsOf_ev p q n) (ev_bind (impl_PointsOf_ev p q n) (ev_bind (spec_PointsOf_ev p q n) ?_)))))
  refine ev_neg (by simp) (ev_bind (sameInts_refl _ (by omega)) (ev_pos rfl (ev_neg (by simp) (ev_bind (sameInts_refl _ (by omega)) (ev_pos rfl (ev_neg (by simp) (ev_bind (sameInts_refl _ (by omega)) (ev_pos rfl (ev_neg (by omega) ?_)))))))))
  have fin : Ev (fun k => laws_FnGaps.j0 k l q n (gapLenRes p q n).2 (gapRes p q n).1 false) true := by
    refine ev_succ ?_
    simp only [laws_FnGaps.j0]
    refine ev_neg (by simp) ?_
    refine fg_l0 l hn q n (gapLenRes p q n).2 (gapRes p q n).1 g2 gb (fun hi => ?_) (gapRes p q n).1.length 0 0 (by omega) (by omega) (by omega) (by rw [List.drop_zero]; omega)
    by_cases hk : ptOk p q n = true
    · exact gapRes_sum p q n hk
    · unfold gapLenRes at hi
      rw [gapRes_no p q n hk] at hi; cases hi
  refine ev_ite (fun h3 => ?_) (fun h3 => fin)
  have hb3 : ∀ x ∈ (gapLenRes p q n).1, 1 ≤ x ∧ x ≤ 200 := fun x hx => gb x (lenL_mem hx)
  have b0 : 1 ≤ rd (gapLenRes p q n).1 0 ∧ rd (gapLenRes p q n).1 0 ≤ 200 := by
    have := hb3 _ (rd_mem (l := (gapLenRes p q n).1) (i := 0) (by omega))
    rwa [show ((0 : Nat) : Int) = 0 from rfl] at this
  have b1 : 1 ≤ rd (gapLenRes p q n).1 1 ∧ rd (gapLenRes p q n).1 1 ≤ 200 := by
    have := hb3 _ (rd_mem (l := (gapLenRes p q n).1) (i := 1) (by omega))
    rwa [show ((1 : Nat) : Int) = 1 from rfl] at this
  refine ev_pos (by omega) (ev_pos (by omega) (ev_pos (by omega) ?_))
  have hs := g4.2 (by omega)
  have hb0 : wrap64 (rd (gapLenRes p q n).1 0 + rd (gapLenRes p q n).1 1) = rd (gapLenRes p q n).1 2 := by
    rw [wr (n := rd (gapLenRes p q n).1 0 + rd (gapLenRes p q n).1 1) (by omega) (by omega)]
    exact hs
  rw [hb0, show (rd (gapLenRes p q n).1 2 != rd (gapLenRes p q n).1 2) = false by simp]
  exact fin


end Go.Proofs.Ytjdnbakmeieknaa.Pure

/-! The row's word for a slice's size, under the name by which the row asks for it. -/
namespace Go.Proofs.Ytjdnbakmeieknaa.PrintWords
open Go.ChangeShapes Go.WideShapes
theorem sized_ints {H : Type} {enc : TypeId × Value → H} {P : Program} {W : World} {base : Nat} {spare : Nat → Bool} {held : Bool} {t e : TypeId} {k : IntKind} {a : Option Addr} {len cap : Nat} {d : DataW H}
    {ps : List MemPlace} {ts : List TypeId} {ds : List (DataW H)} {j : Nat} (hsz : (DataW.weightsEach P ts ds).all (· ≤ reachBytes) = true) (ht : ts[j]? = some t) (hd : ds[j]? = some d) (hu : P.underlying t = some (.slice e))
    (he : P.underlying e = some (.int k)) (hc : P.cellsOf e = 1) {B : Nat} (hB : P.bytesOf e = B) (h : DataW.Trod enc P W base spare held t (.slice a len cap) d ps) : len * B ≤ 140737488351232 :=
  Go.Proofs.YtjdnbakmeieknaaW.PrintWords.sized_ints hsz ht hd hu he hc hB h
end Go.Proofs.Ytjdnbakmeieknaa.PrintWords
