/- For every sequence, letter and number the program's CountTerms answers what the reference's answers, and leaves its arguments alone. No conditions beyond the given statement. -/
import Derived.Test.YtpmgiinfdfddbaaPFnExactCountTermsx8
set_option linter.unusedVariables false
set_option linter.unusedSimpArgs false
namespace Go.Proofs.Ytpmgiinfdfddbaa.Pure
open Go.RowKit Go.Proofs.Ytpmgiinfdfddbaa.PFnExactCountTerms Go.Proofs.YtpmgiinfdfddbaaW.PrintWords Go.Proofs.YtpmgiinfdfddbaaW.PrintLast

theorem ev_succ {α : Type} {g : Nat → Option α} {r : α} (h : Ev (fun k => g (k + 1)) r) : Ev g r := Ev.step (fun _ => rfl) h
theorem ev_some {α : Type} {r r' : α} (h : r = r') : Ev (fun _ => some r) r' := by subst h; exact Ev.now r
theorem ev_pos {α : Type} {c : Prop} [Decidable c] {g f : Nat → Option α} {r : α} (hc : c) (h : Ev g r) : Ev (fun k => if c then g k else f k) r := by
  simp only [if_pos hc]; exact h
theorem ev_neg {α : Type} {c : Prop} [Decidable c] {g f : Nat → Option α} {r : α} (hc : ¬ c) (h : Ev f r) : Ev (fun k => if c then g k else f k) r := by
  simp only [if_neg hc]; exact h
theorem ev_ite {α : Type} {c : Prop} [Decidable c] {g f : Nat → Option α} {r : α} (h : c → Ev g r) (h' : ¬ c → Ev f r) : Ev (fun k => if c then g k else f k) r := by
  by_cases hc : c
  · exact ev_pos hc (h hc)
  · exact ev_neg hc (h' hc)
theorem ev_bind {α β : Type} {g : Nat → Option α} {f : Nat → α → Option β} {a : α} {r : β} (h : Ev g a) (k : Ev (fun n => f n a) r) : Ev (fun n => (g n).bind (f n)) r := Ev.bind h k
theorem ev_bind0 {α β : Type} {o : Option α} {f : Nat → α → Option β} {a : α} {r : β} (h : o = some a) (k : Ev (fun n => f n a) r) : Ev (fun n => o.bind (f n)) r := by
  subst h; exact k
theorem ev_eq {α : Type} {g : Nat → Option α} {r r' : α} (h : Ev g r) (e : r = r') : Ev g r' := e ▸ h
theorem ev_const {α : Type} {o : Option α} {r : α} (h : o = some r) : Ev (fun _ => o) r := by subst h; exact Ev.now r
theorem wr {n : Int} (h0 : -9223372036854775808 ≤ n) (h1 : n ≤ 9223372036854775807) : wrap64 n = n := by unfold wrap64; omega
theorem wr1 {i : Int} (h0 : 0 ≤ i) (h1 : i ≤ 4611686018427387904) : wrap64 (i + 1) = i + 1 := wr (by omega) (by omega)
theorem wr_nat {n : Nat} (h : n ≤ 4611686018427387904) : wrap64 (n : Int) = n := wr (by omega) (by omega)
theorem rd_nat (l : List Int) (i : Nat) : rd l (i : Int) = l.getD i 0 := by simp [rd]
theorem rd_get {l : List Int} {i : Nat} (h : i < l.length) : rd l (i : Int) = l[i] := by
  simp [rd, List.getD_eq_getElem?_getD, List.getElem?_eq_getElem h]
theorem drop_rd {l : List Int} {i : Nat} (h : i < l.length) : l.drop i = rd l (i : Int) :: l.drop (i + 1) := by
  rw [rd_get h]; exact List.drop_eq_getElem_cons h
theorem rd_mem {l : List Int} {i : Nat} (h : i < l.length) : rd l (i : Int) ∈ l := by rw [rd_get h]; exact List.getElem_mem h


/-- g tells some answer of which P is known -/
def Tot {α : Type} (g : Nat → Option α) (P : α → Prop) : Prop := ∃ r, Ev g r ∧ P r
theorem tot_of {α : Type} {g : Nat → Option α} {P : α → Prop} {r : α} (h : Ev g r) (hp : P r) : Tot g P := ⟨r, h, hp⟩
theorem tot_some {α : Type} {r : α} {P : α → Prop} (h : P r) : Tot (fun _ => some r) P := ⟨r, Ev.now r, h⟩
theorem tot_bind {α β : Type} {g : Nat → Option α} {f : Nat → α → Option β} {P : α → Prop} {Q : β → Prop} (h : Tot g P) (k : ∀ a, P a → Tot (fun n => f n a) Q) : Tot (fun n => (g n).bind (f n)) Q := by
  obtain ⟨a, ha, hp⟩ := h
  obtain ⟨r, hr, hq⟩ := k a hp
  exact ⟨r, Ev.bind ha hr, hq⟩
theorem tot_bind0 {α β : Type} {o : Option α} {f : Nat → α → Option β} {P : α → Prop} {Q : β → Prop} (h : ∃ a, o = some a ∧ P a) (k : ∀ a, P a → Tot (fun n => f n a) Q) : Tot (fun n => o.bind (f n)) Q := by
  obtain ⟨a, ha, hp⟩ := h
  subst ha
  exact k a hp
theorem tot_pos {α : Type} {c : Prop} [Decidable c] {g f : Nat → Option α} {P : α → Prop} (hc : c) (h : Tot g P) : Tot (fun k => if c then g k else f k) P := by
  simp only [if_pos hc]; exact h
theorem tot_neg {α : Type} {c : Prop} [Decidable c] {g f : Nat → Option α} {P : α → Prop} (hc : ¬ c) (h : Tot f P) : Tot (fun k => if c then g k else f k) P := by
  simp only [if_neg hc]; exact h
theorem tot_ite {α : Type} {c : Prop} [Decidable c] {g f : Nat → Option α} {P : α → Prop} (h : c → Tot g P) (h' : ¬ c → Tot f P) : Tot (fun k => if c then g k else f k) P := by
  by_cases hc : c
  · exact tot_pos hc (h hc)
  · exact tot_neg hc (h' hc)
theorem tot_succ {α : Type} {g : Nat → Option α} {P : α → Prop} (h : Tot (fun k => g (k + 1)) P) : Tot g P := by
  obtain ⟨r, hr, hp⟩ := h
  exact ⟨r, ev_succ hr, hp⟩
theorem tot_mono {α : Type} {g : Nat → Option α} {P Q : α → Prop} (h : Tot g P) (k : ∀ a, P a → Q a) : Tot g Q := by
  obtain ⟨r, hr, hp⟩ := h
  exact ⟨r, hr, k r hp⟩
theorem bits_and_le (x : Int) (m : Nat) (hm : m < 4611686018427387904) : 0 ≤ Go.bits .and .i64 x (m : Int) ∧ Go.bits .and .i64 x (m : Int) ≤ m := by
  have h : ∀ n : Nat, n ≤ m → IntKind.i64.wrap (n : Int) = n := by
    intro n hn
    simp only [IntKind.wrap, IntKind.bits, IntKind.signed, Bool.true_and, decide_eq_true_eq]
    split
    · rename_i h
      have e : (2 : Int) ^ (64 - 1) = 9223372036854775808 := by decide
      have h2 : (n : Int) % 2 ^ 64 ≥ 2 ^ (64 - 1) := of_decide_eq_true h
      rw [e] at h2
      omega
    · omega
  simp only [Go.bits]
  have hb : (BitVec.ofInt IntKind.i64.bits (m : Int)).toNat = m := by
    simp only [BitVec.ofInt_natCast, BitVec.toNat_ofNat, IntKind.bits]
    exact Nat.mod_eq_of_lt (by omega)
  have hle : ((BitVec.ofInt IntKind.i64.bits x) &&& (BitVec.ofInt IntKind.i64.bits (m : Int))).toNat ≤ m := by
    rw [BitVec.toNat_and, hb]; exact Nat.and_le_right
  rw [h _ hle]
  omega
/-- a cursor's place and hash: the place is no negative number -/
def curOk (b : List Int) (i : Int) : Prop := 0 ≤ i ∧ b.length ≤ 1048576

theorem toIntS_l0 (l : List Int) (hn : l.length ≤ 4611686018427387904) (d : Nat) : ∀ (i : Nat) (x : List Int), i + d = l.length → x.length = l.length → (∀ j, j < i → x[j]? = l[j]?) →
    Ev (fun k => laws_toIntS.l0 k l x (i : Int)) l := by
  induction d with
  | zero =>
    intro i x hi hx hj
    refine ev_succ ?_
    simp only [laws_toIntS.l0]
    refine ev_neg (by omega) (ev_some ?_)
    apply List.ext_getElem?
    intro j
    by_cases h : j < i
    · exact hj j h
    · rw [List.getElem?_eq_none (by omega), List.getElem?_eq_none (by omega)]
  | succ d ih =>
    intro i x hi hx hj
    refine ev_succ ?_
    simp only [laws_toIntS.l0, wr1 (show (0 : Int) ≤ (i : Int) by omega) (by omega)]
    refine ev_pos (by omega) (ev_pos (by omega) (ev_pos (by omega) ?_))
    refine ih (i + 1) _ (by omega) (by simp [hx]) ?_
    intro j hj'
    rw [Int.toNat_natCast, rd_get (by omega), List.getElem?_set]
    by_cases e : i = j
    · subst e
      rw [if_pos rfl, if_pos (by omega), List.getElem?_eq_getElem (by omega)]
    · rw [if_neg e]; exact hj j (by omega)
theorem toIntS_ev (l : List Int) (hn : l.length ≤ 35184372088832) : Ev (fun k => laws_toIntS.f k l) l := by
  simp only [laws_toIntS.f]
  refine ev_pos (by omega) (ev_pos (by omega) ?_)
  exact toIntS_l0 l (by omega) l.length 0 _ (by omega) (by simp) (by intro j hj; omega)


theorem eqIntS_l0 (l : List Int) (hn : l.length ≤ 4611686018427387904) (d : Nat) : ∀ (i : Nat), i + d = l.length → Ev (fun k => laws_eqIntS.l0 k l l (i : Int)) true := by
  induction d with
  | zero =>
    intro i hi
    refine ev_succ ?_
    simp only [laws_eqIntS.l0]
    exact ev_neg (by omega) (ev_some rfl)
  | succ d ih =>
    intro i hi
    refine ev_succ ?_
    simp only [laws_eqIntS.l0, wr1 (show (0 : Int) ≤ (i : Int) by omega) (by omega)]
    exact ev_pos (by omega) (ev_pos (by omega) (ev_pos (by omega) (ev_pos trivial (ih (i + 1) (by omega)))))
theorem eqIntS_ev (l : List Int) (hn : l.length ≤ 4611686018427387904) : Ev (fun k => laws_eqIntS.f k l l) true := by
  simp only [laws_eqIntS.f]
  exact ev_pos trivial (eqIntS_l0 l hn l.length 0 (by omega))


theorem rdLL_at {l : List (List Int)} {i : Nat} (h : i < l.length) : rd_L1 l (i : Int) = l[i] := by
  simp [rd_L1, List.getD_eq_getElem?_getD, List.getElem?_eq_getElem h]
theorem drop_rdLL {l : List (List Int)} {i : Nat} (h : i < l.length) : l.drop i = rd_L1 l (i : Int) :: l.drop (i + 1) := by
  rw [rdLL_at h]; exact List.drop_eq_getElem_cons h
theorem rdLL_mem {l : List (List Int)} {i : Nat} (h : i < l.length) : rd_L1 l (i : Int) ∈ l := by rw [rdLL_at h]; exact List.getElem_mem h
/-- all rows are short -/
def fit1 (l : List Int) : Prop := l.length ≤ 1048576
def fit2 (l : List (List Int)) : Prop := l.length ≤ 1048576 ∧ ∀ r ∈ l, fit1 r
def fit3 (l : List (List (List Int))) : Prop := l.length ≤ 1048576 ∧ ∀ m ∈ l, fit2 m
theorem toIntSS_l0 (l : List (List Int)) (hf : fit2 l) (d : Nat) : ∀ (i : Nat) (x : List (List Int)), i + d = l.length → x.length = l.length → (∀ j, j < i → x[j]? = l[j]?) →
    Ev (fun k => laws_toIntSS.l0 k l x (i : Int)) l := by
  have hn := hf.1
  induction d with
  | zero =>
    intro i x hi hx hj
    refine ev_succ ?_
    simp only [laws_toIntSS.l0]
    refine ev_neg (by omega) (ev_some ?_)
    apply List.ext_getElem?
    intro j
    by_cases h : j < i
    · exact hj j h
    · rw [List.getElem?_eq_none (by omega), List.getElem?_eq_none (by omega)]
  | succ d ih =>
    intro i x hi hx hj
    refine ev_succ ?_
    simp only [laws_toIntSS.l0, wr1 (show (0 : Int) ≤ (i : Int) by omega) (by omega)]
    have hr := hf.2 _ (rdLL_mem (show i < l.length by omega))
    unfold fit1 at hr
    refine ev_pos (by omega) (ev_pos (by omega) (ev_bind (toIntS_ev _ (by omega)) (ev_pos (by omega) ?_)))
    refine ih (i + 1) _ (by omega) (by simp [hx]) ?_
    intro j hj'
    rw [Int.toNat_natCast, rdLL_at (by omega), List.getElem?_set]
    by_cases e : i = j
    · subst e
      rw [if_pos rfl, if_pos (by omega), List.getElem?_eq_getElem (by omega)]
    · rw [if_neg e]; exact hj j (by omega)
theorem toIntSS_ev (l : List (List Int)) (hf : fit2 l) : Ev (fun k => laws_toIntSS.f k l) l := by
  have hn := hf.1
  simp only [laws_toIntSS.f]
  refine ev_pos (by omega) (ev_pos (by omega) ?_)
  exact toIntSS_l0 l hf l.length 0 _ (by omega) (by simp) (by intro j hj; omega)
theorem eqIntSS_l0 (l : List (List Int)) (hf : fit2 l) (d : Nat) : ∀ (i : Nat), i + d = l.length → Ev (fun k => laws_eqIntSS.l0 k l l (i : Int)) true := by
  have hn := hf.1
  induction d with
  | zero =>
    intro i hi
    refine ev_succ ?_
    simp only [laws_eqIntSS.l0]
    exact ev_neg (by omega) (ev_some rfl)
  | succ d ih =>
    intro i hi
    have hr := hf.2 _ (rdLL_mem (show i < l.length by omega))
    unfold fit1 at hr
    refine ev_succ ?_
    simp only [laws_eqIntSS.l0, wr1 (show (0 : Int) ≤ (i : Int) by omega) (by omega)]
    exact ev_pos (by omega) (ev_pos (by omega) (ev_pos (by omega) (ev_bind (eqIntS_ev _ (by omega)) (ev_pos rfl (ih (i + 1) (by omega))))))
theorem eqIntSS_ev (l : List (List Int)) (hf : fit2 l) : Ev (fun k => laws_eqIntSS.f k l l) true := by
  simp only [laws_eqIntSS.f]
  exact ev_pos trivial (eqIntSS_l0 l hf l.length 0 (by omega))

/-- what the size's count tells: either it is used up, or what was counted fits -/
theorem szIntS_tot (l : List Int) (hl : l.length ≤ 9223372036854775807) (n : Int) (h0 : 0 ≤ n) (h1 : n ≤ 1048576) : ∃ r, laws_szIntS.f l n = some r ∧ r ≤ 1048576 ∧ (0 ≤ r → fit1 l) := by
  unfold laws_szIntS.f
  rw [wr (by omega) (by omega)]
  split
  · exact ⟨_, rfl, by omega, fun h => absurd h (by omega)⟩
  · exact ⟨_, rfl, by omega, fun _ => by unfold fit1; omega⟩
theorem szIntSS_l0 (l : List (List Int)) (hn : l.length ≤ 1048576) (hl : ∀ r ∈ l, r.length ≤ 9223372036854775807) (d : Nat) : ∀ (i : Nat) (n : Int), i + d = l.length → 0 ≤ n → n ≤ 1048576 → (∀ r ∈ l.take i, fit1 r) →
    Tot (fun k => laws_szIntSS.l0 k l n (i : Int)) (fun r => r ≤ 1048576 ∧ (0 ≤ r → fit2 l)) := by
  induction d with
  | zero =>
    intro i n hi h0 h1 hf
    refine tot_succ ?_
    simp only [laws_szIntSS.l0]
    rw [List.take_of_length_le (by omega)] at hf
    exact tot_neg (by omega) (tot_some ⟨h1, fun _ => ⟨hn, hf⟩⟩)
  | succ d ih =>
    intro i n hi h0 h1 hf
    refine tot_succ ?_
    simp only [laws_szIntSS.l0, wr1 (show (0 : Int) ≤ (i : Int) by omega) (by omega)]
    refine tot_pos (by omega) (tot_pos (by omega) (tot_bind0 (szIntS_tot _ (hl _ (rdLL_mem (show i < l.length by omega))) n h0 h1) (fun r hr => ?_)))
    refine tot_ite (fun h => tot_some ⟨by omega, fun h => absurd h (by omega)⟩) (fun h => ih (i + 1) r (by omega) (by omega) hr.1 ?_)
    intro x hx
    rw [List.take_succ_eq_append_getElem (by omega), ← rdLL_at (by omega), List.mem_append] at hx
    rcases hx with hx | hx
    · exact hf x hx
    · simp only [List.mem_cons, List.not_mem_nil, or_false] at hx
      rw [hx]; exact hr.2 (by omega)
theorem szIntSS_tot (l : List (List Int)) (hn : l.length ≤ 9223372036854775807) (hl : ∀ r ∈ l, r.length ≤ 9223372036854775807) (n : Int) (h0 : 0 ≤ n) (h1 : n ≤ 1048576) :
    Tot (fun k => laws_szIntSS.f k l n) (fun r => r ≤ 1048576 ∧ (0 ≤ r → fit2 l)) := by
  simp only [laws_szIntSS.f]
  rw [wr (by omega) (by omega)]
  refine tot_ite (fun h => tot_some ⟨by omega, fun h => absurd h (by omega)⟩) (fun h => ?_)
  exact szIntSS_l0 l (by omega) hl l.length 0 _ (by omega) (by omega) (by omega) (by simp)

theorem szSequence_tot (b : Int) (next : List (List Int)) (out : List Int) (h2 : next.length ≤ 9223372036854775807) (h3 : ∀ r ∈ next, r.length ≤ 9223372036854775807) (h4 : out.length ≤ 9223372036854775807)
    (n : Int) (h0 : 0 ≤ n) (hn : n ≤ 1048576) : Tot (fun k => laws_szSequence.f k b next out n) (fun r => r ≤ 1048576 ∧ (0 ≤ r → fit2 next ∧ fit1 out)) := by
  simp only [laws_szSequence.f]
  refine tot_bind (szIntSS_tot next h2 h3 n h0 hn) (fun r2 hr2 => tot_ite (fun h => tot_some ⟨by omega, fun h => absurd h (by omega)⟩) (fun h => ?_))
  refine tot_bind0 (szIntS_tot out h4 r2 (by omega) hr2.1) (fun r3 hr3 => tot_ite (fun h => tot_some ⟨by omega, fun h => absurd h (by omega)⟩) (fun h => ?_))
  exact tot_some ⟨hr3.1, fun h => ⟨hr2.2 (by omega), hr3.2 (by omega)⟩⟩
theorem toSequence_ev (b : Int) (next : List (List Int)) (out : List Int) (h2 : fit2 next) (h3 : fit1 out) : Ev (fun k => laws_toSequence.f k b next out) (b, next, out) := by
  unfold fit1 at h3
  simp only [laws_toSequence.f]
  exact ev_bind (toIntSS_ev next h2) (ev_bind (toIntS_ev out (by omega)) (ev_some rfl))
theorem eqSequence_ev (b : Int) (next : List (List Int)) (out : List Int) (h2 : fit2 next) (h3 : fit1 out) : Ev (fun k => laws_eqSequence.f k b next out b next out) true := by
  unfold fit1 at h3
  simp only [laws_eqSequence.f]
  exact ev_pos trivial (ev_bind (eqIntSS_ev next h2) (ev_pos rfl (ev_bind (eqIntS_ev out (by omega)) (ev_pos rfl (ev_some rfl)))))


theorem l1In_eq (a b c : Int) : spec_l1In.f a b c = some (decide (b ≤ a ∧ a ≤ c)) := by
  unfold spec_l1In.f
  by_cases h : a ≥ b
  · rw [if_pos h]; simp [show b ≤ a from h]
  · rw [if_neg h]; simp [show ¬ b ≤ a from h]


theorem tmod_nat (a b : Nat) : Int.tmod (a : Int) (b : Int) = ((a % b : Nat) : Int) := by
  rw [Int.tmod_eq_emod_of_nonneg (by omega)]; exact (Int.natCast_emod a b).symm
theorem tdiv_nat (a b : Nat) : Int.tdiv (a : Int) (b : Int) = ((a / b : Nat) : Int) := by
  rw [Int.tdiv_eq_ediv_of_nonneg (by omega)]; exact (Int.natCast_ediv a b).symm
theorem gcd_step (a b : Nat) (h : b ≠ 0) : Nat.gcd a b = Nat.gcd b (a % b) := by
  rw [Nat.gcd_comm a b, Nat.gcd_rec b a, Nat.gcd_comm]

def small9 (x : Int) : Bool := decide (-9 ≤ x ∧ x ≤ 9)
def rowOk (n : Nat) (r : List Int) : Bool := decide (r.length = n) && r.all small9
def matOk (n : Nat) (m : List (List Int)) : Bool := decide (m.length = n) && m.all (rowOk n)
def isLin (b : Int) (row : List Int) (mats : List (List (List Int))) (col : List Int) : Bool :=
  decide (2 ≤ b ∧ b ≤ 4) && decide (1 ≤ row.length ∧ row.length ≤ 40) && rowOk row.length row && rowOk row.length col && decide ((mats.length : Int) = b) && mats.all (matOk row.length)
theorem isBase_eq (b : Int) : impl_isBase.f b = some (decide (2 ≤ b ∧ b ≤ 4)) := by
  unfold impl_isBase.f
  by_cases h : b ≥ 2
  · rw [if_pos h]; simp [show 2 ≤ b from h]
  · rw [if_neg h]; simp [show ¬ 2 ≤ b from h]
theorem all_rd_true {p : Int → Bool} {l : List Int} (h : l.all p = true) {i : Nat} (hi : i < l.length) : p (rd l (i : Int)) = true := List.all_eq_true.1 h _ (rd_mem hi)

def inR (m x : Int) : Bool := decide (0 ≤ x ∧ x < m)
def seqRow (b m : Int) (r : List Int) : Bool := decide ((r.length : Int) = b) && r.all (inR m)
def outOk (x : Int) : Bool := decide (0 ≤ x ∧ x ≤ 3)
def isSeq (b : Int) (next : List (List Int)) (out : List Int) : Bool :=
  decide (2 ≤ b ∧ b ≤ 4) && decide (1 ≤ next.length ∧ next.length ≤ 16) && decide (out.length = next.length) && next.all (seqRow b next.length) && out.all outOk
theorem spec_seq_l2 (b : Int) (next : List (List Int)) (out : List Int) (h2 : fit1 out) (hr : next.all (seqRow b next.length) = true) (d : Nat) : ∀ i : Nat, i + d = out.length → (out.take i).all outOk = true →
    Ev (fun k => spec_IsSequence.l2 k (i : Int) b next out) (isSeq b next out) := by
  unfold fit1 at h2
  induction d with
  | zero =>
    intro i hi ht
    refine ev_succ ?_
    simp only [spec_IsSequence.l2, l1In_eq, Option.bind_some]
    rw [List.take_of_length_le (by omega)] at ht
    refine ev_neg (by omega) ?_
    unfold isSeq
    rw [hr, ht]
    by_cases hb : 2 ≤ b ∧ b ≤ 4
    · rw [decide_eq_true hb]
      refine ev_pos (by simp) ?_
      by_cases hm : 1 ≤ next.length ∧ next.length ≤ 16
      · rw [decide_eq_true hm]
        refine ev_pos (by simp; omega) (ev_some ?_)
        simp only [Bool.true_and, Bool.and_true]
        rw [Bool.eq_iff_iff]; simp; omega
      · rw [decide_eq_false hm]
        exact ev_neg (by simp; omega) (ev_some (by simp))
    · rw [decide_eq_false hb]
      exact ev_neg (by simp) (ev_some (by simp))
  | succ d ih =>
    intro i hi ht
    refine ev_succ ?_
    simp only [spec_IsSequence.l2, l1In_eq, Option.bind_some, wr1 (show (0 : Int) ≤ (i : Int) by omega) (by omega)]
    refine ev_pos (by omega) (ev_pos (by omega) (ev_ite (fun h => ih (i + 1) (by omega) ?_) (fun h => ev_some ?_)))
    · rw [List.take_succ_eq_append_getElem (by omega), ← rd_get (by omega), List.all_append, ht]; simpa [outOk] using h
    · symm
      unfold isSeq
      have : out.all outOk = false := by
        rw [Bool.eq_false_iff]
        intro hall
        exact h (by simpa [outOk] using all_rd_true hall (show i < out.length by omega))
      rw [this]; simp
theorem spec_seq_l1 (b : Int) (next : List (List Int)) (out : List Int) (hf : fit2 next) (a : Nat) (ha : a < next.length) (r : List Int) (hr : r = rd_L1 next (a : Int)) (R : Bool)
    (H : r.all (inR next.length) = true → Ev (fun k => spec_IsSequence.l0 k ((a + 1 : Nat) : Int) b next out) R) (H2 : r.all (inR next.length) = false → R = false) (d : Nat) : ∀ j : Nat, j + d = r.length → (r.take j).all (inR next.length) = true →
    Ev (fun k => spec_IsSequence.l1 k (a : Int) (j : Int) b next out) R := by
  have h1 := hf.1
  have h2 := hf.2 _ (rdLL_mem ha)
  rw [← hr] at h2
  unfold fit1 at h2
  induction d with
  | zero =>
    intro j hj ht
    refine ev_succ ?_
    simp only [spec_IsSequence.l1]
    rw [← hr, wr1 (show (0 : Int) ≤ (a : Int) by omega) (by omega)]
    rw [List.take_of_length_le (by omega)] at ht
    exact ev_pos (by omega) (ev_pos (by omega) (ev_neg (by omega) (H ht)))
  | succ d ih =>
    intro j hj ht
    refine ev_succ ?_
    simp only [spec_IsSequence.l1, wr1 (show (0 : Int) ≤ (j : Int) by omega) (by omega)]
    rw [← hr]
    have nope : ¬ (0 ≤ rd r (j : Int) ∧ rd r (j : Int) < (next.length : Int)) → R = false := by
      intro h
      refine H2 ?_
      rw [Bool.eq_false_iff]
      intro hall
      have := all_rd_true hall (show j < r.length by omega)
      simp only [inR, decide_eq_true_eq] at this
      exact h this
    refine ev_pos (by omega) (ev_pos (by omega) (ev_pos (by omega) (ev_pos (by omega) (ev_ite (fun h => ev_some (nope (by omega)).symm) (fun h => ev_ite (fun h' => ev_some (nope (by omega)).symm) (fun h' => ih (j + 1) (by omega) ?_))))))
    rw [List.take_succ_eq_append_getElem (by omega), ← rd_get (by omega), List.all_append, ht]
    simp only [List.all_cons, List.all_nil, inR, decide_eq_true (show 0 ≤ rd r (j : Int) ∧ rd r (j : Int) < (next.length : Int) by omega), Bool.and_self]
theorem spec_seq_l0 (b : Int) (next : List (List Int)) (out : List Int) (hf : fit2 next) (h2 : fit1 out) (d : Nat) : ∀ a : Nat, a + d = next.length → (next.take a).all (seqRow b next.length) = true →
    Ev (fun k => spec_IsSequence.l0 k (a : Int) b next out) (isSeq b next out) := by
  have h1 := hf.1
  induction d with
  | zero =>
    intro a hi ht
    refine ev_succ ?_
    simp only [spec_IsSequence.l0]
    rw [List.take_of_length_le (by omega)] at ht
    exact ev_neg (by omega) (spec_seq_l2 b next out h2 ht out.length 0 (by omega) (by simp))
  | succ d ih =>
    intro a hi ht
    refine ev_succ ?_
    simp only [spec_IsSequence.l0]
    have nope : seqRow b next.length (rd_L1 next (a : Int)) = false → isSeq b next out = false := by
      intro h
      have : next.all (seqRow b next.length) = false := by
        rw [Bool.eq_false_iff]
        intro hall
        rw [List.all_eq_true.1 hall _ (rdLL_mem (show a < next.length by omega))] at h
        cases h
      unfold isSeq
      rw [this]; simp
    refine ev_pos (by omega) (ev_pos (by omega) (ev_ite (fun h => ?_) (fun h => ev_some (nope ?_).symm)))
    · refine spec_seq_l1 b next out hf a (by omega) _ rfl _ (fun hall => ih (a + 1) (by omega) ?_) (fun hall => nope ?_) (rd_L1 next (a : Int)).length 0 (by omega) (by simp)
      · rw [List.take_succ_eq_append_getElem (by omega), ← rdLL_at (by omega), List.all_append, ht]
        simp only [List.all_cons, List.all_nil, seqRow, hall, decide_eq_true h, Bool.and_self]
      · simp only [seqRow, hall, Bool.and_false]
    · simp only [seqRow, decide_eq_false h, Bool.false_and]
theorem spec_IsSequence_ev (b : Int) (next : List (List Int)) (out : List Int) (h1 : fit2 next) (h2 : fit1 out) : Ev (fun k => spec_IsSequence.f k b next out) (isSeq b next out) := by
  simp only [spec_IsSequence.f]
  exact spec_seq_l0 b next out h1 h2 next.length 0 (by omega) (by simp)
theorem impl_seq_l1 (b : Int) (next : List (List Int)) (out : List Int) (hf : fit2 next) (a : Nat) (ha : a < next.length) (r : List Int) (hrl : r.length ≤ 1048576) (R : Bool)
    (H : r.all (inR next.length) = true → Ev (fun k => impl_IsSequence.l0 k (next.length : Int) next (next.length : Int) ((a + 1 : Nat) : Int) b next out) R) (H2 : r.all (inR next.length) = false → R = false) (d : Nat) : ∀ j : Nat, j + d = r.length → (r.take j).all (inR next.length) = true →
    Ev (fun k => impl_IsSequence.l1 k (next.length : Int) next (next.length : Int) (a : Int) r (r.length : Int) (j : Int) b next out) R := by
  have h1 := hf.1
  induction d with
  | zero =>
    intro j hj ht
    refine ev_succ ?_
    simp only [impl_IsSequence.l1]
    rw [wr1 (show (0 : Int) ≤ (a : Int) by omega) (by omega)]
    rw [List.take_of_length_le (by omega)] at ht
    exact ev_neg (by omega) (H ht)
  | succ d ih =>
    intro j hj ht
    refine ev_succ ?_
    simp only [impl_IsSequence.l1, wr1 (show (0 : Int) ≤ (j : Int) by omega) (by omega)]
    have nope : ¬ (0 ≤ rd r (j : Int) ∧ rd r (j : Int) < (next.length : Int)) → R = false := by
      intro h
      refine H2 ?_
      rw [Bool.eq_false_iff]
      intro hall
      have := all_rd_true hall (show j < r.length by omega)
      simp only [inR, decide_eq_true_eq] at this
      exact h this
    refine ev_pos (by omega) (ev_pos (by omega) (ev_pos (by omega) (ev_ite (fun h => ev_some (nope (by omega)).symm) (fun h => ev_ite (fun h' => ev_some (nope (by omega)).symm) (fun h' => ih (j + 1) (by omega) ?_)))))
    rw [List.take_succ_eq_append_getElem (by omega), ← rd_get (by omega), List.all_append, ht]
    simp only [List.all_cons, List.all_nil, inR, decide_eq_true (show 0 ≤ rd r (j : Int) ∧ rd r (j : Int) < (next.length : Int) by omega), Bool.and_self]
theorem impl_seq_l0 (b : Int) (next : List (List Int)) (out : List Int) (hb : 2 ≤ b ∧ b ≤ 4) (hn : 1 ≤ next.length ∧ next.length ≤ 16) (ho : out.length = next.length) (hf : fit2 next) (d : Nat) : ∀ a : Nat, a + d = next.length → (next.take a).all (seqRow b next.length) = true → (out.take a).all outOk = true →
    Ev (fun k => impl_IsSequence.l0 k (next.length : Int) next (next.length : Int) (a : Int) b next out) (isSeq b next out) := by
  induction d with
  | zero =>
    intro a hi ht hu
    refine ev_succ ?_
    simp only [impl_IsSequence.l0]
    rw [List.take_of_length_le (by omega)] at ht hu
    refine ev_neg (by omega) (ev_some ?_)
    unfold isSeq
    rw [ht, hu, decide_eq_true hb, decide_eq_true hn, decide_eq_true ho]; rfl
  | succ d ih =>
    intro a hi ht hu
    refine ev_succ ?_
    simp only [impl_IsSequence.l0]
    have nope1 : seqRow b next.length (rd_L1 next (a : Int)) = false → isSeq b next out = false := by
      intro h
      have : next.all (seqRow b next.length) = false := by
        rw [Bool.eq_false_iff]
        intro hall
        rw [List.all_eq_true.1 hall _ (rdLL_mem (show a < next.length by omega))] at h
        cases h
      unfold isSeq
      rw [this]; simp
    have nope2 : outOk (rd out (a : Int)) = false → isSeq b next out = false := by
      intro h
      have : out.all outOk = false := by
        rw [Bool.eq_false_iff]
        intro hall
        rw [all_rd_true hall (show a < out.length by omega)] at h
        cases h
      unfold isSeq
      rw [this]; simp
    have hr := hf.2 _ (rdLL_mem (show a < next.length by omega))
    unfold fit1 at hr
    have bad : ∀ f : Bool, f = true → isSeq b next out = false → Ev (fun k => impl_IsSequence.j2 k (next.length : Int) (rd_L1 next (a : Int)) next (next.length : Int) (a : Int) f b next out) (isSeq b next out) := by
      intro f hf h
      subst hf
      refine ev_succ ?_
      simp only [impl_IsSequence.j2]
      exact ev_pos trivial (ev_some h.symm)
    refine ev_pos (by omega) (ev_pos (by omega) (ev_pos (by omega) (ev_ite (fun h => ev_pos (by omega) (ev_ite (fun h2 => bad _ rfl (nope2 ?_)) (fun h2 => ?_))) (fun h => bad _ rfl (nope1 ?_)))))
    · simp only [outOk, decide_eq_false (show ¬ (0 ≤ rd out (a : Int) ∧ rd out (a : Int) ≤ 3) by omega)]
    · by_cases h3 : rd out (a : Int) > 3
      · refine bad _ (by simpa using h3) (nope2 ?_)
        simp only [outOk, decide_eq_false (show ¬ (0 ≤ rd out (a : Int) ∧ rd out (a : Int) ≤ 3) by omega)]
      · rw [decide_eq_false h3]
        refine ev_succ ?_
        simp only [impl_IsSequence.j2]
        refine ev_neg (by simp) ?_
        refine impl_seq_l1 b next out hf a (by omega) _ hr _ (fun hall => ih (a + 1) (by omega) ?_ ?_) (fun hall => nope1 ?_) (rd_L1 next (a : Int)).length 0 (by omega) (by simp)
        · rw [List.take_succ_eq_append_getElem (by omega), ← rdLL_at (by omega), List.all_append, ht]
          simp only [List.all_cons, List.all_nil, seqRow, hall, decide_eq_true h, Bool.and_self]
        · rw [List.take_succ_eq_append_getElem (by omega), ← rd_get (by omega), List.all_append, hu]
          simp only [List.all_cons, List.all_nil, outOk, decide_eq_true (show 0 ≤ rd out (a : Int) ∧ rd out (a : Int) ≤ 3 by omega), Bool.and_self]
        · simp only [seqRow, hall, Bool.and_false]
    · simp only [seqRow, decide_eq_false h, Bool.false_and]
theorem impl_IsSequence_ev (b : Int) (next : List (List Int)) (out : List Int) (h1 : fit2 next) (h2 : fit1 out) : Ev (fun k => impl_IsSequence.f k b next out) (isSeq b next out) := by
  unfold fit1 at h2
  simp only [impl_IsSequence.f, isBase_eq, Option.bind_some]
  have no : ∀ f : Bool, f = true → isSeq b next out = false → Ev (fun k => impl_IsSequence.j0 k (next.length : Int) f b next out) (isSeq b next out) := by
    intro f hf h
    subst hf
    refine ev_succ ?_
    simp only [impl_IsSequence.j0]
    exact ev_pos trivial (ev_some h.symm)
  by_cases hb : 2 ≤ b ∧ b ≤ 4
  · refine ev_pos (by simpa using hb) (ev_ite (fun h => no _ rfl ?_) (fun h => ev_ite (fun h' => no _ rfl ?_) (fun h' => ?_)))
    · unfold isSeq; rw [decide_eq_false (show ¬ (1 ≤ next.length ∧ next.length ≤ 16) by omega)]; simp
    · unfold isSeq; rw [decide_eq_false (show ¬ (1 ≤ next.length ∧ next.length ≤ 16) by omega)]; simp
    · by_cases ho : out.length = next.length
      · refine ev_succ ?_
        simp only [impl_IsSequence.j0]
        exact ev_neg (by simp [ho]) (impl_seq_l0 b next out hb (by omega) ho h1 next.length 0 (by omega) (by simp) (by simp))
      · refine no _ (by simp; omega) ?_
        unfold isSeq; rw [decide_eq_false ho]; simp
  · refine ev_neg (by simpa using hb) (no _ rfl ?_)
    unfold isSeq; rw [decide_eq_false hb]; simp


def cnt (a : Int) : List Int → Int
  | [] => 0
  | x :: l => (if x = a then 1 else 0) + cnt a l
theorem cnt_bd (a : Int) (l : List Int) : 0 ≤ cnt a l ∧ cnt a l ≤ l.length := by
  induction l with
  | nil => exact ⟨by simp [cnt], by simp [cnt]⟩
  | cons x l ih =>
    simp only [cnt, List.length_cons]
    split <;> omega
theorem oneIf_eq (b : Bool) : impl_oneIf.f b = some (if b = true then 1 else 0) := by
  unfold impl_oneIf.f
  cases b <;> rfl

theorem slices_Reverse_l0 (l : List Int) (hn : l.length ≤ 4611686018427387904) (d : Nat) : ∀ (i : Nat) (x : List Int), l.length ≤ 2 * i + 2 * d → 2 * i ≤ l.length + 1 → x.length = l.length →
    (∀ t, t < l.length → x[t]? = if t < i ∨ l.length ≤ t + i then l[l.length - 1 - t]? else l[t]?) →
    Ev (fun k => slices_Reverse_int_int.l0 k x (i : Int) ((l.length : Int) - 1 - i)) l.reverse := by
  induction d with
  | zero =>
    intro i x hd hi hx hh
    refine ev_succ ?_
    simp only [slices_Reverse_int_int.l0]
    refine ev_neg (by omega) (ev_some ?_)
    apply List.ext_getElem?
    intro t
    by_cases ht : t < l.length
    · rw [List.getElem?_reverse ht, hh t ht]
      split
      · rfl
      · omega
    · rw [List.getElem?_eq_none (by omega), List.getElem?_eq_none (by simp; omega)]
  | succ d ih =>
    intro i x hd hi hx hh
    by_cases hlt : 2 * i < l.length - 1
    · refine ev_succ ?_
      simp only [slices_Reverse_int_int.l0]
      refine ev_pos (by omega) (ev_pos (by omega) (ev_pos (by omega) (ev_pos (by omega) (ev_pos (by omega) ?_))))
      obtain ⟨j, hj⟩ : ∃ j : Nat, (l.length : Int) - 1 - i = (j : Int) := ⟨l.length - 1 - i, by omega⟩
      rw [hj, wr1 (by omega) (by omega), wr (n := (j : Int) - 1) (by omega) (by omega), Int.toNat_natCast, Int.toNat_natCast]
      rw [show (j : Int) - 1 = (l.length : Int) - 1 - ((i + 1 : Nat) : Int) by omega]
      refine ih (i + 1) _ (by omega) (by omega) (by simp [hx]) ?_
      intro t ht
      have hij : i < j := by omega
      have hjl : j < l.length := by omega
      have hxi := hh i (by omega)
      have hxj := hh j (by omega)
      rw [if_neg (by omega)] at hxi hxj
      have hri : rd x (i : Int) = l[i] := by rw [rd_nat, List.getD_eq_getElem?_getD, hxi, List.getElem?_eq_getElem (by omega)]; rfl
      have hrj : rd x (j : Int) = l[j] := by rw [rd_nat, List.getD_eq_getElem?_getD, hxj, List.getElem?_eq_getElem (by omega)]; rfl
      rw [hri, hrj, List.getElem?_set, List.length_set, List.getElem?_set]
      by_cases e1 : j = t
      · subst e1
        rw [if_pos rfl, if_pos (by omega), if_pos (by omega), show l.length - 1 - j = i by omega, List.getElem?_eq_getElem]
      · rw [if_neg e1]
        by_cases e2 : i = t
        · subst e2
          rw [if_pos rfl, if_pos (by omega), if_pos (by omega), List.getElem?_eq_getElem (show l.length - 1 - i < l.length by omega)]
          congr 2; omega
        · rw [if_neg e2, hh t ht]
          by_cases e3 : t < i ∨ l.length ≤ t + i
          · rw [if_pos e3, if_pos (by omega)]
          · rw [if_neg e3, if_neg (by omega)]
    · refine ev_succ ?_
      simp only [slices_Reverse_int_int.l0]
      refine ev_neg (by omega) (ev_some ?_)
      apply List.ext_getElem?
      intro t
      by_cases ht : t < l.length
      · rw [List.getElem?_reverse ht, hh t ht]
        split
        · rfl
        · congr 1; omega
      · rw [List.getElem?_eq_none (by omega), List.getElem?_eq_none (by simp; omega)]
theorem slices_Reverse_ev (l : List Int) (hn : l.length ≤ 4611686018427387904) : Ev (fun k => slices_Reverse_int_int.f k l) l.reverse := by
  simp only [slices_Reverse_int_int.f]
  rw [wr (n := (l.length : Int) - 1) (by omega) (by omega)]
  have := slices_Reverse_l0 l hn l.length 0 l (by omega) (by omega) rfl (by intro t ht; rw [if_neg (by omega)])
  simpa using this


/-- the digits of n in base b, highest first -/
def digsF : Nat → Nat → Nat → List Int
  | 0, _, _ => []
  | f + 1, n, b => if n = 0 then [] else digsF f (n / b) b ++ [((n % b : Nat) : Int)]
theorem digsF_more (f : Nat) : ∀ (g n b : Nat), 2 ≤ b → n ≤ f → f ≤ g → digsF f n b = digsF g n b := by
  induction f with
  | zero =>
    intro g n b hb hn hg
    obtain rfl : n = 0 := by omega
    cases g with
    | zero => rfl
    | succ g => simp [digsF]
  | succ f ih =>
    intro g n b hb hn hg
    obtain ⟨g, rfl⟩ : ∃ g', g = g' + 1 := ⟨g - 1, by omega⟩
    simp only [digsF]
    by_cases h0 : n = 0
    · rw [if_pos h0, if_pos h0]
    · rw [if_neg h0, if_neg h0]
      have : n / b < n := Nat.div_lt_self (by omega) (by omega)
      rw [ih g (n / b) b hb (by omega) (by omega)]
def digs (n b : Nat) : List Int := digsF n n b
theorem digs_pos (n b : Nat) (hb : 2 ≤ b) (h : n ≠ 0) : digs n b = digs (n / b) b ++ [((n % b : Nat) : Int)] := by
  unfold digs
  obtain ⟨m, rfl⟩ : ∃ m, n = m + 1 := ⟨n - 1, by omega⟩
  conv => lhs; unfold digsF
  rw [if_neg h]
  have : (m + 1) / b < m + 1 := Nat.div_lt_self (by omega) (by omega)
  rw [digsF_more ((m + 1) / b) m ((m + 1) / b) b hb (Nat.le_refl _) (by omega)]
theorem digs_zero (b : Nat) : digs 0 b = [] := rfl
theorem digs_mem (b : Nat) (hb : 2 ≤ b) (f : Nat) : ∀ n, n ≤ f → ∀ x ∈ digs n b, 0 ≤ x ∧ x < (b : Int) := by
  induction f with
  | zero => intro n hn x hx; obtain rfl : n = 0 := by omega
            cases hx
  | succ f ih =>
    intro n hn x hx
    by_cases h0 : n = 0
    · subst h0; cases hx
    · rw [digs_pos n b hb h0] at hx
      have : n / b < n := Nat.div_lt_self (by omega) (by omega)
      rcases List.mem_append.1 hx with hx | hx
      · exact ih (n / b) (by omega) x hx
      · simp only [List.mem_cons, List.not_mem_nil, or_false] at hx
        have := Nat.mod_lt n (show b > 0 by omega)
        omega
theorem digs_len (b : Nat) (hb : 2 ≤ b) (e : Nat) : ∀ n, n < b ^ e → (digs n b).length ≤ e := by
  induction e with
  | zero => intro n hn; simp at hn; subst hn; simp [digs_zero]
  | succ e ih =>
    intro n hn
    by_cases h0 : n = 0
    · subst h0; simp [digs_zero]
    · rw [digs_pos n b hb h0]
      have : n / b < b ^ e := by
        rw [Nat.div_lt_iff_lt_mul (by omega)]
        rw [Nat.pow_succ] at hn; exact hn
      have := ih _ this
      simp; omega
theorem impl_digits_l0 (b : Nat) (hb : 2 ≤ b) (hb2 : b ≤ 4) (f : Nat) : ∀ (n : Nat) (acc : List Int), n ≤ f → n ≤ 4294967296 → acc.length + f ≤ 8589934592 →
    Ev (fun k => impl_digits.l0 k (n : Int) (b : Int) acc) (digs n b ++ acc.reverse) := by
  induction f with
  | zero =>
    intro n acc hn hn2 ha
    obtain rfl : n = 0 := by omega
    refine ev_succ ?_
    simp only [impl_digits.l0]
    refine ev_neg (by omega) (ev_bind (slices_Reverse_ev acc (by omega)) (ev_some ?_))
    simp [digs_zero]
  | succ f ih =>
    intro n acc hn hn2 ha
    refine ev_succ ?_
    simp only [impl_digits.l0, tdiv_nat, tmod_nat]
    by_cases h0 : n = 0
    · subst h0
      refine ev_neg (by omega) (ev_bind (slices_Reverse_ev acc (by omega)) (ev_some ?_))
      simp [digs_zero]
    · have hlt : n / b < n := Nat.div_lt_self (by omega) (by omega)
      rw [wr_nat (show n / b ≤ 4611686018427387904 by omega)]
      refine ev_pos (by omega) (ev_neg (by omega) (ev_pos (by omega) (ev_eq (ih (n / b) _ (by omega) (by omega) (by simp; omega)) ?_)))
      rw [digs_pos n b hb h0]; simp
theorem impl_digits_ev (n b : Nat) (hb : 2 ≤ b) (hb2 : b ≤ 4) (hn : n ≤ 4294967296) : Ev (fun k => impl_digits.f k (n : Int) (b : Int)) (digs n b) := by
  simp only [impl_digits.f]
  exact ev_eq (impl_digits_l0 b hb hb2 n n [] (Nat.le_refl _) hn (by simp; omega)) (by simp)
/-- the state behind some digits -/
def walkS (next : List (List Int)) (s : Int) : List Int → Int
  | [] => s
  | d :: l => walkS next (rd (rd_L1 next s) d) l
theorem walkS_append (next : List (List Int)) (l m : List Int) : ∀ s, walkS next s (l ++ m) = walkS next (walkS next s l) m := by
  induction l with
  | nil => intro s; rfl
  | cons d l ih => intro s; simp only [List.cons_append, walkS, ih]
theorem isSeq_facts {b : Int} {next : List (List Int)} {out : List Int} (h : isSeq b next out = true) : (2 ≤ b ∧ b ≤ 4) ∧ (1 ≤ next.length ∧ next.length ≤ 16) ∧ out.length = next.length ∧
    (∀ r ∈ next, (r.length : Int) = b ∧ ∀ x ∈ r, 0 ≤ x ∧ x < (next.length : Int)) ∧ ∀ x ∈ out, 0 ≤ x ∧ x ≤ 3 := by
  unfold isSeq at h
  simp only [Bool.and_eq_true, decide_eq_true_eq, List.all_eq_true] at h
  obtain ⟨⟨⟨⟨h1, h2⟩, h3⟩, h4⟩, h5⟩ := h
  refine ⟨h1, h2, h3, fun r hr => ?_, fun x hx => by simpa [outOk] using h5 x hx⟩
  have := h4 r hr
  simp only [seqRow, Bool.and_eq_true, decide_eq_true_eq, List.all_eq_true] at this
  exact ⟨this.1, fun x hx => by simpa [inR] using this.2 x hx⟩
theorem walk_step {b : Int} {next : List (List Int)} {out : List Int} (h : isSeq b next out = true) {s d : Int} (hs : 0 ≤ s ∧ s < (next.length : Int)) (hd : 0 ≤ d ∧ d < b) :
    d < ((rd_L1 next s).length : Int) ∧ 0 ≤ rd (rd_L1 next s) d ∧ rd (rd_L1 next s) d < (next.length : Int) := by
  obtain ⟨_, _, _, h4, _⟩ := isSeq_facts h
  obtain ⟨i, rfl⟩ := Int.eq_ofNat_of_zero_le hs.1
  obtain ⟨j, rfl⟩ := Int.eq_ofNat_of_zero_le hd.1
  have hr := h4 _ (rdLL_mem (show i < next.length by omega))
  exact ⟨by omega, hr.2 _ (rd_mem (by omega))⟩
theorem walkS_in {b : Int} {next : List (List Int)} {out : List Int} (h : isSeq b next out = true) : ∀ (l : List Int) (s : Int), 0 ≤ s ∧ s < (next.length : Int) → (∀ x ∈ l, 0 ≤ x ∧ x < b) → 0 ≤ walkS next s l ∧ walkS next s l < (next.length : Int) := by
  intro l
  induction l with
  | nil => intro s hs _; exact hs
  | cons d l ih =>
    intro s hs hl
    exact ih _ (walk_step h hs (hl d (by simp))).2 (fun x hx => hl x (by simp [hx]))
theorem impl_after_l0 {b : Int} {next : List (List Int)} {out : List Int} (h : isSeq b next out = true) (l : List Int) (hn : l.length ≤ 1048576) (hl : ∀ x ∈ l, 0 ≤ x ∧ x < b) (d : Nat) : ∀ (i : Nat) (s : Int), i + d = l.length → 0 ≤ s ∧ s < (next.length : Int) →
    Ev (fun k => impl_Sequence_after.l0 k s l (l.length : Int) (i : Int) b next out) (walkS next s (l.drop i)) := by
  induction d with
  | zero =>
    intro i s hi hs
    refine ev_succ ?_
    simp only [impl_Sequence_after.l0]
    refine ev_neg (by omega) (ev_some ?_)
    rw [List.drop_of_length_le (by omega)]; rfl
  | succ d ih =>
    intro i s hi hs
    have hd := hl _ (rd_mem (show i < l.length by omega))
    have hw := walk_step h hs hd
    refine ev_succ ?_
    simp only [impl_Sequence_after.l0, wr1 (show (0 : Int) ≤ (i : Int) by omega) (by omega)]
    rw [drop_rd (show i < l.length by omega)]
    exact ev_pos (by omega) (ev_pos (by omega) (ev_pos (by omega) (ev_pos hs.1 (ev_pos hs.2 (ev_pos hd.1 (ev_pos hw.1 (ih (i + 1) _ (by omega) hw.2)))))))
theorem impl_after_ev {b : Int} {next : List (List Int)} {out : List Int} (h : isSeq b next out = true) (l : List Int) (hn : l.length ≤ 1048576) (hl : ∀ x ∈ l, 0 ≤ x ∧ x < b) :
    Ev (fun k => impl_Sequence_after.f k b next out l) (walkS next 0 l) := by
  simp only [impl_Sequence_after.f]
  have := (isSeq_facts h).2.1
  exact impl_after_l0 h l hn hl l.length 0 0 (by omega) ⟨by omega, by omega⟩
def termN (b : Nat) (next : List (List Int)) (out : List Int) (n : Nat) : Int := rd out (walkS next 0 (digs n b))
theorem pow_bd {b e : Nat} (hb : b ≤ 4) (he : e ≤ 16) : b ^ e ≤ 4294967296 := by
  refine Nat.le_trans (Nat.pow_le_pow_left hb e) (Nat.le_trans (Nat.pow_le_pow_right (by omega) he) ?_)
  decide
theorem impl_term_ev {b : Nat} {next : List (List Int)} {out : List Int} (h : isSeq (b : Int) next out = true) (n : Nat) (hn : n < b ^ 16) : Ev (fun k => impl_Sequence_term.f k (b : Int) next out (n : Int)) (termN b next out n) := by
  obtain ⟨h1, h2, h3, h4, h5⟩ := isSeq_facts h
  have hp := pow_bd (show b ≤ 4 by omega) (show 16 ≤ 16 by omega)
  have hm := digs_mem b (by omega) n n (Nat.le_refl _)
  have hl := digs_len b (by omega) 16 n hn
  simp only [impl_Sequence_term.f]
  refine ev_bind (impl_digits_ev n b (by omega) (by omega) (by omega)) (ev_bind (impl_after_ev h _ (by omega) hm) ?_)
  have hw := walkS_in h (digs n b) 0 ⟨by omega, by omega⟩ hm
  exact ev_pos hw.1 (ev_pos (by omega) (ev_some rfl))
/-- how many of the first n terms are v -/
def cntT (b : Nat) (next : List (List Int)) (out : List Int) (v : Int) : Nat → Nat → Int
  | 0, _ => 0
  | d + 1, i => (if termN b next out i = v then 1 else 0) + cntT b next out v d (i + 1)
theorem cntT_bd (b : Nat) (next : List (List Int)) (out : List Int) (v : Int) (d : Nat) : ∀ i, 0 ≤ cntT b next out v d i ∧ cntT b next out v d i ≤ d := by
  induction d with
  | zero => intro i; simp [cntT]
  | succ d ih => intro i; have := ih (i + 1); simp only [cntT]; split <;> omega
def ctRes (b : Int) (next : List (List Int)) (out : List Int) (v n : Int) : Int := if isSeq b next out = true ∧ 0 ≤ n ∧ n ≤ 3000 then cntT b.toNat next out v n.toNat 0 else -1
theorem impl_CountTerms_l0 {b : Nat} {next : List (List Int)} {out : List Int} (h : isSeq (b : Int) next out = true) (v : Int) (n : Nat) (hn : n ≤ 3000) (d : Nat) : ∀ (i : Nat) (s : Int), i + d = n → 0 ≤ s → s ≤ i →
    Ev (fun k => impl_CountTerms.l0 k v s (n : Int) (i : Int) (b : Int) next out) (s + cntT b next out v d i) := by
  have hb := (isSeq_facts h).1
  have hp : 2 ^ 16 ≤ b ^ 16 := Nat.pow_le_pow_left (by omega) 16
  have hp2 : (2 : Nat) ^ 16 = 65536 := by decide
  induction d with
  | zero =>
    intro i s hi h0 h1
    refine ev_succ ?_
    simp only [impl_CountTerms.l0]
    exact ev_neg (by omega) (ev_some (by simp [cntT]))
  | succ d ih =>
    intro i s hi h0 h1
    refine ev_succ ?_
    simp only [impl_CountTerms.l0, oneIf_eq, beq_iff_eq]
    refine ev_pos (by omega) (ev_bind (impl_term_ev h i (by omega)) ?_)
    simp only [Option.bind_some, cntT]
    rw [wr (n := s + _) (by split <;> omega) (by split <;> omega), wr1 (by omega) (by omega), ← Int.add_assoc]
    exact ih (i + 1) _ (by omega) (by split <;> omega) (by split <;> omega)
theorem impl_CountTerms_ev (b : Int) (next : List (List Int)) (out : List Int) (v n : Int) (h1 : fit2 next) (h2 : fit1 out) : Ev (fun k => impl_CountTerms.f k b next out v n) (ctRes b next out v n) := by
  simp only [impl_CountTerms.f]
  have no : ∀ f : Bool, f = true → ¬ (isSeq b next out = true ∧ 0 ≤ n ∧ n ≤ 3000) → Ev (fun k => impl_CountTerms.j0 k v n f b next out) (ctRes b next out v n) := by
    intro f hf h
    subst hf
    refine ev_succ ?_
    simp only [impl_CountTerms.j0]
    exact ev_pos trivial (ev_some (by unfold ctRes; rw [if_neg h]))
  refine ev_bind (impl_IsSequence_ev b next out h1 h2) (ev_ite (fun h => ?_) (fun h => no _ rfl (fun h' => h h'.1)))
  refine ev_ite (fun h0 => no _ rfl (by omega)) (fun h0 => ?_)
  by_cases h3 : n > 3000
  · exact no _ (by simpa using h3) (by omega)
  · rw [decide_eq_false h3]
    refine ev_succ ?_
    simp only [impl_CountTerms.j0]
    unfold ctRes
    rw [if_pos ⟨h, by omega, by omega⟩]
    have hb := (isSeq_facts h).1
    obtain ⟨c, rfl⟩ := Int.eq_ofNat_of_zero_le (show 0 ≤ b by omega)
    obtain ⟨m, rfl⟩ := Int.eq_ofNat_of_zero_le (show 0 ≤ n by omega)
    exact ev_neg (by simp) (ev_eq (impl_CountTerms_l0 h v m (by omega) m 0 0 (by omega) (by omega) (by omega)) (by simp))


theorem spec_PowerOf_l0 (b e : Nat) (hb : b ≤ 4) (he : e ≤ 16) (d : Nat) : ∀ i : Nat, i + d = e → Ev (fun k => spec_PowerOf.l0 k (b : Int) (e : Int) ((b ^ i : Nat) : Int) (i : Int)) ((b ^ e : Nat) : Int) := by
  induction d with
  | zero =>
    intro i hi
    refine ev_succ ?_
    simp only [spec_PowerOf.l0]
    exact ev_neg (by omega) (ev_some (by rw [show i = e by omega]))
  | succ d ih =>
    intro i hi
    have := ih (i + 1) (by omega)
    have h1 := pow_bd hb (show i + 1 ≤ 16 by omega)
    refine ev_succ ?_
    simp only [spec_PowerOf.l0]
    rw [← Int.natCast_mul, ← Nat.pow_succ, wr_nat (show b ^ (i + 1) ≤ 4611686018427387904 by omega), wr1 (by omega) (by omega)]
    exact ev_pos (by omega) this
theorem spec_PowerOf16_ev (b : Nat) (hb1 : 2 ≤ b) (hb : b ≤ 4) : Ev (fun k => spec_PowerOf.f k (b : Int) 16) ((b ^ 16 : Nat) : Int) := by
  simp only [spec_PowerOf.f, l1In_eq, Option.bind_some]
  refine ev_pos (by simp; omega) (ev_succ ?_)
  simp only [spec_PowerOf.j0]
  refine ev_neg (by decide) ?_
  exact spec_PowerOf_l0 b 16 hb (Nat.le_refl _) 16 0 (by omega)
theorem spec_DigitsOf_l0 (b : Nat) (hb : 2 ≤ b) (hb2 : b ≤ 4) (f : Nat) : ∀ (n : Nat) (acc : List Int), n ≤ f → n ≤ 4294967296 → acc.length + f ≤ 8589934592 →
    Ev (fun k => spec_DigitsOf.l0 k (n : Int) (b : Int) acc) (digs n b ++ acc) := by
  induction f with
  | zero =>
    intro n acc hn hn2 ha
    obtain rfl : n = 0 := by omega
    refine ev_succ ?_
    simp only [spec_DigitsOf.l0]
    exact ev_neg (by omega) (ev_some (by simp [digs_zero]))
  | succ f ih =>
    intro n acc hn hn2 ha
    refine ev_succ ?_
    simp only [spec_DigitsOf.l0, tdiv_nat, tmod_nat, Option.bind_some]
    by_cases h0 : n = 0
    · subst h0
      exact ev_neg (by omega) (ev_some (by simp [digs_zero]))
    · have hlt : n / b < n := Nat.div_lt_self (by omega) (by omega)
      rw [wr_nat (show n / b ≤ 4611686018427387904 by omega)]
      refine ev_pos (by omega) (ev_neg (by omega) (ev_pos (by simp only [List.length_cons, List.length_nil]; omega) (ev_eq (ih (n / b) _ (by omega) (by omega) (by simp; omega)) ?_)))
      rw [digs_pos n b hb h0]; simp
theorem spec_DigitsOf_ev (n b : Nat) (hb : 2 ≤ b) (hb2 : b ≤ 4) (hn : n < b ^ 16) : Ev (fun k => spec_DigitsOf.f k (n : Int) (b : Int)) (digs n b) := by
  have hp := pow_bd hb2 (show 16 ≤ 16 by omega)
  simp only [spec_DigitsOf.f, l1In_eq, Option.bind_some]
  refine ev_neg (by omega) (ev_pos (by simp; omega) (ev_bind (spec_PowerOf16_ev b hb hb2) ?_))
  rw [decide_eq_false (by omega)]
  refine ev_succ ?_
  simp only [spec_DigitsOf.j0]
  exact ev_neg (by simp) (ev_eq (spec_DigitsOf_l0 b hb hb2 n n [] (Nat.le_refl _) (by omega) (by simp; omega)) (by simp))
theorem spec_AreDigits_l0 (l : List Int) (b : Int) (hb : 2 ≤ b ∧ b ≤ 4) (hl : ∀ x ∈ l, 0 ≤ x ∧ x < b) (hn : l.length ≤ 16) (d : Nat) : ∀ (i : Nat), i + d = l.length → Ev (fun k => spec_AreDigits.l0 k l b (i : Int)) true := by
  induction d with
  | zero =>
    intro i hi
    refine ev_succ ?_
    simp only [spec_AreDigits.l0, l1In_eq, Option.bind_some]
    exact ev_neg (by omega) (ev_pos (by simpa using hb) (ev_some (by simp; omega)))
  | succ d ih =>
    intro i hi
    have hd := hl _ (rd_mem (show i < l.length by omega))
    refine ev_succ ?_
    simp only [spec_AreDigits.l0, wr1 (show (0 : Int) ≤ (i : Int) by omega) (by omega)]
    exact ev_pos (by omega) (ev_pos (by omega) (ev_neg (by omega) (ev_neg (by omega) (ih (i + 1) (by omega)))))
theorem spec_after_l0 {b : Int} {next : List (List Int)} {out : List Int} (h : isSeq b next out = true) (l : List Int) (hn : l.length ≤ 1048576) (hl : ∀ x ∈ l, 0 ≤ x ∧ x < b) (d : Nat) : ∀ (i : Nat) (s : Int), i + d = l.length → 0 ≤ s ∧ s < (next.length : Int) →
    Ev (fun k => spec_StateAfter.l0 k l s (i : Int) b next out) (walkS next s (l.drop i)) := by
  induction d with
  | zero =>
    intro i s hi hs
    refine ev_succ ?_
    simp only [spec_StateAfter.l0]
    refine ev_neg (by omega) (ev_some ?_)
    rw [List.drop_of_length_le (by omega)]; rfl
  | succ d ih =>
    intro i s hi hs
    have hd := hl _ (rd_mem (show i < l.length by omega))
    have hw := walk_step h hs hd
    refine ev_succ ?_
    simp only [spec_StateAfter.l0, wr1 (show (0 : Int) ≤ (i : Int) by omega) (by omega)]
    rw [drop_rd (show i < l.length by omega)]
    exact ev_pos (by omega) (ev_pos hs.1 (ev_pos hs.2 (ev_pos (by omega) (ev_pos hd.1 (ev_pos hw.1 (ih (i + 1) _ (by omega) hw.2))))))
theorem spec_StateAfter_ev {b : Int} {next : List (List Int)} {out : List Int} (h : isSeq b next out = true) (h1 : fit2 next) (h2 : fit1 out) (l : List Int) (hn : l.length ≤ 16) (hl : ∀ x ∈ l, 0 ≤ x ∧ x < b) :
    Ev (fun k => spec_StateAfter.f k b next out l) (walkS next 0 l) := by
  simp only [spec_StateAfter.f, spec_AreDigits.f]
  have hb := (isSeq_facts h).1
  have hm := (isSeq_facts h).2.1
  refine ev_bind (spec_IsSequence_ev b next out h1 h2) (ev_pos h (ev_bind (spec_AreDigits_l0 l b hb hl hn l.length 0 (by omega)) (ev_succ ?_)))
  simp only [spec_StateAfter.j0]
  exact ev_neg (by simp) (spec_after_l0 h l (by omega) hl l.length 0 0 (by omega) ⟨by omega, by omega⟩)
theorem spec_TermAt_ev {b : Nat} {next : List (List Int)} {out : List Int} (h : isSeq (b : Int) next out = true) (h1 : fit2 next) (h2 : fit1 out) (n : Nat) (hn : n < b ^ 16) : Ev (fun k => spec_TermAt.f k (b : Int) next out (n : Int)) (termN b next out n) := by
  obtain ⟨g1, g2, g3, g4, g5⟩ := isSeq_facts h
  have hm := digs_mem b (by omega) n n (Nat.le_refl _)
  have hl := digs_len b (by omega) 16 n hn
  simp only [spec_TermAt.f]
  refine ev_neg (by omega) (ev_bind (spec_IsSequence_ev _ next out h1 h2) (ev_pos h (ev_bind (spec_PowerOf16_ev b (by omega) (by omega)) ?_)))
  rw [decide_eq_false (by omega)]
  refine ev_succ ?_
  simp only [spec_TermAt.j0]
  refine ev_neg (by simp) (ev_bind (spec_DigitsOf_ev n b (by omega) (by omega) hn) (ev_bind (spec_StateAfter_ev h h1 h2 _ hl hm) ?_))
  have hw := walkS_in h (digs n b) 0 ⟨by omega, by omega⟩ hm
  exact ev_pos hw.1 (ev_pos (by omega) (ev_some rfl))
theorem spec_CountTerms_l0 {b : Nat} {next : List (List Int)} {out : List Int} (h : isSeq (b : Int) next out = true) (h1 : fit2 next) (h2 : fit1 out) (v : Int) (n : Nat) (hn : n ≤ 3000) (d : Nat) : ∀ (i : Nat) (s : Int), i + d = n → 0 ≤ s → s ≤ i →
    Ev (fun k => spec_CountTerms.l0 k v (n : Int) s (i : Int) (b : Int) next out) (s + cntT b next out v d i) := by
  have hb := (isSeq_facts h).1
  have hp : 2 ^ 16 ≤ b ^ 16 := Nat.pow_le_pow_left (by omega) 16
  have hp2 : (2 : Nat) ^ 16 = 65536 := by decide
  induction d with
  | zero =>
    intro i s hi h0 h1'
    refine ev_succ ?_
    simp only [spec_CountTerms.l0]
    exact ev_neg (by omega) (ev_some (by simp [cntT]))
  | succ d ih =>
    intro i s hi h0 h1'
    refine ev_succ ?_
    simp only [spec_CountTerms.l0, wr1 (show (0 : Int) ≤ (i : Int) by omega) (by omega), wr1 h0 (by omega)]
    refine ev_pos (by omega) (ev_bind (spec_TermAt_ev h h1 h2 i (by omega)) ?_)
    simp only [cntT]
    refine ev_ite (fun he => ev_eq (ih (i + 1) (s + 1) (by omega) (by omega) (by omega)) ?_) (fun he => ev_eq (ih (i + 1) s (by omega) (by omega) (by omega)) ?_)
    · rw [if_pos he]; omega
    · rw [if_neg he]; omega
theorem spec_CountTerms_ev (b : Int) (next : List (List Int)) (out : List Int) (v n : Int) (h1 : fit2 next) (h2 : fit1 out) : Ev (fun k => spec_CountTerms.f k b next out v n) (ctRes b next out v n) := by
  simp only [spec_CountTerms.f, l1In_eq, Option.bind_some]
  have no : ∀ f : Bool, f = true → ¬ (isSeq b next out = true ∧ 0 ≤ n ∧ n ≤ 3000) → Ev (fun k => spec_CountTerms.j0 k v n f b next out) (ctRes b next out v n) := by
    intro f hf h
    subst hf
    refine ev_succ ?_
    simp only [spec_CountTerms.j0]
    exact ev_pos trivial (ev_some (by unfold ctRes; rw [if_neg h]))
  refine ev_bind (spec_IsSequence_ev b next out h1 h2) (ev_ite (fun h => ?_) (fun h => no _ rfl (fun h' => h h'.1)))
  by_cases h3 : 0 ≤ n ∧ n ≤ 3000
  · rw [decide_eq_true h3]
    refine ev_succ ?_
    simp only [spec_CountTerms.j0]
    unfold ctRes
    rw [if_pos ⟨h, h3⟩]
    have hb := (isSeq_facts h).1
    obtain ⟨c, rfl⟩ := Int.eq_ofNat_of_zero_le (show 0 ≤ b by omega)
    obtain ⟨m, rfl⟩ := Int.eq_ofNat_of_zero_le h3.1
    exact ev_neg (by simp) (ev_eq (spec_CountTerms_l0 h h1 h2 v m (by omega) m 0 0 (by omega) (by omega) (by omega)) (by simp))
  · rw [decide_eq_false h3]
    exact no _ rfl (fun h' => h3 h'.2)


-- SAY: For every sequence, letter and number the program's CountTerms answers what the reference's answers, and leaves its arguments alone. No conditions beyond the given statement.
theorem FnExactCountTerms : ∀ (b : Int) (next : List (List Int)) (out : List Int) (v n : Int), next.length ≤ 9223372036854775807 → (∀ r ∈ next, r.length ≤ 9223372036854775807) → out.length ≤ 9223372036854775807 →
    ∃ k, laws_FnExactCountTerms.f k b next out v n = some true := by
  intro b next out v n h2 h3 h4
  refine Ev.rounds (g := fun k => laws_FnExactCountTerms.f k b next out v n) ?_
  simp only [laws_FnExactCountTerms.f]
  obtain ⟨m, hm, hm1, hm2⟩ := szSequence_tot b next out h2 h3 h4 1048576 (by omega) (by omega)
  refine ev_bind hm (ev_ite (fun h => ev_some rfl) (fun h => ?_))
  obtain ⟨f2, f3⟩ := hm2 (by omega)
  refine ev_bind (toSequence_ev b next out f2 f3) (ev_bind (spec_CountTerms_ev b next out v n f2 f3) ?_)
  refine ev_bind (toSequence_ev b next out f2 f3) (ev_bind (impl_CountTerms_ev b next out v n f2 f3) (ev_pos rfl ?_))
  exact ev_bind (toSequence_ev b next out f2 f3) (ev_bind (eqSequence_ev b next out f2 f3) (ev_pos rfl (ev_some rfl)))


end Go.Proofs.Ytpmgiinfdfddbaa.Pure
