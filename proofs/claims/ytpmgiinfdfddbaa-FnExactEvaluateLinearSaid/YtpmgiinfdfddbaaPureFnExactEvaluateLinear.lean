/- For every linear form and number the program's EvaluateLinear answers what the reference's answers, and leaves its arguments alone. No conditions beyond the given statement. -/
import Derived.Test.YtpmgiinfdfddbaaPFnExactEvaluateLinearx9
set_option linter.unusedVariables false
set_option linter.unusedSimpArgs false
namespace Go.Proofs.Ytpmgiinfdfddbaa.Pure
open Go.RowKit Go.Proofs.Ytpmgiinfdfddbaa.PFnExactEvaluateLinear Go.Proofs.YtpmgiinfdfddbaaW.PrintWords Go.Proofs.YtpmgiinfdfddbaaW.PrintLast

theorem ev_succ {α : Type} {g : Nat → Option α} {r : α} (h : Ev (fun k => g (k + 1)) r) : Ev g r := Ev.step (fun _ => rfl) h
theorem ev_some {α : Type} {r r' : α} (h : r = r') : Ev (fun _ => some r) r' := by subst h; exact Ev.now r
theorem ev_pos {α : Type} {c : Prop} [Decidable c] {g f : Nat → Option α} {r : α} (hc : c) (h : Ev g r) : Ev (fun k => if c then g k else f k) r := by
  simp only [if_pos hc]; exact h
theorem ev_neg {α : Type} {c : Prop} [Decidable c] {g f : Nat → Option α} {r : α} (hc : ¬ c) (h : Ev f r) : Ev (fun k => if c then g k else f k) r := by
  simp only [if_neg hc]; exact h
theorem ev_ite {α : Type} {c : Prop} [Decidable c] {g f : Nat → Option α} {r : α} (h : c → Ev g r) (h' : ¬ c → Ev f r) : Ev (fun k => if c then g k else f k) r := by
  by_cases hc : c
  · exact ev_pos hc (h hc)
  · exact ev_neg hc (h' hc)
theorem ev_bind {α β : Type} {g : Nat → Option α} {f : Nat → α → Option β} {a : α} {r : β} (h : Ev g a) (k : Ev (fun n => f n a) r) : Ev (fun n => (g n).bind (f n)) r := Ev.bind h k
theorem ev_bind0 {α β : Type} {o : Option α} {f : Nat → α → Option β} {a : α} {r : β} (h : o = some a) (k : Ev (fun n => f n a) r) : Ev (fun n => o.bind (f n)) r := by
  subst h; exact k
theorem ev_eq {α : Type} {g : Nat → Option α} {r r' : α} (h : Ev g r) (e : r = r') : Ev g r' := e ▸ h
theorem ev_const {α : Type} {o : Option α} {r : α} (h : o = some r) : Ev (fun _ => o) r := by subst h; exact Ev.now r
theorem wr {n : Int} (h0 : -9223372036854775808 ≤ n) (h1 : n ≤ 9223372036854775807) : wrap64 n = n := by unfold wrap64; omega
theorem wr1 {i : Int} (h0 : 0 ≤ i) (h1 : i ≤ 4611686018427387904) : wrap64 (i + 1) = i + 1 := wr (by omega) (by omega)
theorem wr_nat {n : Nat} (h : n ≤ 4611686018427387904) : wrap64 (n : Int) = n := wr (by omega) (by omega)
theorem rd_nat (l : List Int) (i : Nat) : rd l (i : Int) = l.getD i 0 := by simp [rd]
theorem rd_get {l : List Int} {i : Nat} (h : i < l.length) : rd l (i : Int) = l[i] := by
  simp [rd, List.getD_eq_getElem?_getD, List.getElem?_eq_getElem h]
theorem drop_rd {l : List Int} {i : Nat} (h : i < l.length) : l.drop i = rd l (i : Int) :: l.drop (i + 1) := by
  rw [rd_get h]; exact List.drop_eq_getElem_cons h
theorem rd_mem {l : List Int} {i : Nat} (h : i < l.length) : rd l (i : Int) ∈ l := by rw [rd_get h]; exact List.getElem_mem h


theorem toIntS_l0 (l : List Int) (hn : l.length ≤ 4611686018427387904) (d : Nat) : ∀ (i : Nat) (x : List Int), i + d = l.length → x.length = l.length → (∀ j, j < i → x[j]? = l[j]?) →
    Ev (fun k => laws_toIntS.l0 k l x (i : Int)) l := by
  induction d with
  | zero =>
    intro i x hi hx hj
    refine ev_succ ?_
    simp only [laws_toIntS.l0]
    refine ev_neg (by omega) (ev_some ?_)
    apply List.ext_getElem?
    intro j
    by_cases h : j < i
    · exact hj j h
    · rw [List.getElem?_eq_none (by omega), List.getElem?_eq_none (by omega)]
  | succ d ih =>
    intro i x hi hx hj
    refine ev_succ ?_
    simp only [laws_toIntS.l0, wr1 (show (0 : Int) ≤ (i : Int) by omega) (by omega)]
    refine ev_pos (by omega) (ev_pos (by omega) (ev_pos (by omega) ?_))
    refine ih (i + 1) _ (by omega) (by simp [hx]) ?_
    intro j hj'
    rw [Int.toNat_natCast, rd_get (by omega), List.getElem?_set]
    by_cases e : i = j
    · subst e
      rw [if_pos rfl, if_pos (by omega), List.getElem?_eq_getElem (by omega)]
    · rw [if_neg e]; exact hj j (by omega)
theorem toIntS_ev (l : List Int) (hn : l.length ≤ 35184372088832) : Ev (fun k => laws_toIntS.f k l) l := by
  simp only [laws_toIntS.f]
  refine ev_pos (by omega) (ev_pos (by omega) ?_)
  exact toIntS_l0 l (by omega) l.length 0 _ (by omega) (by simp) (by intro j hj; omega)


theorem eqIntS_l0 (l : List Int) (hn : l.length ≤ 4611686018427387904) (d : Nat) : ∀ (i : Nat), i + d = l.length → Ev (fun k => laws_eqIntS.l0 k l l (i : Int)) true := by
  induction d with
  | zero =>
    intro i hi
    refine ev_succ ?_
    simp only [laws_eqIntS.l0]
    exact ev_neg (by omega) (ev_some rfl)
  | succ d ih =>
    intro i hi
    refine ev_succ ?_
    simp only [laws_eqIntS.l0, wr1 (show (0 : Int) ≤ (i : Int) by omega) (by omega)]
    exact ev_pos (by omega) (ev_pos (by omega) (ev_pos (by omega) (ev_pos trivial (ih (i + 1) (by omega)))))
theorem eqIntS_ev (l : List Int) (hn : l.length ≤ 4611686018427387904) : Ev (fun k => laws_eqIntS.f k l l) true := by
  simp only [laws_eqIntS.f]
  exact ev_pos trivial (eqIntS_l0 l hn l.length 0 (by omega))


theorem rdLL_at {l : List (List Int)} {i : Nat} (h : i < l.length) : rd_L1 l (i : Int) = l[i] := by
  simp [rd_L1, List.getD_eq_getElem?_getD, List.getElem?_eq_getElem h]
theorem drop_rdLL {l : List (List Int)} {i : Nat} (h : i < l.length) : l.drop i = rd_L1 l (i : Int) :: l.drop (i + 1) := by
  rw [rdLL_at h]; exact List.drop_eq_getElem_cons h
theorem rdLL_mem {l : List (List Int)} {i : Nat} (h : i < l.length) : rd_L1 l (i : Int) ∈ l := by rw [rdLL_at h]; exact List.getElem_mem h
theorem rdLLL_at {l : List (List (List Int))} {i : Nat} (h : i < l.length) : rd_L2 l (i : Int) = l[i] := by
  simp [rd_L2, List.getD_eq_getElem?_getD, List.getElem?_eq_getElem h]
theorem drop_rdLLL {l : List (List (List Int))} {i : Nat} (h : i < l.length) : l.drop i = rd_L2 l (i : Int) :: l.drop (i + 1) := by
  rw [rdLLL_at h]; exact List.drop_eq_getElem_cons h
theorem rdLLL_mem {l : List (List (List Int))} {i : Nat} (h : i < l.length) : rd_L2 l (i : Int) ∈ l := by rw [rdLLL_at h]; exact List.getElem_mem h
/-- all rows are short -/
def fit1 (l : List Int) : Prop := l.length ≤ 1048576
def fit2 (l : List (List Int)) : Prop := l.length ≤ 1048576 ∧ ∀ r ∈ l, fit1 r
def fit3 (l : List (List (List Int))) : Prop := l.length ≤ 1048576 ∧ ∀ m ∈ l, fit2 m
theorem toIntSS_l0 (l : List (List Int)) (hf : fit2 l) (d : Nat) : ∀ (i : Nat) (x : List (List Int)), i + d = l.length → x.length = l.length → (∀ j, j < i → x[j]? = l[j]?) →
    Ev (fun k => laws_toIntSS.l0 k l x (i : Int)) l := by
  have hn := hf.1
  induction d with
  | zero =>
    intro i x hi hx hj
    refine ev_succ ?_
    simp only [laws_toIntSS.l0]
    refine ev_neg (by omega) (ev_some ?_)
    apply List.ext_getElem?
    intro j
    by_cases h : j < i
    · exact hj j h
    · rw [List.getElem?_eq_none (by omega), List.getElem?_eq_none (by omega)]
  | succ d ih =>
    intro i x hi hx hj
    refine ev_succ ?_
    simp only [laws_toIntSS.l0, wr1 (show (0 : Int) ≤ (i : Int) by omega) (by omega)]
    have hr := hf.2 _ (rdLL_mem (show i < l.length by omega))
    unfold fit1 at hr
    refine ev_pos (by omega) (ev_pos (by omega) (ev_bind (toIntS_ev _ (by omega)) (ev_pos (by omega) ?_)))
    refine ih (i + 1) _ (by omega) (by simp [hx]) ?_
    intro j hj'
    rw [Int.toNat_natCast, rdLL_at (by omega), List.getElem?_set]
    by_cases e : i = j
    · subst e
      rw [if_pos rfl, if_pos (by omega), List.getElem?_eq_getElem (by omega)]
    · rw [if_neg e]; exact hj j (by omega)
theorem toIntSS_ev (l : List (List Int)) (hf : fit2 l) : Ev (fun k => laws_toIntSS.f k l) l := by
  have hn := hf.1
  simp only [laws_toIntSS.f]
  refine ev_pos (by omega) (ev_pos (by omega) ?_)
  exact toIntSS_l0 l hf l.length 0 _ (by omega) (by simp) (by intro j hj; omega)
theorem toIntSSS_l0 (l : List (List (List Int))) (hf : fit3 l) (d : Nat) : ∀ (i : Nat) (x : List (List (List Int))), i + d = l.length → x.length = l.length → (∀ j, j < i → x[j]? = l[j]?) →
    Ev (fun k => laws_toIntSSS.l0 k l x (i : Int)) l := by
  have hn := hf.1
  induction d with
  | zero =>
    intro i x hi hx hj
    refine ev_succ ?_
    simp only [laws_toIntSSS.l0]
    refine ev_neg (by omega) (ev_some ?_)
    apply List.ext_getElem?
    intro j
    by_cases h : j < i
    · exact hj j h
    · rw [List.getElem?_eq_none (by omega), List.getElem?_eq_none (by omega)]
  | succ d ih =>
    intro i x hi hx hj
    refine ev_succ ?_
    simp only [laws_toIntSSS.l0, wr1 (show (0 : Int) ≤ (i : Int) by omega) (by omega)]
    have hr := hf.2 _ (rdLLL_mem (show i < l.length by omega))
    refine ev_pos (by omega) (ev_pos (by omega) (ev_bind (toIntSS_ev _ hr) (ev_pos (by omega) ?_)))
    refine ih (i + 1) _ (by omega) (by simp [hx]) ?_
    intro j hj'
    rw [Int.toNat_natCast, rdLLL_at (by omega), List.getElem?_set]
    by_cases e : i = j
    · subst e
      rw [if_pos rfl, if_pos (by omega), List.getElem?_eq_getElem (by omega)]
    · rw [if_neg e]; exact hj j (by omega)
theorem toIntSSS_ev (l : List (List (List Int))) (hf : fit3 l) : Ev (fun k => laws_toIntSSS.f k l) l := by
  have hn := hf.1
  simp only [laws_toIntSSS.f]
  refine ev_pos (by omega) (ev_pos (by omega) ?_)
  exact toIntSSS_l0 l hf l.length 0 _ (by omega) (by simp) (by intro j hj; omega)
theorem eqIntSS_l0 (l : List (List Int)) (hf : fit2 l) (d : Nat) : ∀ (i : Nat), i + d = l.length → Ev (fun k => laws_eqIntSS.l0 k l l (i : Int)) true := by
  have hn := hf.1
  induction d with
  | zero =>
    intro i hi
    refine ev_succ ?_
    simp only [laws_eqIntSS.l0]
    exact ev_neg (by omega) (ev_some rfl)
  | succ d ih =>
    intro i hi
    have hr := hf.2 _ (rdLL_mem (show i < l.length by omega))
    unfold fit1 at hr
    refine ev_succ ?_
    simp only [laws_eqIntSS.l0, wr1 (show (0 : Int) ≤ (i : Int) by omega) (by omega)]
    exact ev_pos (by omega) (ev_pos (by omega) (ev_pos (by omega) (ev_bind (eqIntS_ev _ (by omega)) (ev_pos rfl (ih (i + 1) (by omega))))))
theorem eqIntSS_ev (l : List (List Int)) (hf : fit2 l) : Ev (fun k => laws_eqIntSS.f k l l) true := by
  simp only [laws_eqIntSS.f]
  exact ev_pos trivial (eqIntSS_l0 l hf l.length 0 (by omega))
theorem eqIntSSS_l0 (l : List (List (List Int))) (hf : fit3 l) (d : Nat) : ∀ (i : Nat), i + d = l.length → Ev (fun k => laws_eqIntSSS.l0 k l l (i : Int)) true := by
  have hn := hf.1
  induction d with
  | zero =>
    intro i hi
    refine ev_succ ?_
    simp only [laws_eqIntSSS.l0]
    exact ev_neg (by omega) (ev_some rfl)
  | succ d ih =>
    intro i hi
    have hr := hf.2 _ (rdLLL_mem (show i < l.length by omega))
    refine ev_succ ?_
    simp only [laws_eqIntSSS.l0, wr1 (show (0 : Int) ≤ (i : Int) by omega) (by omega)]
    exact ev_pos (by omega) (ev_pos (by omega) (ev_pos (by omega) (ev_bind (eqIntSS_ev _ hr) (ev_pos rfl (ih (i + 1) (by omega))))))
theorem eqIntSSS_ev (l : List (List (List Int))) (hf : fit3 l) : Ev (fun k => laws_eqIntSSS.f k l l) true := by
  simp only [laws_eqIntSSS.f]
  exact ev_pos trivial (eqIntSSS_l0 l hf l.length 0 (by omega))


/-- g tells some answer of which P is known -/
def Tot {α : Type} (g : Nat → Option α) (P : α → Prop) : Prop := ∃ r, Ev g r ∧ P r
theorem tot_of {α : Type} {g : Nat → Option α} {P : α → Prop} {r : α} (h : Ev g r) (hp : P r) : Tot g P := ⟨r, h, hp⟩
theorem tot_some {α : Type} {r : α} {P : α → Prop} (h : P r) : Tot (fun _ => some r) P := ⟨r, Ev.now r, h⟩
theorem tot_bind {α β : Type} {g : Nat → Option α} {f : Nat → α → Option β} {P : α → Prop} {Q : β → Prop} (h : Tot g P) (k : ∀ a, P a → Tot (fun n => f n a) Q) : Tot (fun n => (g n).bind (f n)) Q := by
  obtain ⟨a, ha, hp⟩ := h
  obtain ⟨r, hr, hq⟩ := k a hp
  exact ⟨r, Ev.bind ha hr, hq⟩
theorem tot_bind0 {α β : Type} {o : Option α} {f : Nat → α → Option β} {P : α → Prop} {Q : β → Prop} (h : ∃ a, o = some a ∧ P a) (k : ∀ a, P a → Tot (fun n => f n a) Q) : Tot (fun n => o.bind (f n)) Q := by
  obtain ⟨a, ha, hp⟩ := h
  subst ha
  exact k a hp
theorem tot_pos {α : Type} {c : Prop} [Decidable c] {g f : Nat → Option α} {P : α → Prop} (hc : c) (h : Tot g P) : Tot (fun k => if c then g k else f k) P := by
  simp only [if_pos hc]; exact h
theorem tot_neg {α : Type} {c : Prop} [Decidable c] {g f : Nat → Option α} {P : α → Prop} (hc : ¬ c) (h : Tot f P) : Tot (fun k => if c then g k else f k) P := by
  simp only [if_neg hc]; exact h
theorem tot_ite {α : Type} {c : Prop} [Decidable c] {g f : Nat → Option α} {P : α → Prop} (h : c → Tot g P) (h' : ¬ c → Tot f P) : Tot (fun k => if c then g k else f k) P := by
  by_cases hc : c
  · exact tot_pos hc (h hc)
  · exact tot_neg hc (h' hc)
theorem tot_succ {α : Type} {g : Nat → Option α} {P : α → Prop} (h : Tot (fun k => g (k + 1)) P) : Tot g P := by
  obtain ⟨r, hr, hp⟩ := h
  exact ⟨r, ev_succ hr, hp⟩
theorem tot_mono {α : Type} {g : Nat → Option α} {P Q : α → Prop} (h : Tot g P) (k : ∀ a, P a → Q a) : Tot g Q := by
  obtain ⟨r, hr, hp⟩ := h
  exact ⟨r, hr, k r hp⟩
theorem bits_and_le (x : Int) (m : Nat) (hm : m < 4611686018427387904) : 0 ≤ Go.bits .and .i64 x (m : Int) ∧ Go.bits .and .i64 x (m : Int) ≤ m := by
  have h : ∀ n : Nat, n ≤ m → IntKind.i64.wrap (n : Int) = n := by
    intro n hn
    simp only [IntKind.wrap, IntKind.bits, IntKind.signed, Bool.true_and, decide_eq_true_eq]
    split
    · rename_i h
      have e : (2 : Int) ^ (64 - 1) = 9223372036854775808 := by decide
      have h2 : (n : Int) % 2 ^ 64 ≥ 2 ^ (64 - 1) := of_decide_eq_true h
      rw [e] at h2
      omega
    · omega
  simp only [Go.bits]
  have hb : (BitVec.ofInt IntKind.i64.bits (m : Int)).toNat = m := by
    simp only [BitVec.ofInt_natCast, BitVec.toNat_ofNat, IntKind.bits]
    exact Nat.mod_eq_of_lt (by omega)
  have hle : ((BitVec.ofInt IntKind.i64.bits x) &&& (BitVec.ofInt IntKind.i64.bits (m : Int))).toNat ≤ m := by
    rw [BitVec.toNat_and, hb]; exact Nat.and_le_right
  rw [h _ hle]
  omega
/-- a cursor's place and hash: the place is no negative number -/
def curOk (b : List Int) (i : Int) : Prop := 0 ≤ i ∧ b.length ≤ 1048576

/-- what the size's count tells: either it is used up, or what was counted fits -/
theorem szIntS_tot (l : List Int) (hl : l.length ≤ 9223372036854775807) (n : Int) (h0 : 0 ≤ n) (h1 : n ≤ 1048576) : ∃ r, laws_szIntS.f l n = some r ∧ r ≤ 1048576 ∧ (0 ≤ r → fit1 l) := by
  unfold laws_szIntS.f
  rw [wr (by omega) (by omega)]
  split
  · exact ⟨_, rfl, by omega, fun h => absurd h (by omega)⟩
  · exact ⟨_, rfl, by omega, fun _ => by unfold fit1; omega⟩
theorem szIntSS_l0 (l : List (List Int)) (hn : l.length ≤ 1048576) (hl : ∀ r ∈ l, r.length ≤ 9223372036854775807) (d : Nat) : ∀ (i : Nat) (n : Int), i + d = l.length → 0 ≤ n → n ≤ 1048576 → (∀ r ∈ l.take i, fit1 r) →
    Tot (fun k => laws_szIntSS.l0 k l n (i : Int)) (fun r => r ≤ 1048576 ∧ (0 ≤ r → fit2 l)) := by
  induction d with
  | zero =>
    intro i n hi h0 h1 hf
    refine tot_succ ?_
    simp only [laws_szIntSS.l0]
    rw [List.take_of_length_le (by omega)] at hf
    exact tot_neg (by omega) (tot_some ⟨h1, fun _ => ⟨hn, hf⟩⟩)
  | succ d ih =>
    intro i n hi h0 h1 hf
    refine tot_succ ?_
    simp only [laws_szIntSS.l0, wr1 (show (0 : Int) ≤ (i : Int) by omega) (by omega)]
    refine tot_pos (by omega) (tot_pos (by omega) (tot_bind0 (szIntS_tot _ (hl _ (rdLL_mem (show i < l.length by omega))) n h0 h1) (fun r hr => ?_)))
    refine tot_ite (fun h => tot_some ⟨by omega, fun h => absurd h (by omega)⟩) (fun h => ih (i + 1) r (by omega) (by omega) hr.1 ?_)
    intro x hx
    rw [List.take_succ_eq_append_getElem (by omega), ← rdLL_at (by omega), List.mem_append] at hx
    rcases hx with hx | hx
    · exact hf x hx
    · simp only [List.mem_cons, List.not_mem_nil, or_false] at hx
      rw [hx]; exact hr.2 (by omega)
theorem szIntSS_tot (l : List (List Int)) (hn : l.length ≤ 9223372036854775807) (hl : ∀ r ∈ l, r.length ≤ 9223372036854775807) (n : Int) (h0 : 0 ≤ n) (h1 : n ≤ 1048576) :
    Tot (fun k => laws_szIntSS.f k l n) (fun r => r ≤ 1048576 ∧ (0 ≤ r → fit2 l)) := by
  simp only [laws_szIntSS.f]
  rw [wr (by omega) (by omega)]
  refine tot_ite (fun h => tot_some ⟨by omega, fun h => absurd h (by omega)⟩) (fun h => ?_)
  exact szIntSS_l0 l (by omega) hl l.length 0 _ (by omega) (by omega) (by omega) (by simp)
theorem szIntSSS_l0 (l : List (List (List Int))) (hn : l.length ≤ 1048576) (hl : ∀ m ∈ l, m.length ≤ 9223372036854775807 ∧ ∀ r ∈ m, r.length ≤ 9223372036854775807) (d : Nat) : ∀ (i : Nat) (n : Int), i + d = l.length → 0 ≤ n → n ≤ 1048576 → (∀ r ∈ l.take i, fit2 r) →
    Tot (fun k => laws_szIntSSS.l0 k l n (i : Int)) (fun r => r ≤ 1048576 ∧ (0 ≤ r → fit3 l)) := by
  induction d with
  | zero =>
    intro i n hi h0 h1 hf
    refine tot_succ ?_
    simp only [laws_szIntSSS.l0]
    rw [List.take_of_length_le (by omega)] at hf
    exact tot_neg (by omega) (tot_some ⟨h1, fun _ => ⟨hn, hf⟩⟩)
  | succ d ih =>
    intro i n hi h0 h1 hf
    refine tot_succ ?_
    simp only [laws_szIntSSS.l0, wr1 (show (0 : Int) ≤ (i : Int) by omega) (by omega)]
    have hm := hl _ (rdLLL_mem (show i < l.length by omega))
    refine tot_pos (by omega) (tot_pos (by omega) (tot_bind (szIntSS_tot _ hm.1 hm.2 n h0 h1) (fun r hr => ?_)))
    refine tot_ite (fun h => tot_some ⟨by omega, fun h => absurd h (by omega)⟩) (fun h => ih (i + 1) r (by omega) (by omega) hr.1 ?_)
    intro x hx
    rw [List.take_succ_eq_append_getElem (by omega), ← rdLLL_at (by omega), List.mem_append] at hx
    rcases hx with hx | hx
    · exact hf x hx
    · simp only [List.mem_cons, List.not_mem_nil, or_false] at hx
      rw [hx]; exact hr.2 (by omega)
theorem szIntSSS_tot (l : List (List (List Int))) (hn : l.length ≤ 9223372036854775807) (hl : ∀ m ∈ l, m.length ≤ 9223372036854775807 ∧ ∀ r ∈ m, r.length ≤ 9223372036854775807) (n : Int) (h0 : 0 ≤ n) (h1 : n ≤ 1048576) :
    Tot (fun k => laws_szIntSSS.f k l n) (fun r => r ≤ 1048576 ∧ (0 ≤ r → fit3 l)) := by
  simp only [laws_szIntSSS.f]
  rw [wr (by omega) (by omega)]
  refine tot_ite (fun h => tot_some ⟨by omega, fun h => absurd h (by omega)⟩) (fun h => ?_)
  exact szIntSSS_l0 l (by omega) hl l.length 0 _ (by omega) (by omega) (by omega) (by simp)
theorem szLinear_tot (b : Int) (row : List Int) (mats : List (List (List Int))) (col : List Int) (h1 : row.length ≤ 9223372036854775807) (h2 : mats.length ≤ 9223372036854775807) (h3 : ∀ m ∈ mats, m.length ≤ 9223372036854775807 ∧ ∀ r ∈ m, r.length ≤ 9223372036854775807) (h4 : col.length ≤ 9223372036854775807)
    (n : Int) (h0 : 0 ≤ n) (hn : n ≤ 1048576) : Tot (fun k => laws_szLinear.f k b row mats col n) (fun r => r ≤ 1048576 ∧ (0 ≤ r → fit1 row ∧ fit3 mats ∧ fit1 col)) := by
  simp only [laws_szLinear.f]
  refine tot_bind0 (szIntS_tot row h1 n h0 hn) (fun r1 hr1 => tot_ite (fun h => tot_some ⟨by omega, fun h => absurd h (by omega)⟩) (fun h => ?_))
  refine tot_bind (szIntSSS_tot mats h2 h3 r1 (by omega) hr1.1) (fun r2 hr2 => tot_ite (fun h => tot_some ⟨by omega, fun h => absurd h (by omega)⟩) (fun h => ?_))
  refine tot_bind0 (szIntS_tot col h4 r2 (by omega) hr2.1) (fun r3 hr3 => tot_ite (fun h => tot_some ⟨by omega, fun h => absurd h (by omega)⟩) (fun h => ?_))
  exact tot_some ⟨hr3.1, fun h => ⟨hr1.2 (by omega), hr2.2 (by omega), hr3.2 (by omega)⟩⟩


theorem toLinear_ev (b : Int) (row : List Int) (mats : List (List (List Int))) (col : List Int) (h1 : fit1 row) (h2 : fit3 mats) (h3 : fit1 col) : Ev (fun k => laws_toLinear.f k b row mats col) (b, row, mats, col) := by
  unfold fit1 at h1 h3
  simp only [laws_toLinear.f]
  exact ev_bind (toIntS_ev row (by omega)) (ev_bind (toIntSSS_ev mats h2) (ev_bind (toIntS_ev col (by omega)) (ev_some rfl)))
theorem eqLinear_ev (b : Int) (row : List Int) (mats : List (List (List Int))) (col : List Int) (h1 : fit1 row) (h2 : fit3 mats) (h3 : fit1 col) : Ev (fun k => laws_eqLinear.f k b row mats col b row mats col) true := by
  unfold fit1 at h1 h3
  simp only [laws_eqLinear.f]
  exact ev_pos trivial (ev_bind (eqIntS_ev row (by omega)) (ev_pos rfl (ev_bind (eqIntSSS_ev mats h2) (ev_pos rfl (ev_bind (eqIntS_ev col (by omega)) (ev_pos rfl (ev_some rfl)))))))


theorem tmod_nat (a b : Nat) : Int.tmod (a : Int) (b : Int) = ((a % b : Nat) : Int) := by
  rw [Int.tmod_eq_emod_of_nonneg (by omega)]; exact (Int.natCast_emod a b).symm
theorem tdiv_nat (a b : Nat) : Int.tdiv (a : Int) (b : Int) = ((a / b : Nat) : Int) := by
  rw [Int.tdiv_eq_ediv_of_nonneg (by omega)]; exact (Int.natCast_ediv a b).symm
theorem gcd_step (a b : Nat) (h : b ≠ 0) : Nat.gcd a b = Nat.gcd b (a % b) := by
  rw [Nat.gcd_comm a b, Nat.gcd_rec b a, Nat.gcd_comm]

theorem l1In_eq (a b c : Int) : spec_l1In.f a b c = some (decide (b ≤ a ∧ a ≤ c)) := by
  unfold spec_l1In.f
  by_cases h : a ≥ b
  · rw [if_pos h]; simp [show b ≤ a from h]
  · rw [if_neg h]; simp [show ¬ b ≤ a from h]


def small9 (x : Int) : Bool := decide (-9 ≤ x ∧ x ≤ 9)
def rowOk (n : Nat) (r : List Int) : Bool := decide (r.length = n) && r.all small9
def matOk (n : Nat) (m : List (List Int)) : Bool := decide (m.length = n) && m.all (rowOk n)
def isLin (b : Int) (row : List Int) (mats : List (List (List Int))) (col : List Int) : Bool :=
  decide (2 ≤ b ∧ b ≤ 4) && decide (1 ≤ row.length ∧ row.length ≤ 40) && rowOk row.length row && rowOk row.length col && decide ((mats.length : Int) = b) && mats.all (matOk row.length)
theorem isBase_eq (b : Int) : impl_isBase.f b = some (decide (2 ≤ b ∧ b ≤ 4)) := by
  unfold impl_isBase.f
  by_cases h : b ≥ 2
  · rw [if_pos h]; simp [show 2 ≤ b from h]
  · rw [if_neg h]; simp [show ¬ 2 ≤ b from h]
theorem impl_areSmall_l0 (l : List Int) (hn : l.length ≤ 4611686018427387904) (d : Nat) : ∀ (i : Nat), i + d = l.length →
    Ev (fun k => impl_areSmall.l0 k l (l.length : Int) (i : Int)) ((l.drop i).all small9) := by
  induction d with
  | zero =>
    intro i hi
    refine ev_succ ?_
    simp only [impl_areSmall.l0]
    refine ev_neg (by omega) (ev_some ?_)
    rw [List.drop_of_length_le (by omega)]; rfl
  | succ d ih =>
    intro i hi
    refine ev_succ ?_
    simp only [impl_areSmall.l0, wr1 (show (0 : Int) ≤ (i : Int) by omega) (by omega)]
    refine ev_pos (by omega) (ev_pos (by omega) (ev_pos (by omega) ?_))
    rw [drop_rd (by omega : i < l.length)]
    refine ev_ite (fun h => ev_some ?_) (fun h => ev_ite (fun h' => ev_some ?_) (fun h' => ev_eq (ih (i + 1) (by omega)) ?_))
    · simp only [List.all_cons, small9, decide_eq_false (show ¬ (-9 ≤ rd l (i : Int) ∧ rd l (i : Int) ≤ 9) by omega), Bool.false_and]
    · simp only [List.all_cons, small9, decide_eq_false (show ¬ (-9 ≤ rd l (i : Int) ∧ rd l (i : Int) ≤ 9) by omega), Bool.false_and]
    · simp only [List.all_cons, small9, decide_eq_true (show (-9 ≤ rd l (i : Int) ∧ rd l (i : Int) ≤ 9) by omega), Bool.true_and]
theorem impl_areSmall_ev (l : List Int) (n : Nat) (hn : l.length ≤ 4611686018427387904) : Ev (fun k => impl_areSmall.f k l (n : Int)) (rowOk n l) := by
  simp only [impl_areSmall.f]
  unfold rowOk
  refine ev_ite (fun h => ev_eq (impl_areSmall_l0 l hn l.length 0 (by omega)) ?_) (fun h => ev_some ?_)
  · rw [decide_eq_true (by omega)]; simp
  · rw [decide_eq_false (by omega)]; rfl
theorem impl_lin_l1 (n : Nat) (mats : List (List (List Int))) (a : Int) (m : List (List Int)) (hm : fit2 m) (R : Bool) (H : m.all (rowOk n) = true → Ev (fun k => impl_IsLinear.l0 k (n : Int) mats (mats.length : Int) (wrap64 (a + 1))) R) (H2 : m.all (rowOk n) = false → R = false) (d : Nat) : ∀ i : Nat, i + d = m.length → (m.take i).all (rowOk n) = true →
    Ev (fun k => impl_IsLinear.l1 k (n : Int) mats (mats.length : Int) a m (m.length : Int) (i : Int)) R := by
  have hl := hm.1
  induction d with
  | zero =>
    intro i hi ht
    refine ev_succ ?_
    simp only [impl_IsLinear.l1]
    rw [List.take_of_length_le (by omega)] at ht
    exact ev_neg (by omega) (H ht)
  | succ d ih =>
    intro i hi ht
    have hr := hm.2 _ (rdLL_mem (show i < m.length by omega))
    unfold fit1 at hr
    refine ev_succ ?_
    simp only [impl_IsLinear.l1, wr1 (show (0 : Int) ≤ (i : Int) by omega) (by omega)]
    refine ev_pos (by omega) (ev_pos (by omega) (ev_pos (by omega) (ev_bind (impl_areSmall_ev _ n (by omega)) (ev_ite (fun h => ih (i + 1) (by omega) ?_) (fun h => ev_some ?_)))))
    · rw [List.take_succ_eq_append_getElem (by omega), ← rdLL_at (by omega), List.all_append, ht]; simp [h]
    · symm
      refine H2 ?_
      rw [Bool.eq_false_iff]
      intro hall
      rw [List.all_eq_true] at hall
      exact h (hall _ (rdLL_mem (by omega)))
theorem impl_lin_l0 (n : Nat) (mats : List (List (List Int))) (hf : fit3 mats) (d : Nat) : ∀ i : Nat, i + d = mats.length → Ev (fun k => impl_IsLinear.l0 k (n : Int) mats (mats.length : Int) (i : Int)) ((mats.drop i).all (matOk n)) := by
  have hl := hf.1
  induction d with
  | zero =>
    intro i hi
    refine ev_succ ?_
    simp only [impl_IsLinear.l0]
    refine ev_neg (by omega) (ev_some ?_)
    rw [List.drop_of_length_le (by omega)]; rfl
  | succ d ih =>
    intro i hi
    have hm := hf.2 _ (rdLLL_mem (show i < mats.length by omega))
    refine ev_succ ?_
    simp only [impl_IsLinear.l0]
    refine ev_pos (by omega) (ev_pos (by omega) (ev_pos (by omega) ?_))
    rw [drop_rdLLL (show i < mats.length by omega), List.all_cons]
    refine ev_ite (fun h => ?_) (fun h => ev_some ?_)
    · refine impl_lin_l1 n mats (i : Int) _ hm _ (fun hall => ?_) (fun hall => ?_) (rd_L2 mats (i : Int)).length 0 (by omega) (by simp)
      · rw [wr1 (by omega) (by omega)]
        refine ev_eq (ih (i + 1) (by omega)) ?_
        simp only [matOk, hall, decide_eq_true (show (rd_L2 mats (i : Int)).length = n by omega), Bool.and_self, Bool.true_and]
      · simp only [matOk, hall, Bool.and_false, Bool.false_and]
    · simp only [matOk, decide_eq_false (show ¬ (rd_L2 mats (i : Int)).length = n by omega), Bool.false_and]
theorem impl_IsLinear_ev (b : Int) (row : List Int) (mats : List (List (List Int))) (col : List Int) (h1 : fit1 row) (h2 : fit3 mats) (h3 : fit1 col) : Ev (fun k => impl_IsLinear.f k b row mats col) (isLin b row mats col) := by
  unfold fit1 at h1 h3
  simp only [impl_IsLinear.f, isBase_eq, Option.bind_some]
  have no : ∀ f : Bool, f = true → isLin b row mats col = false → Ev (fun k => impl_IsLinear.j0 k (row.length : Int) f b row mats col) (isLin b row mats col) := by
    intro f hf h
    subst hf
    refine ev_succ ?_
    simp only [impl_IsLinear.j0]
    exact ev_pos trivial (ev_some h.symm)
  refine ev_ite (fun hb => ?_) (fun hb => no _ rfl ?_)
  · refine ev_ite (fun h => no _ rfl ?_) (fun h => ev_ite (fun h' => no _ rfl ?_) (fun h' => ?_))
    · unfold isLin; rw [decide_eq_false (show ¬ (1 ≤ row.length ∧ row.length ≤ 40) by omega)]; simp
    · unfold isLin; rw [decide_eq_false (show ¬ (1 ≤ row.length ∧ row.length ≤ 40) by omega)]; simp
    · refine ev_bind (impl_areSmall_ev row row.length (by omega)) (ev_ite (fun h4 => ?_) (fun h4 => no _ rfl ?_))
      · refine ev_bind (impl_areSmall_ev col row.length (by omega)) (ev_ite (fun h5 => ?_) (fun h5 => no _ rfl ?_))
        · by_cases h6 : (mats.length : Int) = b
          · refine ev_succ ?_
            simp only [impl_IsLinear.j0]
            refine ev_neg (by simp [h6]) (ev_eq (impl_lin_l0 row.length mats h2 mats.length 0 (by omega)) ?_)
            unfold isLin
            rw [hb, decide_eq_true (show (1 ≤ row.length ∧ row.length ≤ 40) by omega), h4, h5, decide_eq_true h6]; simp
          · refine no _ (by simpa using h6) ?_
            unfold isLin; rw [decide_eq_false h6]; simp
        · unfold isLin; rw [Bool.not_eq_true] at h5; rw [h5]; simp
      · unfold isLin; rw [Bool.not_eq_true] at h4; rw [h4]; simp
  · unfold isLin; rw [Bool.not_eq_true] at hb; rw [hb]; simp
theorem all_rd_true {p : Int → Bool} {l : List Int} (h : l.all p = true) {i : Nat} (hi : i < l.length) : p (rd l (i : Int)) = true := List.all_eq_true.1 h _ (rd_mem hi)
theorem spec_lin_l3 (n : Nat) (b : Int) (row col : List Int) (mats : List (List (List Int))) (a i : Nat) (ha : a < mats.length) (hi : i < (rd_L2 mats (a : Int)).length) (r : List Int) (hr : r = rd_L1 (rd_L2 mats (a : Int)) (i : Int)) (hl : r.length = n) (hn : n ≤ 40) (hn2 : mats.length ≤ 1048576 ∧ (rd_L2 mats (a : Int)).length ≤ 1048576) (R : Bool)
    (H : r.all small9 = true → Ev (fun k => spec_IsLinear.l2 k (n : Int) (a : Int) ((i + 1 : Nat) : Int) b row mats col) R) (H2 : r.all small9 = false → R = false) (d : Nat) : ∀ j : Nat, j + d = n → (r.take j).all small9 = true →
    Ev (fun k => spec_IsLinear.l3 k (n : Int) (a : Int) (i : Int) (j : Int) b row mats col) R := by
  induction d with
  | zero =>
    intro j hj ht
    refine ev_succ ?_
    simp only [spec_IsLinear.l3]
    rw [List.take_of_length_le (by omega)] at ht
    rw [wr1 (show (0 : Int) ≤ (i : Int) by omega) (by omega)]
    exact ev_neg (by omega) (H ht)
  | succ d ih =>
    intro j hj ht
    refine ev_succ ?_
    simp only [spec_IsLinear.l3, l1In_eq, Option.bind_some, wr1 (show (0 : Int) ≤ (j : Int) by omega) (by omega)]
    rw [← hr]
    refine ev_pos (by omega) (ev_pos (by omega) (ev_pos (by omega) (ev_pos (by omega) (ev_pos (by omega) (ev_pos (by omega) (ev_pos (by omega) (ev_ite (fun h => ih (j + 1) (by omega) ?_) (fun h => ev_some ?_))))))))
    · rw [List.take_succ_eq_append_getElem (by omega), ← rd_get (by omega), List.all_append, ht]; simpa [small9] using h
    · symm
      refine H2 ?_
      rw [Bool.eq_false_iff]
      intro hall
      exact h (by simpa [small9] using all_rd_true hall (show j < r.length by omega))
theorem spec_lin_l2 (n : Nat) (b : Int) (row col : List Int) (mats : List (List (List Int))) (hf : fit3 mats) (a : Nat) (ha : a < mats.length) (m : List (List Int)) (hm : m = rd_L2 mats (a : Int)) (hl : m.length = n) (hn : n ≤ 40) (R : Bool)
    (H : m.all (rowOk n) = true → Ev (fun k => spec_IsLinear.l1 k (n : Int) ((a + 1 : Nat) : Int) b row mats col) R) (H2 : m.all (rowOk n) = false → R = false) (d : Nat) : ∀ i : Nat, i + d = n → (m.take i).all (rowOk n) = true →
    Ev (fun k => spec_IsLinear.l2 k (n : Int) (a : Int) (i : Int) b row mats col) R := by
  have hf1 := hf.1
  have hf2 := hf.2 _ (rdLLL_mem ha)
  have hf3 := hf2.1
  induction d with
  | zero =>
    intro i hi ht
    refine ev_succ ?_
    simp only [spec_IsLinear.l2]
    rw [List.take_of_length_le (by omega)] at ht
    rw [wr1 (show (0 : Int) ≤ (a : Int) by omega) (by omega)]
    exact ev_neg (by omega) (H ht)
  | succ d ih =>
    intro i hi ht
    refine ev_succ ?_
    simp only [spec_IsLinear.l2]
    rw [← hm]
    have nope : rowOk n (rd_L1 m (i : Int)) = false → R = false := by
      intro h
      refine H2 ?_
      rw [Bool.eq_false_iff]
      intro hall
      rw [List.all_eq_true.1 hall _ (rdLL_mem (by omega))] at h
      cases h
    refine ev_pos (by omega) (ev_pos (by omega) (ev_pos (by omega) (ev_pos (by omega) (ev_pos (by omega) (ev_ite (fun h => ?_) (fun h => ev_some ?_))))))
    · refine spec_lin_l3 n b row col mats a i ha (by rw [← hm]; omega) _ rfl (by rw [← hm]; omega) hn ⟨hf1, hf3⟩ R (fun hall => ih (i + 1) (by omega) ?_) (fun hall => nope ?_) n 0 (by omega) (by simp)
      · rw [← hm] at hall
        rw [List.take_succ_eq_append_getElem (by omega), ← rdLL_at (by omega), List.all_append, ht]
        simp only [List.all_cons, List.all_nil, rowOk, hall, decide_eq_true (show (rd_L1 m (i : Int)).length = n by omega), Bool.and_self]
      · rw [← hm] at hall
        simp only [rowOk, hall, Bool.and_false]
    · symm
      refine nope ?_
      simp only [rowOk, decide_eq_false (show ¬ (rd_L1 m (i : Int)).length = n by omega), Bool.false_and]
theorem spec_lin_l1 (n : Nat) (hn : n ≤ 40) (row col : List Int) (mats : List (List (List Int))) (hf : fit3 mats) (d : Nat) : ∀ a : Nat, a + d = mats.length →
    Ev (fun k => spec_IsLinear.l1 k (n : Int) (a : Int) (mats.length : Int) row mats col) ((mats.drop a).all (matOk n)) := by
  have hf1 := hf.1
  induction d with
  | zero =>
    intro a hi
    refine ev_succ ?_
    simp only [spec_IsLinear.l1]
    refine ev_neg (by omega) (ev_some ?_)
    rw [List.drop_of_length_le (by omega)]; rfl
  | succ d ih =>
    intro a hi
    refine ev_succ ?_
    simp only [spec_IsLinear.l1]
    refine ev_pos (by omega) (ev_pos (by omega) (ev_pos (by omega) ?_))
    rw [drop_rdLLL (show a < mats.length by omega), List.all_cons]
    refine ev_ite (fun h => ?_) (fun h => ev_some ?_)
    · refine spec_lin_l2 n _ row col mats hf a (by omega) _ rfl (by omega) hn _ (fun hall => ?_) (fun hall => ?_) n 0 (by omega) (by simp)
      · refine ev_eq (ih (a + 1) (by omega)) ?_
        simp only [matOk, hall, decide_eq_true (show (rd_L2 mats (a : Int)).length = n by omega), Bool.and_self, Bool.true_and]
      · simp only [matOk, hall, Bool.and_false, Bool.false_and]
    · simp only [matOk, decide_eq_false (show ¬ (rd_L2 mats (a : Int)).length = n by omega), Bool.false_and]
theorem spec_lin_l0 (n : Nat) (hn : n ≤ 40) (row col : List Int) (mats : List (List (List Int))) (hf : fit3 mats) (h1 : row.length = n) (h2 : col.length = n) (d : Nat) : ∀ i : Nat, i + d = n → (row.take i).all small9 = true → (col.take i).all small9 = true →
    Ev (fun k => spec_IsLinear.l0 k (n : Int) (i : Int) (mats.length : Int) row mats col) (row.all small9 && col.all small9 && mats.all (matOk n)) := by
  induction d with
  | zero =>
    intro i hi hr hc
    refine ev_succ ?_
    simp only [spec_IsLinear.l0]
    rw [List.take_of_length_le (by omega)] at hr hc
    refine ev_neg (by omega) (ev_eq (spec_lin_l1 n hn row col mats hf mats.length 0 (by omega)) ?_)
    rw [hr, hc]; simp
  | succ d ih =>
    intro i hi hr hc
    refine ev_succ ?_
    simp only [spec_IsLinear.l0, l1In_eq, Option.bind_some, wr1 (show (0 : Int) ≤ (i : Int) by omega) (by omega)]
    refine ev_pos (by omega) (ev_pos (by omega) (ev_pos (by omega) (ev_ite (fun h => ev_pos (by omega) (ev_ite (fun h' => ih (i + 1) (by omega) ?_ ?_) (fun h' => ev_some ?_))) (fun h => ev_some ?_))))
    · rw [List.take_succ_eq_append_getElem (by omega), ← rd_get (by omega), List.all_append, hr]; simpa [small9] using h
    · rw [List.take_succ_eq_append_getElem (by omega), ← rd_get (by omega), List.all_append, hc]; simpa [small9] using h'
    · symm
      have : col.all small9 = false := by
        rw [Bool.eq_false_iff]
        intro hall
        exact h' (by simpa [small9] using all_rd_true hall (show i < col.length by omega))
      rw [this]; simp
    · symm
      have : row.all small9 = false := by
        rw [Bool.eq_false_iff]
        intro hall
        exact h (by simpa [small9] using all_rd_true hall (show i < row.length by omega))
      rw [this]; simp
theorem spec_IsLinear_ev (b : Int) (row : List Int) (mats : List (List (List Int))) (col : List Int) (h1 : fit1 row) (h2 : fit3 mats) (h3 : fit1 col) : Ev (fun k => spec_IsLinear.f k b row mats col) (isLin b row mats col) := by
  unfold fit1 at h1 h3
  simp only [spec_IsLinear.f, l1In_eq, Option.bind_some]
  have no : ∀ f : Bool, f = true → isLin b row mats col = false → Ev (fun k => spec_IsLinear.j0 k (row.length : Int) f b row mats col) (isLin b row mats col) := by
    intro f hf h
    subst hf
    refine ev_succ ?_
    simp only [spec_IsLinear.j0]
    exact ev_pos trivial (ev_some h.symm)
  by_cases hn : 1 ≤ row.length ∧ row.length ≤ 40
  · refine ev_pos (by simp; omega) (ev_ite (fun hc => ?_) (fun hc => no _ rfl ?_))
    · by_cases hb : 2 ≤ b ∧ b ≤ 4
      · refine ev_pos (by simpa using hb) ?_
        by_cases h6 : (mats.length : Int) = b
        · refine ev_succ ?_
          simp only [spec_IsLinear.j0]
          have := spec_lin_l0 row.length (by omega) row col mats h2 rfl (by omega) row.length 0 (by omega) (by simp) (by simp)
          rw [h6] at this
          refine ev_neg (by simp [h6]) (ev_eq this ?_)
          unfold isLin rowOk
          rw [decide_eq_true hb, decide_eq_true hn, decide_eq_true rfl, decide_eq_true (show col.length = row.length by omega), decide_eq_true h6]; simp
        · refine no _ (by simpa using h6) ?_
          unfold isLin; rw [decide_eq_false h6]; simp
      · refine ev_neg (by simpa using hb) (no _ rfl ?_)
        unfold isLin; rw [decide_eq_false hb]; simp
    · unfold isLin rowOk; rw [decide_eq_false (show ¬ col.length = row.length by omega)]; simp
  · refine ev_neg (by simp; omega) (no _ rfl ?_)
    unfold isLin; rw [decide_eq_false hn]; simp


def inR (m x : Int) : Bool := decide (0 ≤ x ∧ x < m)
def seqRow (b m : Int) (r : List Int) : Bool := decide ((r.length : Int) = b) && r.all (inR m)
def outOk (x : Int) : Bool := decide (0 ≤ x ∧ x ≤ 3)
def isSeq (b : Int) (next : List (List Int)) (out : List Int) : Bool :=
  decide (2 ≤ b ∧ b ≤ 4) && decide (1 ≤ next.length ∧ next.length ≤ 16) && decide (out.length = next.length) && next.all (seqRow b next.length) && out.all outOk

def cnt (a : Int) : List Int → Int
  | [] => 0
  | x :: l => (if x = a then 1 else 0) + cnt a l
theorem cnt_bd (a : Int) (l : List Int) : 0 ≤ cnt a l ∧ cnt a l ≤ l.length := by
  induction l with
  | nil => exact ⟨by simp [cnt], by simp [cnt]⟩
  | cons x l ih =>
    simp only [cnt, List.length_cons]
    split <;> omega

theorem slices_Reverse_l0 (l : List Int) (hn : l.length ≤ 4611686018427387904) (d : Nat) : ∀ (i : Nat) (x : List Int), l.length ≤ 2 * i + 2 * d → 2 * i ≤ l.length + 1 → x.length = l.length →
    (∀ t, t < l.length → x[t]? = if t < i ∨ l.length ≤ t + i then l[l.length - 1 - t]? else l[t]?) →
    Ev (fun k => slices_Reverse_int_int.l0 k x (i : Int) ((l.length : Int) - 1 - i)) l.reverse := by
  induction d with
  | zero =>
    intro i x hd hi hx hh
    refine ev_succ ?_
    simp only [slices_Reverse_int_int.l0]
    refine ev_neg (by omega) (ev_some ?_)
    apply List.ext_getElem?
    intro t
    by_cases ht : t < l.length
    · rw [List.getElem?_reverse ht, hh t ht]
      split
      · rfl
      · omega
    · rw [List.getElem?_eq_none (by omega), List.getElem?_eq_none (by simp; omega)]
  | succ d ih =>
    intro i x hd hi hx hh
    by_cases hlt : 2 * i < l.length - 1
    · refine ev_succ ?_
      simp only [slices_Reverse_int_int.l0]
      refine ev_pos (by omega) (ev_pos (by omega) (ev_pos (by omega) (ev_pos (by omega) (ev_pos (by omega) ?_))))
      obtain ⟨j, hj⟩ : ∃ j : Nat, (l.length : Int) - 1 - i = (j : Int) := ⟨l.length - 1 - i, by omega⟩
      rw [hj, wr1 (by omega) (by omega), wr (n := (j : Int) - 1) (by omega) (by omega), Int.toNat_natCast, Int.toNat_natCast]
      rw [show (j : Int) - 1 = (l.length : Int) - 1 - ((i + 1 : Nat) : Int) by omega]
      refine ih (i + 1) _ (by omega) (by omega) (by simp [hx]) ?_
      intro t ht
      have hij : i < j := by omega
      have hjl : j < l.length := by omega
      have hxi := hh i (by omega)
      have hxj := hh j (by omega)
      rw [if_neg (by omega)] at hxi hxj
      have hri : rd x (i : Int) = l[i] := by rw [rd_nat, List.getD_eq_getElem?_getD, hxi, List.getElem?_eq_getElem (by omega)]; rfl
      have hrj : rd x (j : Int) = l[j] := by rw [rd_nat, List.getD_eq_getElem?_getD, hxj, List.getElem?_eq_getElem (by omega)]; rfl
      rw [hri, hrj, List.getElem?_set, List.length_set, List.getElem?_set]
      by_cases e1 : j = t
      · subst e1
        rw [if_pos rfl, if_pos (by omega), if_pos (by omega), show l.length - 1 - j = i by omega, List.getElem?_eq_getElem]
      · rw [if_neg e1]
        by_cases e2 : i = t
        · subst e2
          rw [if_pos rfl, if_pos (by omega), if_pos (by omega), List.getElem?_eq_getElem (show l.length - 1 - i < l.length by omega)]
          congr 2; omega
        · rw [if_neg e2, hh t ht]
          by_cases e3 : t < i ∨ l.length ≤ t + i
          · rw [if_pos e3, if_pos (by omega)]
          · rw [if_neg e3, if_neg (by omega)]
    · refine ev_succ ?_
      simp only [slices_Reverse_int_int.l0]
      refine ev_neg (by omega) (ev_some ?_)
      apply List.ext_getElem?
      intro t
      by_cases ht : t < l.length
      · rw [List.getElem?_reverse ht, hh t ht]
        split
        · rfl
        · congr 1; omega
      · rw [List.getElem?_eq_none (by omega), List.getElem?_eq_none (by simp; omega)]
theorem slices_Reverse_ev (l : List Int) (hn : l.length ≤ 4611686018427387904) : Ev (fun k => slices_Reverse_int_int.f k l) l.reverse := by
  simp only [slices_Reverse_int_int.f]
  rw [wr (n := (l.length : Int) - 1) (by omega) (by omega)]
  have := slices_Reverse_l0 l hn l.length 0 l (by omega) (by omega) rfl (by intro t ht; rw [if_neg (by omega)])
  simpa using this


/-- the digits of n in base b, highest first -/
def digsF : Nat → Nat → Nat → List Int
  | 0, _, _ => []
  | f + 1, n, b => if n = 0 then [] else digsF f (n / b) b ++ [((n % b : Nat) : Int)]
theorem digsF_more (f : Nat) : ∀ (g n b : Nat), 2 ≤ b → n ≤ f → f ≤ g → digsF f n b = digsF g n b := by
  induction f with
  | zero =>
    intro g n b hb hn hg
    obtain rfl : n = 0 := by omega
    cases g with
    | zero => rfl
    | succ g => simp [digsF]
  | succ f ih =>
    intro g n b hb hn hg
    obtain ⟨g, rfl⟩ : ∃ g', g = g' + 1 := ⟨g - 1, by omega⟩
    simp only [digsF]
    by_cases h0 : n = 0
    · rw [if_pos h0, if_pos h0]
    · rw [if_neg h0, if_neg h0]
      have : n / b < n := Nat.div_lt_self (by omega) (by omega)
      rw [ih g (n / b) b hb (by omega) (by omega)]
def digs (n b : Nat) : List Int := digsF n n b
theorem digs_pos (n b : Nat) (hb : 2 ≤ b) (h : n ≠ 0) : digs n b = digs (n / b) b ++ [((n % b : Nat) : Int)] := by
  unfold digs
  obtain ⟨m, rfl⟩ : ∃ m, n = m + 1 := ⟨n - 1, by omega⟩
  conv => lhs; unfold digsF
  rw [if_neg h]
  have : (m + 1) / b < m + 1 := Nat.div_lt_self (by omega) (by omega)
  rw [digsF_more ((m + 1) / b) m ((m + 1) / b) b hb (Nat.le_refl _) (by omega)]
theorem digs_zero (b : Nat) : digs 0 b = [] := rfl
theorem digs_mem (b : Nat) (hb : 2 ≤ b) (f : Nat) : ∀ n, n ≤ f → ∀ x ∈ digs n b, 0 ≤ x ∧ x < (b : Int) := by
  induction f with
  | zero => intro n hn x hx; obtain rfl : n = 0 := by omega
            cases hx
  | succ f ih =>
    intro n hn x hx
    by_cases h0 : n = 0
    · subst h0; cases hx
    · rw [digs_pos n b hb h0] at hx
      have : n / b < n := Nat.div_lt_self (by omega) (by omega)
      rcases List.mem_append.1 hx with hx | hx
      · exact ih (n / b) (by omega) x hx
      · simp only [List.mem_cons, List.not_mem_nil, or_false] at hx
        have := Nat.mod_lt n (show b > 0 by omega)
        omega
theorem digs_len (b : Nat) (hb : 2 ≤ b) (e : Nat) : ∀ n, n < b ^ e → (digs n b).length ≤ e := by
  induction e with
  | zero => intro n hn; simp at hn; subst hn; simp [digs_zero]
  | succ e ih =>
    intro n hn
    by_cases h0 : n = 0
    · subst h0; simp [digs_zero]
    · rw [digs_pos n b hb h0]
      have : n / b < b ^ e := by
        rw [Nat.div_lt_iff_lt_mul (by omega)]
        rw [Nat.pow_succ] at hn; exact hn
      have := ih _ this
      simp; omega
theorem impl_digits_l0 (b : Nat) (hb : 2 ≤ b) (hb2 : b ≤ 4) (f : Nat) : ∀ (n : Nat) (acc : List Int), n ≤ f → n ≤ 4294967296 → acc.length + f ≤ 8589934592 →
    Ev (fun k => impl_digits.l0 k (n : Int) (b : Int) acc) (digs n b ++ acc.reverse) := by
  induction f with
  | zero =>
    intro n acc hn hn2 ha
    obtain rfl : n = 0 := by omega
    refine ev_succ ?_
    simp only [impl_digits.l0]
    refine ev_neg (by omega) (ev_bind (slices_Reverse_ev acc (by omega)) (ev_some ?_))
    simp [digs_zero]
  | succ f ih =>
    intro n acc hn hn2 ha
    refine ev_succ ?_
    simp only [impl_digits.l0, tdiv_nat, tmod_nat]
    by_cases h0 : n = 0
    · subst h0
      refine ev_neg (by omega) (ev_bind (slices_Reverse_ev acc (by omega)) (ev_some ?_))
      simp [digs_zero]
    · have hlt : n / b < n := Nat.div_lt_self (by omega) (by omega)
      rw [wr_nat (show n / b ≤ 4611686018427387904 by omega)]
      refine ev_pos (by omega) (ev_neg (by omega) (ev_pos (by omega) (ev_eq (ih (n / b) _ (by omega) (by omega) (by simp; omega)) ?_)))
      rw [digs_pos n b hb h0]; simp
theorem impl_digits_ev (n b : Nat) (hb : 2 ≤ b) (hb2 : b ≤ 4) (hn : n ≤ 4294967296) : Ev (fun k => impl_digits.f k (n : Int) (b : Int)) (digs n b) := by
  simp only [impl_digits.f]
  exact ev_eq (impl_digits_l0 b hb hb2 n n [] (Nat.le_refl _) hn (by simp; omega)) (by simp)
/-- the state behind some digits -/
def walkS (next : List (List Int)) (s : Int) : List Int → Int
  | [] => s
  | d :: l => walkS next (rd (rd_L1 next s) d) l
theorem walkS_append (next : List (List Int)) (l m : List Int) : ∀ s, walkS next s (l ++ m) = walkS next (walkS next s l) m := by
  induction l with
  | nil => intro s; rfl
  | cons d l ih => intro s; simp only [List.cons_append, walkS, ih]
theorem isSeq_facts {b : Int} {next : List (List Int)} {out : List Int} (h : isSeq b next out = true) : (2 ≤ b ∧ b ≤ 4) ∧ (1 ≤ next.length ∧ next.length ≤ 16) ∧ out.length = next.length ∧
    (∀ r ∈ next, (r.length : Int) = b ∧ ∀ x ∈ r, 0 ≤ x ∧ x < (next.length : Int)) ∧ ∀ x ∈ out, 0 ≤ x ∧ x ≤ 3 := by
  unfold isSeq at h
  simp only [Bool.and_eq_true, decide_eq_true_eq, List.all_eq_true] at h
  obtain ⟨⟨⟨⟨h1, h2⟩, h3⟩, h4⟩, h5⟩ := h
  refine ⟨h1, h2, h3, fun r hr => ?_, fun x hx => by simpa [outOk] using h5 x hx⟩
  have := h4 r hr
  simp only [seqRow, Bool.and_eq_true, decide_eq_true_eq, List.all_eq_true] at this
  exact ⟨this.1, fun x hx => by simpa [inR] using this.2 x hx⟩
theorem walk_step {b : Int} {next : List (List Int)} {out : List Int} (h : isSeq b next out = true) {s d : Int} (hs : 0 ≤ s ∧ s < (next.length : Int)) (hd : 0 ≤ d ∧ d < b) :
    d < ((rd_L1 next s).length : Int) ∧ 0 ≤ rd (rd_L1 next s) d ∧ rd (rd_L1 next s) d < (next.length : Int) := by
  obtain ⟨_, _, _, h4, _⟩ := isSeq_facts h
  obtain ⟨i, rfl⟩ := Int.eq_ofNat_of_zero_le hs.1
  obtain ⟨j, rfl⟩ := Int.eq_ofNat_of_zero_le hd.1
  have hr := h4 _ (rdLL_mem (show i < next.length by omega))
  exact ⟨by omega, hr.2 _ (rd_mem (by omega))⟩
theorem walkS_in {b : Int} {next : List (List Int)} {out : List Int} (h : isSeq b next out = true) : ∀ (l : List Int) (s : Int), 0 ≤ s ∧ s < (next.length : Int) → (∀ x ∈ l, 0 ≤ x ∧ x < b) → 0 ≤ walkS next s l ∧ walkS next s l < (next.length : Int) := by
  intro l
  induction l with
  | nil => intro s hs _; exact hs
  | cons d l ih =>
    intro s hs hl
    exact ih _ (walk_step h hs (hl d (by simp))).2 (fun x hx => hl x (by simp [hx]))
def termN (b : Nat) (next : List (List Int)) (out : List Int) (n : Nat) : Int := rd out (walkS next 0 (digs n b))
theorem pow_bd {b e : Nat} (hb : b ≤ 4) (he : e ≤ 16) : b ^ e ≤ 4294967296 := by
  refine Nat.le_trans (Nat.pow_le_pow_left hb e) (Nat.le_trans (Nat.pow_le_pow_right (by omega) he) ?_)
  decide
/-- how many of the first n terms are v -/
def cntT (b : Nat) (next : List (List Int)) (out : List Int) (v : Int) : Nat → Nat → Int
  | 0, _ => 0
  | d + 1, i => (if termN b next out i = v then 1 else 0) + cntT b next out v d (i + 1)
theorem cntT_bd (b : Nat) (next : List (List Int)) (out : List Int) (v : Int) (d : Nat) : ∀ i, 0 ≤ cntT b next out v d i ∧ cntT b next out v d i ≤ d := by
  induction d with
  | zero => intro i; simp [cntT]
  | succ d ih => intro i; have := ih (i + 1); simp only [cntT]; split <;> omega
def ctRes (b : Int) (next : List (List Int)) (out : List Int) (v n : Int) : Int := if isSeq b next out = true ∧ 0 ≤ n ∧ n ≤ 3000 then cntT b.toNat next out v n.toNat 0 else -1

theorem spec_PowerOf_l0 (b e : Nat) (hb : b ≤ 4) (he : e ≤ 16) (d : Nat) : ∀ i : Nat, i + d = e → Ev (fun k => spec_PowerOf.l0 k (b : Int) (e : Int) ((b ^ i : Nat) : Int) (i : Int)) ((b ^ e : Nat) : Int) := by
  induction d with
  | zero =>
    intro i hi
    refine ev_succ ?_
    simp only [spec_PowerOf.l0]
    exact ev_neg (by omega) (ev_some (by rw [show i = e by omega]))
  | succ d ih =>
    intro i hi
    have := ih (i + 1) (by omega)
    have h1 := pow_bd hb (show i + 1 ≤ 16 by omega)
    refine ev_succ ?_
    simp only [spec_PowerOf.l0]
    rw [← Int.natCast_mul, ← Nat.pow_succ, wr_nat (show b ^ (i + 1) ≤ 4611686018427387904 by omega), wr1 (by omega) (by omega)]
    exact ev_pos (by omega) this
theorem spec_PowerOf16_ev (b : Nat) (hb1 : 2 ≤ b) (hb : b ≤ 4) : Ev (fun k => spec_PowerOf.f k (b : Int) 16) ((b ^ 16 : Nat) : Int) := by
  simp only [spec_PowerOf.f, l1In_eq, Option.bind_some]
  refine ev_pos (by simp; omega) (ev_succ ?_)
  simp only [spec_PowerOf.j0]
  refine ev_neg (by decide) ?_
  exact spec_PowerOf_l0 b 16 hb (Nat.le_refl _) 16 0 (by omega)
theorem spec_DigitsOf_l0 (b : Nat) (hb : 2 ≤ b) (hb2 : b ≤ 4) (f : Nat) : ∀ (n : Nat) (acc : List Int), n ≤ f → n ≤ 4294967296 → acc.length + f ≤ 8589934592 →
    Ev (fun k => spec_DigitsOf.l0 k (n : Int) (b : Int) acc) (digs n b ++ acc) := by
  induction f with
  | zero =>
    intro n acc hn hn2 ha
    obtain rfl : n = 0 := by omega
    refine ev_succ ?_
    simp only [spec_DigitsOf.l0]
    exact ev_neg (by omega) (ev_some (by simp [digs_zero]))
  | succ f ih =>
    intro n acc hn hn2 ha
    refine ev_succ ?_
    simp only [spec_DigitsOf.l0, tdiv_nat, tmod_nat, Option.bind_some]
    by_cases h0 : n = 0
    · subst h0
      exact ev_neg (by omega) (ev_some (by simp [digs_zero]))
    · have hlt : n / b < n := Nat.div_lt_self (by omega) (by omega)
      rw [wr_nat (show n / b ≤ 4611686018427387904 by omega)]
      refine ev_pos (by omega) (ev_neg (by omega) (ev_pos (by simp only [List.length_cons, List.length_nil]; omega) (ev_eq (ih (n / b) _ (by omega) (by omega) (by simp; omega)) ?_)))
      rw [digs_pos n b hb h0]; simp
theorem spec_DigitsOf_ev (n b : Nat) (hb : 2 ≤ b) (hb2 : b ≤ 4) (hn : n < b ^ 16) : Ev (fun k => spec_DigitsOf.f k (n : Int) (b : Int)) (digs n b) := by
  have hp := pow_bd hb2 (show 16 ≤ 16 by omega)
  simp only [spec_DigitsOf.f, l1In_eq, Option.bind_some]
  refine ev_neg (by omega) (ev_pos (by simp; omega) (ev_bind (spec_PowerOf16_ev b hb hb2) ?_))
  rw [decide_eq_false (by omega)]
  refine ev_succ ?_
  simp only [spec_DigitsOf.j0]
  exact ev_neg (by simp) (ev_eq (spec_DigitsOf_l0 b hb hb2 n n [] (Nat.le_refl _) (by omega) (by simp; omega)) (by simp))

def quo (x : Int) : Bool := decide (1 ≤ x ∧ x ≤ 9)
def areQ (l : List Int) : Bool := l.all quo && decide (1 ≤ (l.length : Int) ∧ (l.length : Int) ≤ 8)

def reps (w : List Int) : Nat → List Int
  | 0 => []
  | n + 1 => w ++ reps w n
theorem reps_length (w : List Int) (n : Nat) : (reps w n).length = n * w.length := by
  induction n with
  | zero => simp [reps]
  | succ n ih => simp only [reps, List.length_append, ih, Nat.succ_mul]; omega
theorem reps_snoc (w : List Int) (n : Nat) : reps w n ++ w = w ++ reps w n := by
  induction n with
  | zero => simp [reps]
  | succ n ih => simp only [reps, List.append_assoc, ih]
def stdGo : List Int → Bool → List Int → List Int → List Int × Bool
  | [], _, _, l => (l, true)
  | a :: qs, f, b, l => if ((reps l (if f = true then a - 1 else a).toNat ++ b).length : Int) > 400 then ([], false) else stdGo qs false l (reps l (if f = true then a - 1 else a).toNat ++ b)
def stdRes (l : List Int) : List Int × Bool := if areQ l = true then stdGo l true [1] [0] else ([], false)
theorem stdGo_length : ∀ (qs : List Int) (f : Bool) (b l : List Int), l.length ≤ 400 → (stdGo qs f b l).1.length ≤ 400 := by
  intro qs
  induction qs with
  | nil => intro f b l h; exact h
  | cons a qs ih =>
    intro f b l h
    unfold stdGo
    generalize (reps l (if f = true then a - 1 else a).toNat ++ b) = n
    split
    · simp
    · exact ih _ _ _ (by omega)
theorem stdRes_length (l : List Int) : (stdRes l).1.length ≤ 400 := by
  unfold stdRes
  split
  · exact stdGo_length _ _ _ _ (by decide)
  · simp
theorem stdArea {n m : Nat} (hn : n ≤ 9) (hm : m ≤ 400) : n * m ≤ 3600 := Nat.mul_le_mul hn hm
def isZero (i : Nat) : Bool := decide (i = 0)
theorem isZero_succ (i : Nat) : isZero (i + 1) = false := by simp [isZero]
theorem stdQ {l : List Int} (h : areQ l = true) : (∀ x ∈ l, 1 ≤ x ∧ x ≤ 9) ∧ l.length ≤ 8 := by
  simp only [areQ, Bool.and_eq_true, List.all_eq_true, decide_eq_true_eq] at h
  refine ⟨fun x hx => ?_, by omega⟩
  have := h.1 x hx
  simpa [quo] using this

def cwRes (l : List Int) : List Int × Bool := if (stdRes l).2 = true ∧ 2 ≤ (stdRes l).1.length then ((stdRes l).1.take ((stdRes l).1.length - 2), true) else ([], false)
theorem cwRes_length (l : List Int) : (cwRes l).1.length ≤ 400 := by
  have := stdRes_length l
  unfold cwRes
  split
  · simp only [List.length_take]; omega
  · simp
theorem Clone_eq (l : List Int) (h : l.length ≤ 1000000) : slices_Clone_int_int.f l = some l := by
  simp only [slices_Clone_int_int.f, Option.bind_some, List.nil_append]
  rw [if_pos (by simp only [List.length_nil]; omega)]

def mkV (n : Nat) (f : Nat → Int) : List Int := (List.range n).map f
theorem mkV_length (n : Nat) (f : Nat → Int) : (mkV n f).length = n := by simp [mkV]
theorem mkV_rd (n : Nat) (f : Nat → Int) (i : Nat) (h : i < n) : rd (mkV n f) (i : Int) = f i := by
  rw [rd_get (by rw [mkV_length]; exact h)]; simp [mkV]
theorem mkV_set (n : Nat) (f : Nat → Int) (i : Nat) (v : Int) : (mkV n f).set i v = mkV n (fun t => if t = i then v else f t) := by
  apply List.ext_getElem?
  intro t
  rw [List.getElem?_set]
  by_cases ht : t < n
  · have e : ∀ g : Nat → Int, (mkV n g)[t]? = some (g t) := by intro g; simp [mkV, ht]
    rw [e, e]
    by_cases h : i = t
    · subst h
      rw [if_pos rfl, if_pos (by rw [mkV_length]; exact ht), if_pos rfl]
    · rw [if_neg h, if_neg (fun h' => h h'.symm)]
  · rw [List.getElem?_eq_none (by rw [mkV_length]; omega), List.getElem?_eq_none (by rw [mkV_length]; omega)]
    split
    · rw [if_neg (by rw [mkV_length]; omega)]
    · rfl
theorem mkV_congr (n : Nat) (f g : Nat → Int) (h : ∀ t, t < n → f t = g t) : mkV n f = mkV n g := by
  unfold mkV
  exact List.map_congr_left (fun t ht => h t (List.mem_range.1 ht))
theorem mkV_zero (n : Nat) : List.replicate n (0 : Int) = mkV n (fun _ => 0) := by
  unfold mkV
  rw [List.map_const', List.length_range]
/-- the k-th number behind j rounds -/
def colF (v : List Int) (M : List (List Int)) (k : Nat) : Nat → Int
  | 0 => 0
  | j + 1 => wrap64 (colF v M k j + wrap64 (rd v (j : Int) * rd (rd_L1 M (j : Int)) (k : Int)))
def stepV (M : List (List Int)) (n : Nat) (v : List Int) : List Int := mkV n (fun k => colF v M k n)
def dotF (v c : List Int) : Nat → Int
  | 0 => 0
  | j + 1 => wrap64 (dotF v c j + wrap64 (rd v (j : Int) * rd c (j : Int)))
def evV (mats : List (List (List Int))) (n : Nat) (v : List Int) : List Int → List Int
  | [] => v
  | d :: l => evV mats n (stepV (rd_L2 mats d) n v) l
theorem evV_length (mats : List (List (List Int))) (n : Nat) : ∀ (l : List Int) (v : List Int), v.length = n → (evV mats n v l).length = n := by
  intro l
  induction l with
  | nil => intro v h; exact h
  | cons d l ih => intro v h; exact ih _ (mkV_length _ _)
theorem isLin_facts {b : Int} {row : List Int} {mats : List (List (List Int))} {col : List Int} (h : isLin b row mats col = true) : (2 ≤ b ∧ b ≤ 4) ∧ (1 ≤ row.length ∧ row.length ≤ 40) ∧ col.length = row.length ∧ (mats.length : Int) = b ∧
    ∀ m ∈ mats, m.length = row.length ∧ ∀ r ∈ m, r.length = row.length := by
  unfold isLin at h
  simp only [Bool.and_eq_true, decide_eq_true_eq, List.all_eq_true] at h
  obtain ⟨⟨⟨⟨⟨h1, h2⟩, h3⟩, h4⟩, h5⟩, h6⟩ := h
  simp only [rowOk, Bool.and_eq_true, decide_eq_true_eq] at h3 h4
  refine ⟨h1, h2, h4.1, h5, fun m hm => ?_⟩
  have := h6 m hm
  simp only [matOk, Bool.and_eq_true, decide_eq_true_eq, List.all_eq_true] at this
  refine ⟨this.1, fun r hr => ?_⟩
  have := this.2 r hr
  simp only [rowOk, Bool.and_eq_true, decide_eq_true_eq] at this
  exact this.1
section
variable {b : Int} {row : List Int} {mats : List (List (List Int))} {col : List Int}
theorem lin_row (h : isLin b row mats col = true) {d : Int} (hd : 0 ≤ d ∧ d < b) : (rd_L2 mats d).length = row.length ∧ d < (mats.length : Int) ∧ ∀ j : Nat, j < row.length → (rd_L1 (rd_L2 mats d) (j : Int)).length = row.length := by
  obtain ⟨h1, h2, h3, h4, h5⟩ := isLin_facts h
  obtain ⟨e, rfl⟩ := Int.eq_ofNat_of_zero_le hd.1
  have hm := h5 _ (rdLLL_mem (show e < mats.length by omega))
  exact ⟨hm.1, by omega, fun j hj => hm.2 _ (rdLL_mem (by omega))⟩
theorem impl_ev_l2 (h : isLin b row mats col = true) (d : Int) (hd : 0 ≤ d ∧ d < b) (v ds : List Int) (a i : Nat) (hv : v.length = row.length) (hi : i < row.length) (R : Int)
    (H : Ev (fun k => impl_Linear_evaluate.l1 k d (mkV row.length (fun t => colF v (rd_L2 mats d) t (i + 1))) ds (ds.length : Int) (a : Int) v (v.length : Int) ((i + 1 : Nat) : Int) b row mats col) R) (e : Nat) : ∀ j : Nat, j + e = row.length →
    Ev (fun k => impl_Linear_evaluate.l2 k d (mkV row.length (fun t => if t < j then colF v (rd_L2 mats d) t (i + 1) else colF v (rd_L2 mats d) t i)) (rd v (i : Int)) ds (ds.length : Int) (a : Int) v (v.length : Int) (i : Int) (rd_L1 (rd_L2 mats d) (i : Int)) ((rd_L1 (rd_L2 mats d) (i : Int)).length : Int) (j : Int) b row mats col) R := by
  obtain ⟨l1, l2, l3⟩ := lin_row h hd
  have l4 := l3 i hi
  have hb := (isLin_facts h).2.1
  induction e with
  | zero =>
    intro j hj
    refine ev_succ ?_
    simp only [impl_Linear_evaluate.l2]
    rw [wr1 (show (0 : Int) ≤ (i : Int) by omega) (by omega)]
    refine ev_neg (by omega) ?_
    rw [mkV_congr row.length _ (fun t => colF v (rd_L2 mats d) t (i + 1)) (fun t ht => if_pos (by omega))]
    exact H
  | succ e ih =>
    intro j hj
    refine ev_succ ?_
    simp only [impl_Linear_evaluate.l2, mkV_length, wr1 (show (0 : Int) ≤ (j : Int) by omega) (by omega)]
    refine ev_pos (by omega) (ev_pos (by omega) (ev_pos (by omega) (ev_pos (by omega) ?_)))
    have := ih (j + 1) (by omega)
    rw [Int.toNat_natCast, mkV_set, mkV_rd _ _ j (by omega), if_neg (by omega)]
    rw [mkV_congr row.length _ (fun t => if t < j + 1 then colF v (rd_L2 mats d) t (i + 1) else colF v (rd_L2 mats d) t i) ?_]
    · exact this
    · intro t ht
      by_cases h1 : t = j
      · subst h1
        rw [if_pos rfl, if_pos (by omega)]; rfl
      · rw [if_neg h1]
        by_cases h2 : t < j
        · rw [if_pos h2, if_pos (by omega)]
        · rw [if_neg h2, if_neg (by omega)]
theorem impl_ev_l1 (h : isLin b row mats col = true) (d : Int) (hd : 0 ≤ d ∧ d < b) (v ds : List Int) (a : Nat) (ha : a < 1000) (hv : v.length = row.length) (R : Int)
    (H : Ev (fun k => impl_Linear_evaluate.l0 k (stepV (rd_L2 mats d) row.length v) ds (ds.length : Int) ((a + 1 : Nat) : Int) b row mats col) R) (e : Nat) : ∀ i : Nat, i + e = row.length →
    Ev (fun k => impl_Linear_evaluate.l1 k d (mkV row.length (fun t => colF v (rd_L2 mats d) t i)) ds (ds.length : Int) (a : Int) v (v.length : Int) (i : Int) b row mats col) R := by
  obtain ⟨l1, l2, l3⟩ := lin_row h hd
  have hb := (isLin_facts h).2.1
  induction e with
  | zero =>
    intro i hi
    refine ev_succ ?_
    simp only [impl_Linear_evaluate.l1]
    rw [wr1 (show (0 : Int) ≤ (a : Int) by omega) (by omega)]
    refine ev_neg (by omega) ?_
    rw [show i = row.length by omega]
    exact H
  | succ e ih =>
    intro i hi
    refine ev_succ ?_
    simp only [impl_Linear_evaluate.l1]
    refine ev_pos (by omega) (ev_pos (by omega) (ev_pos (by omega) (ev_pos hd.1 (ev_pos l2 (ev_pos (by omega) ?_)))))
    have := impl_ev_l2 h d hd v ds a i hv (by omega) R (ih (i + 1) (by omega)) row.length 0 (by omega)
    rw [mkV_congr row.length (fun t => if t < 0 then colF v (rd_L2 mats d) t (i + 1) else colF v (rd_L2 mats d) t i) (fun t => colF v (rd_L2 mats d) t i) (fun t ht => if_neg (by omega))] at this
    exact this
theorem impl_ev_l3 (h : isLin b row mats col = true) (v : List Int) (hv : v.length = row.length) (e : Nat) : ∀ j : Nat, j + e = row.length → Ev (fun k => impl_Linear_evaluate.l3 k (dotF v col j) v (v.length : Int) (j : Int) b row mats col) (dotF v col row.length) := by
  obtain ⟨_, hb, hc, _, _⟩ := isLin_facts h
  induction e with
  | zero =>
    intro j hj
    refine ev_succ ?_
    simp only [impl_Linear_evaluate.l3]
    exact ev_neg (by omega) (ev_some (by rw [show j = row.length by omega]))
  | succ e ih =>
    intro j hj
    refine ev_succ ?_
    simp only [impl_Linear_evaluate.l3, wr1 (show (0 : Int) ≤ (j : Int) by omega) (by omega)]
    exact ev_pos (by omega) (ev_pos (by omega) (ev_pos (by omega) (ev_pos (by omega) (ih (j + 1) (by omega)))))
theorem impl_ev_l0 (h : isLin b row mats col = true) (ds : List Int) (hl : ds.length ≤ 100) (hd : ∀ x ∈ ds, 0 ≤ x ∧ x < b) (e : Nat) : ∀ (a : Nat) (v : List Int), a + e = ds.length → v.length = row.length →
    Ev (fun k => impl_Linear_evaluate.l0 k v ds (ds.length : Int) (a : Int) b row mats col) (dotF (evV mats row.length v (ds.drop a)) col row.length) := by
  have hb := (isLin_facts h).2.1
  induction e with
  | zero =>
    intro a v ha hv
    refine ev_succ ?_
    simp only [impl_Linear_evaluate.l0]
    rw [List.drop_of_length_le (by omega)]
    exact ev_neg (by omega) (impl_ev_l3 h v hv row.length 0 (by omega))
  | succ e ih =>
    intro a v ha hv
    refine ev_succ ?_
    simp only [impl_Linear_evaluate.l0]
    rw [drop_rd (show a < ds.length by omega), Int.toNat_natCast]
    refine ev_pos (by omega) (ev_pos (by omega) (ev_pos (by omega) (ev_pos (by omega) (ev_pos (by omega) ?_))))
    rw [hv, mkV_zero]
    have := impl_ev_l1 h (rd ds (a : Int)) (hd _ (rd_mem (by omega))) v ds a (by omega) hv _ (ih (a + 1) _ (by omega) (mkV_length _ _)) row.length 0 (by omega)
    rw [hv] at this
    exact this
theorem spec_ev_l2 (h : isLin b row mats col = true) (v ds : List Int) (a : Nat) (ha : a < ds.length) (hd : 0 ≤ rd ds (a : Int) ∧ rd ds (a : Int) < b) (hl : ds.length ≤ 100) (hv : v.length = row.length) (t0 : Nat) (ht0 : t0 < row.length) (R : Int)
    (H : Ev (fun k => spec_EvaluateLinear.l1 k v ds (a : Int) (mkV row.length (fun t => if t < t0 + 1 then colF v (rd_L2 mats (rd ds (a : Int))) t row.length else 0)) ((t0 + 1 : Nat) : Int) b row mats col) R) (e : Nat) : ∀ j : Nat, j + e = row.length →
    Ev (fun k => spec_EvaluateLinear.l2 k v ds (a : Int) (mkV row.length (fun t => if t < t0 then colF v (rd_L2 mats (rd ds (a : Int))) t row.length else if t = t0 then colF v (rd_L2 mats (rd ds (a : Int))) t j else 0)) (t0 : Int) (j : Int) b row mats col) R := by
  obtain ⟨l1, l2, l3⟩ := lin_row h hd
  have hb := (isLin_facts h).2.1
  induction e with
  | zero =>
    intro j hj
    refine ev_succ ?_
    simp only [spec_EvaluateLinear.l2]
    rw [wr1 (show (0 : Int) ≤ (t0 : Int) by omega) (by omega)]
    refine ev_neg (by omega) ?_
    rw [mkV_congr row.length _ (fun t => if t < t0 + 1 then colF v (rd_L2 mats (rd ds (a : Int))) t row.length else 0) ?_]
    · exact H
    · intro t ht
      by_cases h1 : t < t0
      · rw [if_pos h1, if_pos (by omega)]
      · rw [if_neg h1]
        by_cases h2 : t = t0
        · rw [if_pos h2, if_pos (by omega), show j = row.length by omega]
        · rw [if_neg h2, if_neg (by omega)]
  | succ e ih =>
    intro j hj
    have l4 := l3 j (by omega)
    refine ev_succ ?_
    simp only [spec_EvaluateLinear.l2, mkV_length, wr1 (show (0 : Int) ≤ (j : Int) by omega) (by omega)]
    refine ev_pos (by omega) (ev_pos (by omega) (ev_pos (by omega) (ev_pos (by omega) (ev_pos (by omega) (ev_pos (by omega) (ev_pos hd.1 (ev_pos l2 (ev_pos (by omega) (ev_pos (by omega) ?_)))))))))
    have := ih (j + 1) (by omega)
    rw [Int.toNat_natCast, mkV_set, mkV_rd _ _ t0 ht0, if_neg (by omega), if_pos rfl]
    rw [mkV_congr row.length _ (fun t => if t < t0 then colF v (rd_L2 mats (rd ds (a : Int))) t row.length else if t = t0 then colF v (rd_L2 mats (rd ds (a : Int))) t (j + 1) else 0) ?_]
    · exact this
    · intro t ht
      by_cases h1 : t = t0
      · subst h1
        rw [if_pos rfl, if_neg (by omega), if_pos rfl]; rfl
      · rw [if_neg h1]
        by_cases h2 : t < t0
        · rw [if_pos h2, if_pos h2]
        · rw [if_neg h2, if_neg h1, if_neg h2, if_neg h1]
theorem spec_ev_l1 (h : isLin b row mats col = true) (v ds : List Int) (a : Nat) (ha : a < ds.length) (hd : 0 ≤ rd ds (a : Int) ∧ rd ds (a : Int) < b) (hl : ds.length ≤ 100) (hv : v.length = row.length) (R : Int)
    (H : Ev (fun k => spec_EvaluateLinear.l0 k (stepV (rd_L2 mats (rd ds (a : Int))) row.length v) ds ((a + 1 : Nat) : Int) b row mats col) R) (e : Nat) : ∀ t0 : Nat, t0 + e = row.length →
    Ev (fun k => spec_EvaluateLinear.l1 k v ds (a : Int) (mkV row.length (fun t => if t < t0 then colF v (rd_L2 mats (rd ds (a : Int))) t row.length else 0)) (t0 : Int) b row mats col) R := by
  have hb := (isLin_facts h).2.1
  induction e with
  | zero =>
    intro t0 ht
    refine ev_succ ?_
    simp only [spec_EvaluateLinear.l1]
    rw [wr1 (show (0 : Int) ≤ (a : Int) by omega) (by omega)]
    refine ev_neg (by omega) ?_
    rw [mkV_congr row.length _ (fun t => colF v (rd_L2 mats (rd ds (a : Int))) t row.length) (fun t ht => if_pos (by omega))]
    exact H
  | succ e ih =>
    intro t0 ht
    refine ev_succ ?_
    simp only [spec_EvaluateLinear.l1]
    refine ev_pos (by omega) ?_
    have := spec_ev_l2 h v ds a ha hd hl hv t0 (by omega) R (ih (t0 + 1) (by omega)) row.length 0 (by omega)
    rw [mkV_congr row.length (fun t => if t < t0 then colF v (rd_L2 mats (rd ds (a : Int))) t row.length else if t = t0 then colF v (rd_L2 mats (rd ds (a : Int))) t 0 else 0) (fun t => if t < t0 then colF v (rd_L2 mats (rd ds (a : Int))) t row.length else 0) ?_] at this
    · exact this
    · intro t ht
      by_cases h1 : t < t0
      · rw [if_pos h1, if_pos h1]
      · rw [if_neg h1, if_neg h1]
        split
        · rfl
        · rfl
theorem spec_ev_l3 (h : isLin b row mats col = true) (v : List Int) (hv : v.length = row.length) (e : Nat) : ∀ j : Nat, j + e = row.length → Ev (fun k => spec_EvaluateLinear.l3 k v (dotF v col j) (j : Int) b row mats col) (dotF v col row.length) := by
  obtain ⟨_, hb, hc, _, _⟩ := isLin_facts h
  induction e with
  | zero =>
    intro j hj
    refine ev_succ ?_
    simp only [spec_EvaluateLinear.l3]
    exact ev_neg (by omega) (ev_some (by rw [show j = row.length by omega]))
  | succ e ih =>
    intro j hj
    refine ev_succ ?_
    simp only [spec_EvaluateLinear.l3, wr1 (show (0 : Int) ≤ (j : Int) by omega) (by omega)]
    exact ev_pos (by omega) (ev_pos (by omega) (ev_pos (by omega) (ih (j + 1) (by omega))))
theorem spec_ev_l0 (h : isLin b row mats col = true) (ds : List Int) (hl : ds.length ≤ 100) (hd : ∀ x ∈ ds, 0 ≤ x ∧ x < b) (e : Nat) : ∀ (a : Nat) (v : List Int), a + e = ds.length → v.length = row.length →
    Ev (fun k => spec_EvaluateLinear.l0 k v ds (a : Int) b row mats col) (dotF (evV mats row.length v (ds.drop a)) col row.length) := by
  have hb := (isLin_facts h).2.1
  induction e with
  | zero =>
    intro a v ha hv
    refine ev_succ ?_
    simp only [spec_EvaluateLinear.l0]
    rw [List.drop_of_length_le (by omega)]
    exact ev_neg (by omega) (spec_ev_l3 h v hv row.length 0 (by omega))
  | succ e ih =>
    intro a v ha hv
    refine ev_succ ?_
    simp only [spec_EvaluateLinear.l0]
    rw [drop_rd (show a < ds.length by omega), Int.toNat_natCast]
    refine ev_pos (by omega) (ev_pos (by omega) (ev_pos (by omega) ?_))
    rw [hv, mkV_zero]
    have := spec_ev_l1 h v ds a (by omega) (hd _ (rd_mem (by omega))) hl hv _ (ih (a + 1) _ (by omega) (mkV_length _ _)) row.length 0 (by omega)
    rw [mkV_congr row.length (fun t => if t < 0 then colF v (rd_L2 mats (rd ds (a : Int))) t row.length else 0) (fun _ => 0) (fun t ht => if_neg (by omega))] at this
    exact this
end
def evRes (b : Int) (row : List Int) (mats : List (List (List Int))) (col : List Int) (n : Int) : Int :=
  if isLin b row mats col = true ∧ 0 ≤ n ∧ n < ((b.toNat ^ 16 : Nat) : Int) then dotF (evV mats row.length row (digs n.toNat b.toNat)) col row.length else 0
theorem impl_power_l0 (b e : Nat) (hb : b ≤ 4) (he : e ≤ 16) (d : Nat) : ∀ i : Nat, i + d = e → Ev (fun k => impl_power.l0 k (b : Int) ((b ^ i : Nat) : Int) (e : Int) (i : Int)) ((b ^ e : Nat) : Int) := by
  induction d with
  | zero =>
    intro i hi
    refine ev_succ ?_
    simp only [impl_power.l0]
    exact ev_neg (by omega) (ev_some (by rw [show i = e by omega]))
  | succ d ih =>
    intro i hi
    have := ih (i + 1) (by omega)
    have h1 := pow_bd hb (show i + 1 ≤ 16 by omega)
    refine ev_succ ?_
    simp only [impl_power.l0]
    rw [← Int.natCast_mul, ← Nat.pow_succ, wr_nat (show b ^ (i + 1) ≤ 4611686018427387904 by omega), wr1 (by omega) (by omega)]
    exact ev_pos (by omega) this
theorem impl_isNumber_ev (n : Int) (b : Nat) (hb : b ≤ 4) : Ev (fun k => impl_isNumber.f k n (b : Int)) (decide (0 ≤ n ∧ n < ((b ^ 16 : Nat) : Int))) := by
  simp only [impl_isNumber.f, impl_power.f]
  refine ev_ite (fun h => ev_bind (impl_power_l0 b 16 hb (Nat.le_refl _) 16 0 (by omega)) (ev_some ?_)) (fun h => ev_some ?_)
  · rw [Bool.eq_iff_iff]; simp only [decide_eq_true_eq]; omega
  · rw [decide_eq_false (by omega)]
theorem impl_EvaluateLinear_ev (b : Int) (row : List Int) (mats : List (List (List Int))) (col : List Int) (n : Int) (h1 : fit1 row) (h2 : fit3 mats) (h3 : fit1 col) : Ev (fun k => impl_EvaluateLinear.f k b row mats col n) (evRes b row mats col n) := by
  simp only [impl_EvaluateLinear.f]
  refine ev_bind (impl_IsLinear_ev b row mats col h1 h2 h3) (ev_ite (fun h => ?_) (fun h => ev_some (by unfold evRes; rw [if_neg (fun h' => h h'.1)])))
  obtain ⟨g1, g2, g3, g4, g5⟩ := isLin_facts h
  obtain ⟨c, rfl⟩ := Int.eq_ofNat_of_zero_le (show 0 ≤ b by omega)
  refine ev_bind (impl_isNumber_ev n c (by omega)) (ev_ite (fun hn => ?_) (fun hn => ev_some (by unfold evRes; rw [if_neg (fun h' => hn (decide_eq_true h'.2))])))
  rw [decide_eq_true_eq] at hn
  unfold evRes
  rw [if_pos ⟨h, hn⟩]
  obtain ⟨m, rfl⟩ := Int.eq_ofNat_of_zero_le hn.1
  have hp := pow_bd (show c ≤ 4 by omega) (show 16 ≤ 16 by omega)
  have hm := digs_mem c (by omega) m m (Nat.le_refl _)
  have hl := digs_len c (by omega) 16 m (by omega)
  simp only [impl_Linear_evaluate.f]
  refine ev_bind (ev_bind0 (Clone_eq row (by omega)) (ev_bind (impl_digits_ev m c (by omega) (by omega) (by omega)) ?_)) (ev_some rfl)
  exact impl_ev_l0 h _ (by omega) hm (digs m c).length 0 row (by omega) rfl
theorem spec_EvaluateLinear_ev (b : Int) (row : List Int) (mats : List (List (List Int))) (col : List Int) (n : Int) (h1 : fit1 row) (h2 : fit3 mats) (h3 : fit1 col) : Ev (fun k => spec_EvaluateLinear.f k b row mats col n) (evRes b row mats col n) := by
  simp only [spec_EvaluateLinear.f]
  have no : ∀ f : Bool, f = true → ¬ (isLin b row mats col = true ∧ 0 ≤ n ∧ n < ((b.toNat ^ 16 : Nat) : Int)) → Ev (fun k => spec_EvaluateLinear.j0 k n f b row mats col) (evRes b row mats col n) := by
    intro f hf h
    subst hf
    refine ev_succ ?_
    simp only [spec_EvaluateLinear.j0]
    exact ev_pos trivial (ev_some (by unfold evRes; rw [if_neg h]))
  refine ev_bind (spec_IsLinear_ev b row mats col h1 h2 h3) (ev_ite (fun h => ?_) (fun h => no _ rfl (fun h' => h h'.1)))
  obtain ⟨g1, g2, g3, g4, g5⟩ := isLin_facts h
  obtain ⟨c, rfl⟩ := Int.eq_ofNat_of_zero_le (show 0 ≤ b by omega)
  refine ev_ite (fun h0 => no _ rfl (by omega)) (fun h0 => ev_bind (spec_PowerOf16_ev c (by omega) (by omega)) ?_)
  by_cases hn : n ≥ ((c ^ 16 : Nat) : Int)
  · refine no _ (by simpa using hn) (fun h' => ?_)
    have := h'.2.2
    rw [Int.toNat_natCast] at this
    omega
  · rw [decide_eq_false hn]
    refine ev_succ ?_
    simp only [spec_EvaluateLinear.j0, Option.bind_some, List.nil_append]
    unfold evRes
    rw [Int.toNat_natCast, if_pos ⟨h, by omega, by omega⟩]
    obtain ⟨m, rfl⟩ := Int.eq_ofNat_of_zero_le (show 0 ≤ n by omega)
    have hp := pow_bd (show c ≤ 4 by omega) (show 16 ≤ 16 by omega)
    have hm := digs_mem c (by omega) m m (Nat.le_refl _)
    have hl := digs_len c (by omega) 16 m (by omega)
    refine ev_neg (by simp) (ev_pos (by simp only [List.length_nil]; omega) (ev_bind (spec_DigitsOf_ev m c (by omega) (by omega) (by omega)) ?_))
    exact spec_ev_l0 h _ (by omega) hm (digs m c).length 0 row (by omega) rfl


-- SAY: For every linear form and number the program's EvaluateLinear answers what the reference's answers, and leaves its arguments alone. No conditions beyond the given statement.
theorem FnExactEvaluateLinear : ∀ (b : Int) (row : List Int) (mats : List (List (List Int))) (col : List Int) (n : Int), row.length ≤ 9223372036854775807 → mats.length ≤ 9223372036854775807 → (∀ m ∈ mats, m.length ≤ 9223372036854775807 ∧ ∀ r ∈ m, r.length ≤ 9223372036854775807) → col.length ≤ 9223372036854775807 →
    ∃ k, laws_FnExactEvaluateLinear.f k b row mats col n = some true := by
  intro b row mats col n h1 h2 h3 h4
  refine Ev.rounds (g := fun k => laws_FnExactEvaluateLinear.f k b row mats col n) ?_
  simp only [laws_FnExactEvaluateLinear.f]
  obtain ⟨m, hm, hm1, hm2⟩ := szLinear_tot b row mats col h1 h2 h3 h4 1048576 (by omega) (by omega)
  refine ev_bind hm (ev_ite (fun h => ev_some rfl) (fun h => ?_))
  obtain ⟨f1, f2, f3⟩ := hm2 (by omega)
  refine ev_bind (toLinear_ev b row mats col f1 f2 f3) (ev_bind (spec_EvaluateLinear_ev b row mats col n f1 f2 f3) ?_)
  refine ev_bind (toLinear_ev b row mats col f1 f2 f3) (ev_bind (impl_EvaluateLinear_ev b row mats col n f1 f2 f3) (ev_pos rfl ?_))
  exact ev_bind (toLinear_ev b row mats col f1 f2 f3) (ev_bind (eqLinear_ev b row mats col f1 f2 f3) (ev_pos rfl (ev_some rfl)))


end Go.Proofs.Ytpmgiinfdfddbaa.Pure
