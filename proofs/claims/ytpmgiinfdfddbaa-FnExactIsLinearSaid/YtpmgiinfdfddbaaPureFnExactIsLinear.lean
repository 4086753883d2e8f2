/- For every linear form the program's IsLinear answers what the reference's answers, and leaves its argument alone. No conditions beyond the given statement. -/
import Derived.Test.YtpmgiinfdfddbaaPFnExactIsLinearx6
set_option linter.unusedVariables false
set_option linter.unusedSimpArgs false
namespace Go.Proofs.Ytpmgiinfdfddbaa.Pure
open Go.RowKit Go.Proofs.Ytpmgiinfdfddbaa.PFnExactIsLinear Go.Proofs.YtpmgiinfdfddbaaW.PrintWords Go.Proofs.YtpmgiinfdfddbaaW.PrintLast

theorem ev_succ {α : Type} {g : Nat → Option α} {r : α} (h : Ev (fun k => g (k + 1)) r) : Ev g r := Ev.step (fun _ => rfl) h
theorem ev_some {α : Type} {r r' : α} (h : r = r') : Ev (fun _ => some r) r' := by subst h; exact Ev.now r
theorem ev_pos {α : Type} {c : Prop} [Decidable c] {g f : Nat → Option α} {r : α} (hc : c) (h : Ev g r) : Ev (fun k => if c then g k else f k) r := by
  simp only [if_pos hc]; exact h
theorem ev_neg {α : Type} {c : Prop} [Decidable c] {g f : Nat → Option α} {r : α} (hc : ¬ c) (h : Ev f r) : Ev (fun k => if c then g k else f k) r := by
  simp only [if_neg hc]; exact h
theorem ev_ite {α : Type} {c : Prop} [Decidable c] {g f : Nat → Option α} {r : α} (h : c → Ev g r) (h' : ¬ c → Ev f r) : Ev (fun k => if c then g k else f k) r := by
  by_cases hc : c
  · exact ev_pos hc (h hc)
  · exact ev_neg hc (h' hc)
theorem ev_bind {α β : Type} {g : Nat → Option α} {f : Nat → α → Option β} {a : α} {r : β} (h : Ev g a) (k : Ev (fun n => f n a) r) : Ev (fun n => (g n).bind (f n)) r := Ev.bind h k
theorem ev_bind0 {α β : Type} {o : Option α} {f : Nat → α → Option β} {a : α} {r : β} (h : o = some a) (k : Ev (fun n => f n a) r) : Ev (fun n => o.bind (f n)) r := by
  subst h; exact k
theorem ev_eq {α : Type} {g : Nat → Option α} {r r' : α} (h : Ev g r) (e : r = r') : Ev g r' := e ▸ h
theorem ev_const {α : Type} {o : Option α} {r : α} (h : o = some r) : Ev (fun _ => o) r := by subst h; exact Ev.now r
theorem wr {n : Int} (h0 : -9223372036854775808 ≤ n) (h1 : n ≤ 9223372036854775807) : wrap64 n = n := by unfold wrap64; omega
theorem wr1 {i : Int} (h0 : 0 ≤ i) (h1 : i ≤ 4611686018427387904) : wrap64 (i + 1) = i + 1 := wr (by omega) (by omega)
theorem wr_nat {n : Nat} (h : n ≤ 4611686018427387904) : wrap64 (n : Int) = n := wr (by omega) (by omega)
theorem rd_nat (l : List Int) (i : Nat) : rd l (i : Int) = l.getD i 0 := by simp [rd]
theorem rd_get {l : List Int} {i : Nat} (h : i < l.length) : rd l (i : Int) = l[i] := by
  simp [rd, List.getD_eq_getElem?_getD, List.getElem?_eq_getElem h]
theorem drop_rd {l : List Int} {i : Nat} (h : i < l.length) : l.drop i = rd l (i : Int) :: l.drop (i + 1) := by
  rw [rd_get h]; exact List.drop_eq_getElem_cons h
theorem rd_mem {l : List Int} {i : Nat} (h : i < l.length) : rd l (i : Int) ∈ l := by rw [rd_get h]; exact List.getElem_mem h


theorem toIntS_l0 (l : List Int) (hn : l.length ≤ 4611686018427387904) (d : Nat) : ∀ (i : Nat) (x : List Int), i + d = l.length → x.length = l.length → (∀ j, j < i → x[j]? = l[j]?) →
    Ev (fun k => laws_toIntS.l0 k l x (i : Int)) l := by
  induction d with
  | zero =>
    intro i x hi hx hj
    refine ev_succ ?_
    simp only [laws_toIntS.l0]
    refine ev_neg (by omega) (ev_some ?_)
    apply List.ext_getElem?
    intro j
    by_cases h : j < i
    · exact hj j h
    · rw [List.getElem?_eq_none (by omega), List.getElem?_eq_none (by omega)]
  | succ d ih =>
    intro i x hi hx hj
    refine ev_succ ?_
    simp only [laws_toIntS.l0, wr1 (show (0 : Int) ≤ (i : Int) by omega) (by omega)]
    refine ev_pos (by omega) (ev_pos (by omega) (ev_pos (by omega) ?_))
    refine ih (i + 1) _ (by omega) (by simp [hx]) ?_
    intro j hj'
    rw [Int.toNat_natCast, rd_get (by omega), List.getElem?_set]
    by_cases e : i = j
    · subst e
      rw [if_pos rfl, if_pos (by omega), List.getElem?_eq_getElem (by omega)]
    · rw [if_neg e]; exact hj j (by omega)
theorem toIntS_ev (l : List Int) (hn : l.length ≤ 35184372088832) : Ev (fun k => laws_toIntS.f k l) l := by
  simp only [laws_toIntS.f]
  refine ev_pos (by omega) (ev_pos (by omega) ?_)
  exact toIntS_l0 l (by omega) l.length 0 _ (by omega) (by simp) (by intro j hj; omega)


theorem eqIntS_l0 (l : List Int) (hn : l.length ≤ 4611686018427387904) (d : Nat) : ∀ (i : Nat), i + d = l.length → Ev (fun k => laws_eqIntS.l0 k l l (i : Int)) true := by
  induction d with
  | zero =>
    intro i hi
    refine ev_succ ?_
    simp only [laws_eqIntS.l0]
    exact ev_neg (by omega) (ev_some rfl)
  | succ d ih =>
    intro i hi
    refine ev_succ ?_
    simp only [laws_eqIntS.l0, wr1 (show (0 : Int) ≤ (i : Int) by omega) (by omega)]
    exact ev_pos (by omega) (ev_pos (by omega) (ev_pos (by omega) (ev_pos trivial (ih (i + 1) (by omega)))))
theorem eqIntS_ev (l : List Int) (hn : l.length ≤ 4611686018427387904) : Ev (fun k => laws_eqIntS.f k l l) true := by
  simp only [laws_eqIntS.f]
  exact ev_pos trivial (eqIntS_l0 l hn l.length 0 (by omega))


theorem rdLL_at {l : List (List Int)} {i : Nat} (h : i < l.length) : rd_L1 l (i : Int) = l[i] := by
  simp [rd_L1, List.getD_eq_getElem?_getD, List.getElem?_eq_getElem h]
theorem drop_rdLL {l : List (List Int)} {i : Nat} (h : i < l.length) : l.drop i = rd_L1 l (i : Int) :: l.drop (i + 1) := by
  rw [rdLL_at h]; exact List.drop_eq_getElem_cons h
theorem rdLL_mem {l : List (List Int)} {i : Nat} (h : i < l.length) : rd_L1 l (i : Int) ∈ l := by rw [rdLL_at h]; exact List.getElem_mem h
theorem rdLLL_at {l : List (List (List Int))} {i : Nat} (h : i < l.length) : rd_L2 l (i : Int) = l[i] := by
  simp [rd_L2, List.getD_eq_getElem?_getD, List.getElem?_eq_getElem h]
theorem drop_rdLLL {l : List (List (List Int))} {i : Nat} (h : i < l.length) : l.drop i = rd_L2 l (i : Int) :: l.drop (i + 1) := by
  rw [rdLLL_at h]; exact List.drop_eq_getElem_cons h
theorem rdLLL_mem {l : List (List (List Int))} {i : Nat} (h : i < l.length) : rd_L2 l (i : Int) ∈ l := by rw [rdLLL_at h]; exact List.getElem_mem h
/-- all rows are short -/
def fit1 (l : List Int) : Prop := l.length ≤ 1048576
def fit2 (l : List (List Int)) : Prop := l.length ≤ 1048576 ∧ ∀ r ∈ l, fit1 r
def fit3 (l : List (List (List Int))) : Prop := l.length ≤ 1048576 ∧ ∀ m ∈ l, fit2 m
theorem toIntSS_l0 (l : List (List Int)) (hf : fit2 l) (d : Nat) : ∀ (i : Nat) (x : List (List Int)), i + d = l.length → x.length = l.length → (∀ j, j < i → x[j]? = l[j]?) →
    Ev (fun k => laws_toIntSS.l0 k l x (i : Int)) l := by
  have hn := hf.1
  induction d with
  | zero =>
    intro i x hi hx hj
    refine ev_succ ?_
    simp only [laws_toIntSS.l0]
    refine ev_neg (by omega) (ev_some ?_)
    apply List.ext_getElem?
    intro j
    by_cases h : j < i
    · exact hj j h
    · rw [List.getElem?_eq_none (by omega), List.getElem?_eq_none (by omega)]
  | succ d ih =>
    intro i x hi hx hj
    refine ev_succ ?_
    simp only [laws_toIntSS.l0, wr1 (show (0 : Int) ≤ (i : Int) by omega) (by omega)]
    have hr := hf.2 _ (rdLL_mem (show i < l.length by omega))
    unfold fit1 at hr
    refine ev_pos (by omega) (ev_pos (by omega) (ev_bind (toIntS_ev _ (by omega)) (ev_pos (by omega) ?_)))
    refine ih (i + 1) _ (by omega) (by simp [hx]) ?_
    intro j hj'
    rw [Int.toNat_natCast, rdLL_at (by omega), List.getElem?_set]
    by_cases e : i = j
    · subst e
      rw [if_pos rfl, if_pos (by omega), List.getElem?_eq_getElem (by omega)]
    · rw [if_neg e]; exact hj j (by omega)
theorem toIntSS_ev (l : List (List Int)) (hf : fit2 l) : Ev (fun k => laws_toIntSS.f k l) l := by
  have hn := hf.1
  simp only [laws_toIntSS.f]
  refine ev_pos (by omega) (ev_pos (by omega) ?_)
  exact toIntSS_l0 l hf l.length 0 _ (by omega) (by simp) (by intro j hj; omega)
theorem toIntSSS_l0 (l : List (List (List Int))) (hf : fit3 l) (d : Nat) : ∀ (i : Nat) (x : List (List (List Int))), i + d = l.length → x.length = l.length → (∀ j, j < i → x[j]? = l[j]?) →
    Ev (fun k => laws_toIntSSS.l0 k l x (i : Int)) l := by
  have hn := hf.1
  induction d with
  | zero =>
    intro i x hi hx hj
    refine ev_succ ?_
    simp only [laws_toIntSSS.l0]
    refine ev_neg (by omega) (ev_some ?_)
    apply List.ext_getElem?
    intro j
    by_cases h : j < i
    · exact hj j h
    · rw [List.getElem?_eq_none (by omega), List.getElem?_eq_none (by omega)]
  | succ d ih =>
    intro i x hi hx hj
    refine ev_succ ?_
    simp only [laws_toIntSSS.l0, wr1 (show (0 : Int) ≤ (i : Int) by omega) (by omega)]
    have hr := hf.2 _ (rdLLL_mem (show i < l.length by omega))
    refine ev_pos (by omega) (ev_pos (by omega) (ev_bind (toIntSS_ev _ hr) (ev_pos (by omega) ?_)))
    refine ih (i + 1) _ (by omega) (by simp [hx]) ?_
    intro j hj'
    rw [Int.toNat_natCast, rdLLL_at (by omega), List.getElem?_set]
    by_cases e : i = j
    · subst e
      rw [if_pos rfl, if_pos (by omega), List.getElem?_eq_getElem (by omega)]
    · rw [if_neg e]; exact hj j (by omega)
theorem toIntSSS_ev (l : List (List (List Int))) (hf : fit3 l) : Ev (fun k => laws_toIntSSS.f k l) l := by
  have hn := hf.1
  simp only [laws_toIntSSS.f]
  refine ev_pos (by omega) (ev_pos (by omega) ?_)
  exact toIntSSS_l0 l hf l.length 0 _ (by omega) (by simp) (by intro j hj; omega)
theorem eqIntSS_l0 (l : List (List Int)) (hf : fit2 l) (d : Nat) : ∀ (i : Nat), i + d = l.length → Ev (fun k => laws_eqIntSS.l0 k l l (i : Int)) true := by
  have hn := hf.1
  induction d with
  | zero =>
    intro i hi
    refine ev_succ ?_
    simp only [laws_eqIntSS.l0]
    exact ev_neg (by omega) (ev_some rfl)
  | succ d ih =>
    intro i hi
    have hr := hf.2 _ (rdLL_mem (show i < l.length by omega))
    unfold fit1 at hr
    refine ev_succ ?_
    simp only [laws_eqIntSS.l0, wr1 (show (0 : Int) ≤ (i : Int) by omega) (by omega)]
    exact ev_pos (by omega) (ev_pos (by omega) (ev_pos (by omega) (ev_bind (eqIntS_ev _ (by omega)) (ev_pos rfl (ih (i + 1) (by omega))))))
theorem eqIntSS_ev (l : List (List Int)) (hf : fit2 l) : Ev (fun k => laws_eqIntSS.f k l l) true := by
  simp only [laws_eqIntSS.f]
  exact ev_pos trivial (eqIntSS_l0 l hf l.length 0 (by omega))
theorem eqIntSSS_l0 (l : List (List (List Int))) (hf : fit3 l) (d : Nat) : ∀ (i : Nat), i + d = l.length → Ev (fun k => laws_eqIntSSS.l0 k l l (i : Int)) true := by
  have hn := hf.1
  induction d with
  | zero =>
    intro i hi
    refine ev_succ ?_
    simp only [laws_eqIntSSS.l0]
    exact ev_neg (by omega) (ev_some rfl)
  | succ d ih =>
    intro i hi
    have hr := hf.2 _ (rdLLL_mem (show i < l.length by omega))
    refine ev_succ ?_
    simp only [laws_eqIntSSS.l0, wr1 (show (0 : Int) ≤ (i : Int) by omega) (by omega)]
    exact ev_pos (by omega) (ev_pos (by omega) (ev_pos (by omega) (ev_bind (eqIntSS_ev _ hr) (ev_pos rfl (ih (i + 1) (by omega))))))
theorem eqIntSSS_ev (l : List (List (List Int))) (hf : fit3 l) : Ev (fun k => laws_eqIntSSS.f k l l) true := by
  simp only [laws_eqIntSSS.f]
  exact ev_pos trivial (eqIntSSS_l0 l hf l.length 0 (by omega))


/-- g tells some answer of which P is known -/
def Tot {α : Type} (g : Nat → Option α) (P : α → Prop) : Prop := ∃ r, Ev g r ∧ P r
theorem tot_of {α : Type} {g : Nat → Option α} {P : α → Prop} {r : α} (h : Ev g r) (hp : P r) : Tot g P := ⟨r, h, hp⟩
theorem tot_some {α : Type} {r : α} {P : α → Prop} (h : P r) : Tot (fun _ => some r) P := ⟨r, Ev.now r, h⟩
theorem tot_bind {α β : Type} {g : Nat → Option α} {f : Nat → α → Option β} {P : α → Prop} {Q : β → Prop} (h : Tot g P) (k : ∀ a, P a → Tot (fun n => f n a) Q) : Tot (fun n => (g n).bind (f n)) Q := by
  obtain ⟨a, ha, hp⟩ := h
  obtain ⟨r, hr, hq⟩ := k a hp
  exact ⟨r, Ev.bind ha hr, hq⟩
theorem tot_bind0 {α β : Type} {o : Option α} {f : Nat → α → Option β} {P : α → Prop} {Q : β → Prop} (h : ∃ a, o = some a ∧ P a) (k : ∀ a, P a → Tot (fun n => f n a) Q) : Tot (fun n => o.bind (f n)) Q := by
  obtain ⟨a, ha, hp⟩ := h
  subst ha
  exact k a hp
theorem tot_pos {α : Type} {c : Prop} [Decidable c] {g f : Nat → Option α} {P : α → Prop} (hc : c) (h : Tot g P) : Tot (fun k => if c then g k else f k) P := by
  simp only [if_pos hc]; exact h
theorem tot_neg {α : Type} {c : Prop} [Decidable c] {g f : Nat → Option α} {P : α → Prop} (hc : ¬ c) (h : Tot f P) : Tot (fun k => if c then g k else f k) P := by
  simp only [if_neg hc]; exact h
theorem tot_ite {α : Type} {c : Prop} [Decidable c] {g f : Nat → Option α} {P : α → Prop} (h : c → Tot g P) (h' : ¬ c → Tot f P) : Tot (fun k => if c then g k else f k) P := by
  by_cases hc : c
  · exact tot_pos hc (h hc)
  · exact tot_neg hc (h' hc)
theorem tot_succ {α : Type} {g : Nat → Option α} {P : α → Prop} (h : Tot (fun k => g (k + 1)) P) : Tot g P := by
  obtain ⟨r, hr, hp⟩ := h
  exact ⟨r, ev_succ hr, hp⟩
theorem tot_mono {α : Type} {g : Nat → Option α} {P Q : α → Prop} (h : Tot g P) (k : ∀ a, P a → Q a) : Tot g Q := by
  obtain ⟨r, hr, hp⟩ := h
  exact ⟨r, hr, k r hp⟩
theorem bits_and_le (x : Int) (m : Nat) (hm : m < 4611686018427387904) : 0 ≤ Go.bits .and .i64 x (m : Int) ∧ Go.bits .and .i64 x (m : Int) ≤ m := by
  have h : ∀ n : Nat, n ≤ m → IntKind.i64.wrap (n : Int) = n := by
    intro n hn
    simp only [IntKind.wrap, IntKind.bits, IntKind.signed, Bool.true_and, decide_eq_true_eq]
    split
    · rename_i h
      have e : (2 : Int) ^ (64 - 1) = 9223372036854775808 := by decide
      have h2 : (n : Int) % 2 ^ 64 ≥ 2 ^ (64 - 1) := of_decide_eq_true h
      rw [e] at h2
      omega
    · omega
  simp only [Go.bits]
  have hb : (BitVec.ofInt IntKind.i64.bits (m : Int)).toNat = m := by
    simp only [BitVec.ofInt_natCast, BitVec.toNat_ofNat, IntKind.bits]
    exact Nat.mod_eq_of_lt (by omega)
  have hle : ((BitVec.ofInt IntKind.i64.bits x) &&& (BitVec.ofInt IntKind.i64.bits (m : Int))).toNat ≤ m := by
    rw [BitVec.toNat_and, hb]; exact Nat.and_le_right
  rw [h _ hle]
  omega
/-- a cursor's place and hash: the place is no negative number -/
def curOk (b : List Int) (i : Int) : Prop := 0 ≤ i ∧ b.length ≤ 1048576

/-- what the size's count tells: either it is used up, or what was counted fits -/
theorem szIntS_tot (l : List Int) (hl : l.length ≤ 9223372036854775807) (n : Int) (h0 : 0 ≤ n) (h1 : n ≤ 1048576) : ∃ r, laws_szIntS.f l n = some r ∧ r ≤ 1048576 ∧ (0 ≤ r → fit1 l) := by
  unfold laws_szIntS.f
  rw [wr (by omega) (by omega)]
  split
  · exact ⟨_, rfl, by omega, fun h => absurd h (by omega)⟩
  · exact ⟨_, rfl, by omega, fun _ => by unfold fit1; omega⟩
theorem szIntSS_l0 (l : List (List Int)) (hn : l.length ≤ 1048576) (hl : ∀ r ∈ l, r.length ≤ 9223372036854775807) (d : Nat) : ∀ (i : Nat) (n : Int), i + d = l.length → 0 ≤ n → n ≤ 1048576 → (∀ r ∈ l.take i, fit1 r) →
    Tot (fun k => laws_szIntSS.l0 k l n (i : Int)) (fun r => r ≤ 1048576 ∧ (0 ≤ r → fit2 l)) := by
  induction d with
  | zero =>
    intro i n hi h0 h1 hf
    refine tot_succ ?_
    simp only [laws_szIntSS.l0]
    rw [List.take_of_length_le (by omega)] at hf
    exact tot_neg (by omega) (tot_some ⟨h1, fun _ => ⟨hn, hf⟩⟩)
  | succ d ih =>
    intro i n hi h0 h1 hf
    refine tot_succ ?_
    simp only [laws_szIntSS.l0, wr1 (show (0 : Int) ≤ (i : Int) by omega) (by omega)]
    refine tot_pos (by omega) (tot_pos (by omega) (tot_bind0 (szIntS_tot _ (hl _ (rdLL_mem (show i < l.length by omega))) n h0 h1) (fun r hr => ?_)))
    refine tot_ite (fun h => tot_some ⟨by omega, fun h => absurd h (by omega)⟩) (fun h => ih (i + 1) r (by omega) (by omega) hr.1 ?_)
    intro x hx
    rw [List.take_succ_eq_append_getElem (by omega), ← rdLL_at (by omega), List.mem_append] at hx
    rcases hx with hx | hx
    · exact hf x hx
    · simp only [List.mem_cons, List.not_mem_nil, or_false] at hx
      rw [hx]; exact hr.2 (by omega)
theorem szIntSS_tot (l : List (List Int)) (hn : l.length ≤ 9223372036854775807) (hl : ∀ r ∈ l, r.length ≤ 9223372036854775807) (n : Int) (h0 : 0 ≤ n) (h1 : n ≤ 1048576) :
    Tot (fun k => laws_szIntSS.f k l n) (fun r => r ≤ 1048576 ∧ (0 ≤ r → fit2 l)) := by
  simp only [laws_szIntSS.f]
  rw [wr (by omega) (by omega)]
  refine tot_ite (fun h => tot_some ⟨by omega, fun h => absurd h (by omega)⟩) (fun h => ?_)
  exact szIntSS_l0 l (by omega) hl l.length 0 _ (by omega) (by omega) (by omega) (by simp)
theorem szIntSSS_l0 (l : List (List (List Int))) (hn : l.length ≤ 1048576) (hl : ∀ m ∈ l, m.length ≤ 9223372036854775807 ∧ ∀ r ∈ m, r.length ≤ 9223372036854775807) (d : Nat) : ∀ (i : Nat) (n : Int), i + d = l.length → 0 ≤ n → n ≤ 1048576 → (∀ r ∈ l.take i, fit2 r) →
    Tot (fun k => laws_szIntSSS.l0 k l n (i : Int)) (fun r => r ≤ 1048576 ∧ (0 ≤ r → fit3 l)) := by
  induction d with
  | zero =>
    intro i n hi h0 h1 hf
    refine tot_succ ?_
    simp only [laws_szIntSSS.l0]
    rw [List.take_of_length_le (by omega)] at hf
    exact tot_neg (by omega) (tot_some ⟨h1, fun _ => ⟨hn, hf⟩⟩)
  | succ d ih =>
    intro i n hi h0 h1 hf
    refine tot_succ ?_
    simp only [laws_szIntSSS.l0, wr1 (show (0 : Int) ≤ (i : Int) by omega) (by omega)]
    have hm := hl _ (rdLLL_mem (show i < l.length by omega))
    refine tot_pos (by omega) (tot_pos (by omega) (tot_bind (szIntSS_tot _ hm.1 hm.2 n h0 h1) (fun r hr => ?_)))
    refine tot_ite (fun h => tot_some ⟨by omega, fun h => absurd h (by omega)⟩) (fun h => ih (i + 1) r (by omega) (by omega) hr.1 ?_)
    intro x hx
    rw [List.take_succ_eq_append_getElem (by omega), ← rdLLL_at (by omega), List.mem_append] at hx
    rcases hx with hx | hx
    · exact hf x hx
    · simp only [List.mem_cons, List.not_mem_nil, or_false] at hx
      rw [hx]; exact hr.2 (by omega)
theorem szIntSSS_tot (l : List (List (List Int))) (hn : l.length ≤ 9223372036854775807) (hl : ∀ m ∈ l, m.length ≤ 9223372036854775807 ∧ ∀ r ∈ m, r.length ≤ 9223372036854775807) (n : Int) (h0 : 0 ≤ n) (h1 : n ≤ 1048576) :
    Tot (fun k => laws_szIntSSS.f k l n) (fun r => r ≤ 1048576 ∧ (0 ≤ r → fit3 l)) := by
  simp only [laws_szIntSSS.f]
  rw [wr (by omega) (by omega)]
  refine tot_ite (fun h => tot_some ⟨by omega, fun h => absurd h (by omega)⟩) (fun h => ?_)
  exact szIntSSS_l0 l (by omega) hl l.length 0 _ (by omega) (by omega) (by omega) (by simp)
theorem szLinear_tot (b : Int) (row : List Int) (mats : List (List (List Int))) (col : List Int) (h1 : row.length ≤ 9223372036854775807) (h2 : mats.length ≤ 9223372036854775807) (h3 : ∀ m ∈ mats, m.length ≤ 9223372036854775807 ∧ ∀ r ∈ m, r.length ≤ 9223372036854775807) (h4 : col.length ≤ 9223372036854775807)
    (n : Int) (h0 : 0 ≤ n) (hn : n ≤ 1048576) : Tot (fun k => laws_szLinear.f k b row mats col n) (fun r => r ≤ 1048576 ∧ (0 ≤ r → fit1 row ∧ fit3 mats ∧ fit1 col)) := by
  simp only [laws_szLinear.f]
  refine tot_bind0 (szIntS_tot row h1 n h0 hn) (fun r1 hr1 => tot_ite (fun h => tot_some ⟨by omega, fun h => absurd h (by omega)⟩) (fun h => ?_))
  refine tot_bind (szIntSSS_tot mats h2 h3 r1 (by omega) hr1.1) (fun r2 hr2 => tot_ite (fun h => tot_some ⟨by omega, fun h => absurd h (by omega)⟩) (fun h => ?_))
  refine tot_bind0 (szIntS_tot col h4 r2 (by omega) hr2.1) (fun r3 hr3 => tot_ite (fun h => tot_some ⟨by omega, fun h => absurd h (by omega)⟩) (fun h => ?_))
  exact tot_some ⟨hr3.1, fun h => ⟨hr1.2 (by omega), hr2.2 (by omega), hr3.2 (by omega)⟩⟩


theorem toLinear_ev (b : Int) (row : List Int) (mats : List (List (List Int))) (col : List Int) (h1 : fit1 row) (h2 : fit3 mats) (h3 : fit1 col) : Ev (fun k => laws_toLinear.f k b row mats col) (b, row, mats, col) := by
  unfold fit1 at h1 h3
  simp only [laws_toLinear.f]
  exact ev_bind (toIntS_ev row (by omega)) (ev_bind (toIntSSS_ev mats h2) (ev_bind (toIntS_ev col (by omega)) (ev_some rfl)))
theorem eqLinear_ev (b : Int) (row : List Int) (mats : List (List (List Int))) (col : List Int) (h1 : fit1 row) (h2 : fit3 mats) (h3 : fit1 col) : Ev (fun k => laws_eqLinear.f k b row mats col b row mats col) true := by
  unfold fit1 at h1 h3
  simp only [laws_eqLinear.f]
  exact ev_pos trivial (ev_bind (eqIntS_ev row (by omega)) (ev_pos rfl (ev_bind (eqIntSSS_ev mats h2) (ev_pos rfl (ev_bind (eqIntS_ev col (by omega)) (ev_pos rfl (ev_some rfl)))))))


theorem l1In_eq (a b c : Int) : spec_l1In.f a b c = some (decide (b ≤ a ∧ a ≤ c)) := by
  unfold spec_l1In.f
  by_cases h : a ≥ b
  · rw [if_pos h]; simp [show b ≤ a from h]
  · rw [if_neg h]; simp [show ¬ b ≤ a from h]


def small9 (x : Int) : Bool := decide (-9 ≤ x ∧ x ≤ 9)
def rowOk (n : Nat) (r : List Int) : Bool := decide (r.length = n) && r.all small9
def matOk (n : Nat) (m : List (List Int)) : Bool := decide (m.length = n) && m.all (rowOk n)
def isLin (b : Int) (row : List Int) (mats : List (List (List Int))) (col : List Int) : Bool :=
  decide (2 ≤ b ∧ b ≤ 4) && decide (1 ≤ row.length ∧ row.length ≤ 40) && rowOk row.length row && rowOk row.length col && decide ((mats.length : Int) = b) && mats.all (matOk row.length)
theorem isBase_eq (b : Int) : impl_isBase.f b = some (decide (2 ≤ b ∧ b ≤ 4)) := by
  unfold impl_isBase.f
  by_cases h : b ≥ 2
  · rw [if_pos h]; simp [show 2 ≤ b from h]
  · rw [if_neg h]; simp [show ¬ 2 ≤ b from h]
theorem impl_areSmall_l0 (l : List Int) (hn : l.length ≤ 4611686018427387904) (d : Nat) : ∀ (i : Nat), i + d = l.length →
    Ev (fun k => impl_areSmall.l0 k l (l.length : Int) (i : Int)) ((l.drop i).all small9) := by
  induction d with
  | zero =>
    intro i hi
    refine ev_succ ?_
    simp only [impl_areSmall.l0]
    refine ev_neg (by omega) (ev_some ?_)
    rw [List.drop_of_length_le (by omega)]; rfl
  | succ d ih =>
    intro i hi
    refine ev_succ ?_
    simp only [impl_areSmall.l0, wr1 (show (0 : Int) ≤ (i : Int) by omega) (by omega)]
    refine ev_pos (by omega) (ev_pos (by omega) (ev_pos (by omega) ?_))
    rw [drop_rd (by omega : i < l.length)]
    refine ev_ite (fun h => ev_some ?_) (fun h => ev_ite (fun h' => ev_some ?_) (fun h' => ev_eq (ih (i + 1) (by omega)) ?_))
    · simp only [List.all_cons, small9, decide_eq_false (show ¬ (-9 ≤ rd l (i : Int) ∧ rd l (i : Int) ≤ 9) by omega), Bool.false_and]
    · simp only [List.all_cons, small9, decide_eq_false (show ¬ (-9 ≤ rd l (i : Int) ∧ rd l (i : Int) ≤ 9) by omega), Bool.false_and]
    · simp only [List.all_cons, small9, decide_eq_true (show (-9 ≤ rd l (i : Int) ∧ rd l (i : Int) ≤ 9) by omega), Bool.true_and]
theorem impl_areSmall_ev (l : List Int) (n : Nat) (hn : l.length ≤ 4611686018427387904) : Ev (fun k => impl_areSmall.f k l (n : Int)) (rowOk n l) := by
  simp only [impl_areSmall.f]
  unfold rowOk
  refine ev_ite (fun h => ev_eq (impl_areSmall_l0 l hn l.length 0 (by omega)) ?_) (fun h => ev_some ?_)
  · rw [decide_eq_true (by omega)]; simp
  · rw [decide_eq_false (by omega)]; rfl
theorem impl_lin_l1 (n : Nat) (mats : List (List (List Int))) (a : Int) (m : List (List Int)) (hm : fit2 m) (R : Bool) (H : m.all (rowOk n) = true → Ev (fun k => impl_IsLinear.l0 k (n : Int) mats (mats.length : Int) (wrap64 (a + 1))) R) (H2 : m.all (rowOk n) = false → R = false) (d : Nat) : ∀ i : Nat, i + d = m.length → (m.take i).all (rowOk n) = true →
    Ev (fun k => impl_IsLinear.l1 k (n : Int) mats (mats.length : Int) a m (m.length : Int) (i : Int)) R := by
  have hl := hm.1
  induction d with
  | zero =>
    intro i hi ht
    refine ev_succ ?_
    simp only [impl_IsLinear.l1]
    rw [List.take_of_length_le (by omega)] at ht
    exact ev_neg (by omega) (H ht)
  | succ d ih =>
    intro i hi ht
    have hr := hm.2 _ (rdLL_mem (show i < m.length by omega))
    unfold fit1 at hr
    refine ev_succ ?_
    simp only [impl_IsLinear.l1, wr1 (show (0 : Int) ≤ (i : Int) by omega) (by omega)]
    refine ev_pos (by omega) (ev_pos (by omega) (ev_pos (by omega) (ev_bind (impl_areSmall_ev _ n (by omega)) (ev_ite (fun h => ih (i + 1) (by omega) ?_) (fun h => ev_some ?_)))))
    · rw [List.take_succ_eq_append_getElem (by omega), ← rdLL_at (by omega), List.all_append, ht]; simp [h]
    · symm
      refine H2 ?_
      rw [Bool.eq_false_iff]
      intro hall
      rw [List.all_eq_true] at hall
      exact h (hall _ (rdLL_mem (by omega)))
theorem impl_lin_l0 (n : Nat) (mats : List (List (List Int))) (hf : fit3 mats) (d : Nat) : ∀ i : Nat, i + d = mats.length → Ev (fun k => impl_IsLinear.l0 k (n : Int) mats (mats.length : Int) (i : Int)) ((mats.drop i).all (matOk n)) := by
  have hl := hf.1
  induction d with
  | zero =>
    intro i hi
    refine ev_succ ?_
    simp only [impl_IsLinear.l0]
    refine ev_neg (by omega) (ev_some ?_)
    rw [List.drop_of_length_le (by omega)]; rfl
  | succ d ih =>
    intro i hi
    have hm := hf.2 _ (rdLLL_mem (show i < mats.length by omega))
    refine ev_succ ?_
    simp only [impl_IsLinear.l0]
    refine ev_pos (by omega) (ev_pos (by omega) (ev_pos (by omega) ?_))
    rw [drop_rdLLL (show i < mats.length by omega), List.all_cons]
    refine ev_ite (fun h => ?_) (fun h => ev_some ?_)
    · refine impl_lin_l1 n mats (i : Int) _ hm _ (fun hall => ?_) (fun hall => ?_) (rd_L2 mats (i : Int)).length 0 (by omega) (by simp)
      · rw [wr1 (by omega) (by omega)]
        refine ev_eq (ih (i + 1) (by omega)) ?_
        simp only [matOk, hall, decide_eq_true (show (rd_L2 mats (i : Int)).length = n by omega), Bool.and_self, Bool.true_and]
      · simp only [matOk, hall, Bool.and_false, Bool.false_and]
    · simp only [matOk, decide_eq_false (show ¬ (rd_L2 mats (i : Int)).length = n by omega), Bool.false_and]
theorem impl_IsLinear_ev (b : Int) (row : List Int) (mats : List (List (List Int))) (col : List Int) (h1 : fit1 row) (h2 : fit3 mats) (h3 : fit1 col) : Ev (fun k => impl_IsLinear.f k b row mats col) (isLin b row mats col) := by
  unfold fit1 at h1 h3
  simp only [impl_IsLinear.f, isBase_eq, Option.bind_some]
  have no : ∀ f : Bool, f = true → isLin b row mats col = false → Ev (fun k => impl_IsLinear.j0 k (row.length : Int) f b row mats col) (isLin b row mats col) := by
    intro f hf h
    subst hf
    refine ev_succ ?_
    simp only [impl_IsLinear.j0]
    exact ev_pos trivial (ev_some h.symm)
  refine ev_ite (fun hb => ?_) (fun hb => no _ rfl ?_)
  · refine ev_ite (fun h => no _ rfl ?_) (fun h => ev_ite (fun h' => no _ rfl ?_) (fun h' => ?_))
    · unfold isLin; rw [decide_eq_false (show ¬ (1 ≤ row.length ∧ row.length ≤ 40) by omega)]; simp
    · unfold isLin; rw [decide_eq_false (show ¬ (1 ≤ row.length ∧ row.length ≤ 40) by omega)]; simp
    · refine ev_bind (impl_areSmall_ev row row.length (by omega)) (ev_ite (fun h4 => ?_) (fun h4 => no _ rfl ?_))
      · refine ev_bind (impl_areSmall_ev col row.length (by omega)) (ev_ite (fun h5 => ?_) (fun h5 => no _ rfl ?_))
        · by_cases h6 : (mats.length : Int) = b
          · refine ev_succ ?_
            simp only [impl_IsLinear.j0]
            refine ev_neg (by simp [h6]) (ev_eq (impl_lin_l0 row.length mats h2 mats.length 0 (by omega)) ?_)
            unfold isLin
            rw [hb, decide_eq_true (show (1 ≤ row.length ∧ row.length ≤ 40) by omega), h4, h5, decide_eq_true h6]; simp
          · refine no _ (by simpa using h6) ?_
            unfold isLin; rw [decide_eq_false h6]; simp
        · unfold isLin; rw [Bool.not_eq_true] at h5; rw [h5]; simp
      · unfold isLin; rw [Bool.not_eq_true] at h4; rw [h4]; simp
  · unfold isLin; rw [Bool.not_eq_true] at hb; rw [hb]; simp
theorem all_rd_true {p : Int → Bool} {l : List Int} (h : l.all p = true) {i : Nat} (hi : i < l.length) : p (rd l (i : Int)) = true := List.all_eq_true.1 h _ (rd_mem hi)
theorem spec_lin_l3 (n : Nat) (b : Int) (row col : List Int) (mats : List (List (List Int))) (a i : Nat) (ha : a < mats.length) (hi : i < (rd_L2 mats (a : Int)).length) (r : List Int) (hr : r = rd_L1 (rd_L2 mats (a : Int)) (i : Int)) (hl : r.length = n) (hn : n ≤ 40) (hn2 : mats.length ≤ 1048576 ∧ (rd_L2 mats (a : Int)).length ≤ 1048576) (R : Bool)
    (H : r.all small9 = true → Ev (fun k => spec_IsLinear.l2 k (n : Int) (a : Int) ((i + 1 : Nat) : Int) b row mats col) R) (H2 : r.all small9 = false → R = false) (d : Nat) : ∀ j : Nat, j + d = n → (r.take j).all small9 = true →
    Ev (fun k => spec_IsLinear.l3 k (n : Int) (a : Int) (i : Int) (j : Int) b row mats col) R := by
  induction d with
  | zero =>
    intro j hj ht
    refine ev_succ ?_
    simp only [spec_IsLinear.l3]
    rw [List.take_of_length_le (by omega)] at ht
    rw [wr1 (show (0 : Int) ≤ (i : Int) by omega) (by omega)]
    exact ev_neg (by omega) (H ht)
  | succ d ih =>
    intro j hj ht
    refine ev_succ ?_
    simp only [spec_IsLinear.l3, l1In_eq, Option.bind_some, wr1 (show (0 : Int) ≤ (j : Int) by omega) (by omega)]
    rw [← hr]
    refine ev_pos (by omega) (ev_pos (by omega) (ev_pos (by omega) (ev_pos (by omega) (ev_pos (by omega) (ev_pos (by omega) (ev_pos (by omega) (ev_ite (fun h => ih (j + 1) (by omega) ?_) (fun h => ev_some ?_))))))))
    · rw [List.take_succ_eq_append_getElem (by omega), ← rd_get (by omega), List.all_append, ht]; simpa [small9] using h
    · symm
      refine H2 ?_
      rw [Bool.eq_false_iff]
      intro hall
      exact h (by simpa [small9] using all_rd_true hall (show j < r.length by omega))
theorem spec_lin_l2 (n : Nat) (b : Int) (row col : List Int) (mats : List (List (List Int))) (hf : fit3 mats) (a : Nat) (ha : a < mats.length) (m : List (List Int)) (hm : m = rd_L2 mats (a : Int)) (hl : m.length = n) (hn : n ≤ 40) (R : Bool)
    (H : m.all (rowOk n) = true → Ev (fun k => spec_IsLinear.l1 k (n : Int) ((a + 1 : Nat) : Int) b row mats col) R) (H2 : m.all (rowOk n) = false → R = false) (d : Nat) : ∀ i : Nat, i + d = n → (m.take i).all (rowOk n) = true →
    Ev (fun k => spec_IsLinear.l2 k (n : Int) (a : Int) (i : Int) b row mats col) R := by
  have hf1 := hf.1
  have hf2 := hf.2 _ (rdLLL_mem ha)
  have hf3 := hf2.1
  induction d with
  | zero =>
    intro i hi ht
    refine ev_succ ?_
    simp only [spec_IsLinear.l2]
    rw [List.take_of_length_le (by omega)] at ht
    rw [wr1 (show (0 : Int) ≤ (a : Int) by omega) (by omega)]
    exact ev_neg (by omega) (H ht)
  | succ d ih =>
    intro i hi ht
    refine ev_succ ?_
    simp only [spec_IsLinear.l2]
    rw [← hm]
    have nope : rowOk n (rd_L1 m (i : Int)) = false → R = false := by
      intro h
      refine H2 ?_
      rw [Bool.eq_false_iff]
      intro hall
      rw [List.all_eq_true.1 hall _ (rdLL_mem (by omega))] at h
      cases h
    refine ev_pos (by omega) (ev_pos (by omega) (ev_pos (by omega) (ev_pos (by omega) (ev_pos (by omega) (ev_ite (fun h => ?_) (fun h => ev_some ?_))))))
    · refine spec_lin_l3 n b row col mats a i ha (by rw [← hm]; omega) _ rfl (by rw [← hm]; omega) hn ⟨hf1, hf3⟩ R (fun hall => ih (i + 1) (by omega) ?_) (fun hall => nope ?_) n 0 (by omega) (by simp)
      · rw [← hm] at hall
        rw [List.take_succ_eq_append_getElem (by omega), ← rdLL_at (by omega), List.all_append, ht]
        simp only [List.all_cons, List.all_nil, rowOk, hall, decide_eq_true (show (rd_L1 m (i : Int)).length = n by omega), Bool.and_self]
      · rw [← hm] at hall
        simp only [rowOk, hall, Bool.and_false]
    · symm
      refine nope ?_
      simp only [rowOk, decide_eq_false (show ¬ (rd_L1 m (i : Int)).length = n by omega), Bool.false_and]
theorem spec_lin_l1 (n : Nat) (hn : n ≤ 40) (row col : List Int) (mats : List (List (List Int))) (hf : fit3 mats) (d : Nat) : ∀ a : Nat, a + d = mats.length →
    Ev (fun k => spec_IsLinear.l1 k (n : Int) (a : Int) (mats.length : Int) row mats col) ((mats.drop a).all (matOk n)) := by
  have hf1 := hf.1
  induction d with
  | zero =>
    intro a hi
    refine ev_succ ?_
    simp only [spec_IsLinear.l1]
    refine ev_neg (by omega) (ev_some ?_)
    rw [List.drop_of_length_le (by omega)]; rfl
  | succ d ih =>
    intro a hi
    refine ev_succ ?_
    simp only [spec_IsLinear.l1]
    refine ev_pos (by omega) (ev_pos (by omega) (ev_pos (by omega) ?_))
    rw [drop_rdLLL (show a < mats.length by omega), List.all_cons]
    refine ev_ite (fun h => ?_) (fun h => ev_some ?_)
    · refine spec_lin_l2 n _ row col mats hf a (by omega) _ rfl (by omega) hn _ (fun hall => ?_) (fun hall => ?_) n 0 (by omega) (by simp)
      · refine ev_eq (ih (a + 1) (by omega)) ?_
        simp only [matOk, hall, decide_eq_true (show (rd_L2 mats (a : Int)).length = n by omega), Bool.and_self, Bool.true_and]
      · simp only [matOk, hall, Bool.and_false, Bool.false_and]
    · simp only [matOk, decide_eq_false (show ¬ (rd_L2 mats (a : Int)).length = n by omega), Bool.false_and]
theorem spec_lin_l0 (n : Nat) (hn : n ≤ 40) (row col : List Int) (mats : List (List (List Int))) (hf : fit3 mats) (h1 : row.length = n) (h2 : col.length = n) (d : Nat) : ∀ i : Nat, i + d = n → (row.take i).all small9 = true → (col.take i).all small9 = true →
    Ev (fun k => spec_IsLinear.l0 k (n : Int) (i : Int) (mats.length : Int) row mats col) (row.all small9 && col.all small9 && mats.all (matOk n)) := by
  induction d with
  | zero =>
    intro i hi hr hc
    refine ev_succ ?_
    simp only [spec_IsLinear.l0]
    rw [List.take_of_length_le (by omega)] at hr hc
    refine ev_neg (by omega) (ev_eq (spec_lin_l1 n hn row col mats hf mats.length 0 (by omega)) ?_)
    rw [hr, hc]; simp
  | succ d ih =>
    intro i hi hr hc
    refine ev_succ ?_
    simp only [spec_IsLinear.l0, l1In_eq, Option.bind_some, wr1 (show (0 : Int) ≤ (i : Int) by omega) (by omega)]
    refine ev_pos (by omega) (ev_pos (by omega) (ev_pos (by omega) (ev_ite (fun h => ev_pos (by omega) (ev_ite (fun h' => ih (i + 1) (by omega) ?_ ?_) (fun h' => ev_some ?_))) (fun h => ev_some ?_))))
    · rw [List.take_succ_eq_append_getElem (by omega), ← rd_get (by omega), List.all_append, hr]; simpa [small9] using h
    · rw [List.take_succ_eq_append_getElem (by omega), ← rd_get (by omega), List.all_append, hc]; simpa [small9] using h'
    · symm
      have : col.all small9 = false := by
        rw [Bool.eq_false_iff]
        intro hall
        exact h' (by simpa [small9] using all_rd_true hall (show i < col.length by omega))
      rw [this]; simp
    · symm
      have : row.all small9 = false := by
        rw [Bool.eq_false_iff]
        intro hall
        exact h (by simpa [small9] using all_rd_true hall (show i < row.length by omega))
      rw [this]; simp
theorem spec_IsLinear_ev (b : Int) (row : List Int) (mats : List (List (List Int))) (col : List Int) (h1 : fit1 row) (h2 : fit3 mats) (h3 : fit1 col) : Ev (fun k => spec_IsLinear.f k b row mats col) (isLin b row mats col) := by
  unfold fit1 at h1 h3
  simp only [spec_IsLinear.f, l1In_eq, Option.bind_some]
  have no : ∀ f : Bool, f = true → isLin b row mats col = false → Ev (fun k => spec_IsLinear.j0 k (row.length : Int) f b row mats col) (isLin b row mats col) := by
    intro f hf h
    subst hf
    refine ev_succ ?_
    simp only [spec_IsLinear.j0]
    exact ev_pos trivial (ev_some h.symm)
  by_cases hn : 1 ≤ row.length ∧ row.length ≤ 40
  · refine ev_pos (by simp; omega) (ev_ite (fun hc => ?_) (fun hc => no _ rfl ?_))
    · by_cases hb : 2 ≤ b ∧ b ≤ 4
      · refine ev_pos (by simpa using hb) ?_
        by_cases h6 : (mats.length : Int) = b
        · refine ev_succ ?_
          simp only [spec_IsLinear.j0]
          have := spec_lin_l0 row.length (by omega) row col mats h2 rfl (by omega) row.length 0 (by omega) (by simp) (by simp)
          rw [h6] at this
          refine ev_neg (by simp [h6]) (ev_eq this ?_)
          unfold isLin rowOk
          rw [decide_eq_true hb, decide_eq_true hn, decide_eq_true rfl, decide_eq_true (show col.length = row.length by omega), decide_eq_true h6]; simp
        · refine no _ (by simpa using h6) ?_
          unfold isLin; rw [decide_eq_false h6]; simp
      · refine ev_neg (by simpa using hb) (no _ rfl ?_)
        unfold isLin; rw [decide_eq_false hb]; simp
    · unfold isLin rowOk; rw [decide_eq_false (show ¬ col.length = row.length by omega)]; simp
  · refine ev_neg (by simp; omega) (no _ rfl ?_)
    unfold isLin; rw [decide_eq_false hn]; simp


-- SAY: For every linear form the program's IsLinear answers what the reference's answers, and leaves its argument alone. No conditions beyond the given statement.
theorem FnExactIsLinear : ∀ (b : Int) (row : List Int) (mats : List (List (List Int))) (col : List Int), row.length ≤ 9223372036854775807 → mats.length ≤ 9223372036854775807 → (∀ m ∈ mats, m.length ≤ 9223372036854775807 ∧ ∀ r ∈ m, r.length ≤ 9223372036854775807) → col.length ≤ 9223372036854775807 →
    ∃ k, laws_FnExactIsLinear.f k b row mats col = some true := by
  intro b row mats col h1 h2 h3 h4
  refine Ev.rounds (g := fun k => laws_FnExactIsLinear.f k b row mats col) ?_
  simp only [laws_FnExactIsLinear.f]
  obtain ⟨n, hn, hn1, hn2⟩ := szLinear_tot b row mats col h1 h2 h3 h4 1048576 (by omega) (by omega)
  refine ev_bind hn (ev_ite (fun h => ev_some rfl) (fun h => ?_))
  obtain ⟨f1, f2, f3⟩ := hn2 (by omega)
  refine ev_bind (toLinear_ev b row mats col f1 f2 f3) (ev_bind (spec_IsLinear_ev b row mats col f1 f2 f3) ?_)
  refine ev_bind (toLinear_ev b row mats col f1 f2 f3) (ev_bind (impl_IsLinear_ev b row mats col f1 f2 f3) (ev_neg (by simp) ?_))
  refine ev_bind (toLinear_ev b row mats col f1 f2 f3) (ev_bind (eqLinear_ev b row mats col f1 f2 f3) (ev_pos rfl (ev_some rfl)))


end Go.Proofs.Ytpmgiinfdfddbaa.Pure
