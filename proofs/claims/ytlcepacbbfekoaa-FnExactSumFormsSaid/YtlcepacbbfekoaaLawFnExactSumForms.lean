/- The row of the law FnExactSumForms, out of the printed contract of its Go function and the pure statement that is proved in YtlcepacbbfekoaaPureFnExactSumForms. No conditions beyond the given statement. -/
import Derived.Test.YtlcepacbbfekoaaRows
import Derived.Test.YtlcepacbbfekoaaPFnExactSumFormsx10
import Derived.Test.YtlcepacbbfekoaaPureFnExactSumForms
import Derived.WalkKit
import Derived.ProofKit
import Derived.OpenShut
import Derived.ShutString
import Derived.ChangeOld
import Derived.Below
import Derived.SizedLaws
import Derived.Deep.Slices
import Derived.Deep.Strs
import Derived.Lib.SmallJoins
namespace Go.Proofs.Ytlcepacbbfekoaa.fnExactSumForms
open Go.ChangeShapes Go.WideShapes Go.ChangeAt Go.RowKit Go.Proofs.YtlcepacbbfekoaaW.PrintWords
open Go.Deep (open_slice1 trod_struct3)
open Go.Joins (trod_struct4)
set_option linter.unusedVariables false
theorem arr2 {cs : Array Value} (h : cs.size = 2) : ∃ c0 c1, cs = #[c0, c1] := by
  obtain ⟨l⟩ := cs
  have h' : l.length = 2 := h
  match l, h' with
  | [c0, c1], _ => exact ⟨c0, c1, rfl⟩
theorem arr3 {cs : Array Value} (h : cs.size = 3) : ∃ c0 c1 c2, cs = #[c0, c1, c2] := by
  obtain ⟨l⟩ := cs
  have h' : l.length = 3 := h
  match l, h' with
  | [c0, c1, c2], _ => exact ⟨c0, c1, c2, rfl⟩
theorem arr4 {cs : Array Value} (h : cs.size = 4) : ∃ c0 c1 c2 c3, cs = #[c0, c1, c2, c3] := by
  obtain ⟨l⟩ := cs
  have h' : l.length = 4 := h
  match l, h' with
  | [c0, c1, c2, c3], _ => exact ⟨c0, c1, c2, c3, rfl⟩
theorem collect {α : Type} {p : Nat → α → Prop} (n : Nat) : (∀ i, i < n → ∃ a, p i a) → ∃ xs : List α, xs.length = n ∧ ∀ (i : Nat) (a : α), xs[i]? = some a → p i a := by
  induction n with
  | zero => intro _; exact ⟨[], rfl, fun i a h => by simp at h⟩
  | succ n ih =>
    intro h
    obtain ⟨xs, hl, hp⟩ := ih (fun i hi => h i (by omega))
    obtain ⟨a, ha⟩ := h n (by omega)
    refine ⟨xs ++ [a], by simp [hl], fun i b hb => ?_⟩
    by_cases hi : i < n
    · rw [List.getElem?_append_left (by omega)] at hb
      exact hp i b hb
    · by_cases he : i = n
      · subst he
        rw [List.getElem?_append_right (by omega), hl] at hb
        simp at hb
        rw [← hb]; exact ha
      · rw [List.getElem?_eq_none (by simp [hl]; omega)] at hb
        cases hb
/-- A slice whose elements are one cell each, as the printed contracts read it. -/
theorem kd_row {α : Type} {H : Type} {enc : TypeId × Value → H} {P : Program} {w : World} {base : Nat} {held : Bool} (d : Kd α) (hs : d.sz = 1) {Q : α → Prop} {t e : TypeId} (ht : P.underlying t = some (.slice e)) (hc : P.cellsOf e = 1)
    (each : ∀ (fuel : Nat) (cs : List Value) (x : DataW H × List MemPlace), DataW.trod enc P w base (fun _ => true) held fuel e cs = some x → ∃ a, d.K w a cs ∧ Q a) {fuel : Nat} {cs : List Value} {x : DataW H × List MemPlace}
    (h : DataW.trod enc P w base (fun _ => true) held fuel t cs = some x) : ∃ A c xs, cs = [.slice A xs.length c] ∧ xs.length ≤ c ∧ c ≤ maxLen ∧ d.C w A xs.length xs ∧ ∀ y ∈ xs, Q y := by
  rcases open_slice1 ht hc h with ⟨rfl, _⟩ | ⟨a, len, cap, m, n, V, D, Pl, rfl, _, hl, hm, hmm, _, hx⟩
  · exact ⟨none, 0, [], rfl, Nat.le_refl _, Nat.zero_le _, ⟨rfl, by simp, fun h => absurd h (by simp)⟩, fun y hy => by cases hy⟩
  · simp only [if_true] at hmm
    obtain ⟨xs, hlen, hp⟩ := collect (p := fun i (y : α) => d.K w y [V i] ∧ Q y) len (fun i hi => each n [V i] _ (hx i (by omega)).2)
    subst hlen
    refine ⟨some a, cap, xs, rfl, hl, hm, ⟨rfl, by simp only [maxLen] at hm; omega, fun _ => ⟨a, rfl, fun j y hj => ?_⟩⟩, fun y hy => ?_⟩
    · have hj2 := (List.getElem?_eq_some_iff.1 hj).1
      refine ⟨[V j], by rw [hs]; rfl, (hp j y hj).1, fun i u hu => ?_⟩
      have : i = 0 := by
        cases i with
        | zero => rfl
        | succ i => simp at hu
      subst this
      simp at hu
      subst hu
      rw [hs, Nat.mul_one, Nat.add_zero]
      exact (hx j (by omega)).1
    · obtain ⟨j, hj, rfl⟩ := List.getElem_of_mem hy
      exact (hp j _ (List.getElem?_eq_getElem hj)).2
theorem own : ownKnob Try.prog.godebug = none := by kernel_rfl
theorem laidOut : laidOutB Try.prog = true := by kernel_rfl
set_option maxHeartbeats 8000000 in
set_option maxRecDepth 100000 in
theorem lifted (os : Os) (started : os.Started) (H : Type) (enc : TypeId × Value → H) :
    ReturnsInHanded {} Try.checked os 3 .any (Rows.fnExactSumFormsSpec.pre6 enc Try.prog Try.f3 Rows.fnExactSumFormsRow.domain false) (Rows.fnExactSumFormsSpec.post enc Try.prog Try.f3 false true false false) := by
  refine returnsInHanded_of_change_sized (C := Try.checked) own started (by kernel_rfl) Try.func3
    (ChangeSpec.witness6 (enc := enc) (C := Try.checked) false ⟨#[], #[.agg #[.int .i64 0, .slice none 0 0, .slice none 0 0, .slice none 0 0], .agg #[.int .i64 0, .slice none 0 0, .slice none 0 0, .slice none 0 0]], []⟩ 8 (by kernel_rfl) (by kernel_rfl) (by kernel_rfl) (by kernel_rfl)) ?_
  intro W base args ds gs before hval0 hW hcnd hsz0 _
  have hval : ∀ (j : Nat) t v, Try.f3.params[j]? = some t → args[j]? = some v → Value.okWide Try.prog W .any base t v := hval0
  have hW' := hW
  obtain ⟨p, q, hA0, hV, rfl, hfz, hnd⟩ := hW
  have hA : DataW.TrodAll enc Try.prog W 0 (fun _ => true) true Try.f3.params.toList args.toList ds p := hA0
  rw [Try.params3] at hA hval
  obtain ⟨v0, vs0, d0, ds0, p0, q0, hargs, rfl, rfl, h0, r0⟩ := trodAll_cons hA
  obtain ⟨v1, vs1, d1, ds1, p1, q1, rfl, rfl, rfl, h1, r1⟩ := trodAll_cons r0
  obtain ⟨rfl, rfl, rfl⟩ := trodAll_nil r1
  obtain rfl : args = #[v0, v1] := by cases args; simp_all
  obtain ⟨rfl, rfl⟩ := trodVars_none hV
  obtain ⟨cs0, rfl, hcs0⟩ := okWide_struct Try.underlying25 (hval 0 25 v0 rfl rfl)
  have k0 := h0
  have lt0 : ∀ x ∈ p0, x.block < W.heap.size := by obtain ⟨m, hm⟩ := k0; exact DataW.trod_lt m _ _ _ hm
  obtain ⟨fuel0, hf0⟩ := h0
  rw [show Try.prog.cellsOf 25 = 4 by kernel_rfl] at hcs0
  obtain ⟨c0_0, c0_1, c0_2, c0_3, rfl⟩ := arr4 hcs0
  obtain ⟨y0_0, y0_1, y0_2, y0_3, nf0, _, _, t0_0, t0_1, t0_2, t0_3⟩ := trod_struct4 Try.underlying25 hf0
  replace t0_0 : DataW.trod enc Try.prog W 0 (fun _ => true) true nf0 3 [c0_0] = some y0_0 := by rw [← t0_0]; rfl
  obtain ⟨a0_0, e0_0, _⟩ := DataW.trod_int Try.underlying3 t0_0
  obtain rfl : c0_0 = .int .i64 a0_0 := by simpa using e0_0
  replace t0_1 : DataW.trod enc Try.prog W 0 (fun _ => true) true nf0 22 [c0_1] = some y0_1 := by rw [← t0_1]; rfl
  obtain ⟨A0_1, cap0_1, l0_1, e0_1, b0_1, m0_1, hr0_1, q0_1⟩ := kd_row (Q := fun y => True) (Kd.int .i64) rfl Try.underlying22 (by kernel_rfl) (fun _ _ _ h => let ⟨a, e, _⟩ := DataW.trod_int Try.underlying3 h; ⟨a, e, trivial⟩) t0_1
  obtain rfl : c0_1 = .slice A0_1 l0_1.length cap0_1 := by simpa using e0_1
  replace t0_2 : DataW.trod enc Try.prog W 0 (fun _ => true) true nf0 23 [c0_2] = some y0_2 := by rw [← t0_2]; rfl
  obtain ⟨A0_2, cap0_2, l0_2, e0_2, b0_2, m0_2, hr0_2, q0_2⟩ := kd_row (Q := fun y => y.length ≤ maxLen ∧ ∀ y' ∈ y, y'.length ≤ maxLen) (Kd.slice 22 (Kd.slice 3 (Kd.int .i64))) rfl Try.underlying23 (by kernel_rfl) (fun _ _ _ h => let ⟨A, c, xs, e, h1, h2, h3, h4⟩ := kd_row (Kd.slice 3 (Kd.int .i64)) rfl Try.underlying37 (by kernel_rfl) (fun _ _ _ h => let ⟨A, c, xs, e, h1, h2, h3, h4⟩ := kd_row (Kd.int .i64) rfl Try.underlying22 (by kernel_rfl) (fun _ _ _ h => let ⟨a, e, _⟩ := DataW.trod_int Try.underlying3 h; ⟨a, e, trivial⟩) h; ⟨xs, ⟨A, c, e, h1, h3⟩, Nat.le_trans h1 h2⟩) h; ⟨xs, ⟨A, c, e, h1, h3⟩, ⟨Nat.le_trans h1 h2, h4⟩⟩) t0_2
  obtain rfl : c0_2 = .slice A0_2 l0_2.length cap0_2 := by simpa using e0_2
  replace t0_3 : DataW.trod enc Try.prog W 0 (fun _ => true) true nf0 22 [c0_3] = some y0_3 := by rw [← t0_3]; rfl
  obtain ⟨A0_3, cap0_3, l0_3, e0_3, b0_3, m0_3, hr0_3, q0_3⟩ := kd_row (Q := fun y => True) (Kd.int .i64) rfl Try.underlying22 (by kernel_rfl) (fun _ _ _ h => let ⟨a, e, _⟩ := DataW.trod_int Try.underlying3 h; ⟨a, e, trivial⟩) t0_3
  obtain rfl : c0_3 = .slice A0_3 l0_3.length cap0_3 := by simpa using e0_3
  obtain ⟨cs1, rfl, hcs1⟩ := okWide_struct Try.underlying25 (hval 1 25 v1 rfl rfl)
  have k1 := h1
  have lt1 : ∀ x ∈ p1, x.block < W.heap.size := by obtain ⟨m, hm⟩ := k1; exact DataW.trod_lt m _ _ _ hm
  obtain ⟨fuel1, hf1⟩ := h1
  rw [show Try.prog.cellsOf 25 = 4 by kernel_rfl] at hcs1
  obtain ⟨c1_0, c1_1, c1_2, c1_3, rfl⟩ := arr4 hcs1
  obtain ⟨y1_0, y1_1, y1_2, y1_3, nf1, _, _, t1_0, t1_1, t1_2, t1_3⟩ := trod_struct4 Try.underlying25 hf1
  replace t1_0 : DataW.trod enc Try.prog W 0 (fun _ => true) true nf1 3 [c1_0] = some y1_0 := by rw [← t1_0]; rfl
  obtain ⟨a1_0, e1_0, _⟩ := DataW.trod_int Try.underlying3 t1_0
  obtain rfl : c1_0 = .int .i64 a1_0 := by simpa using e1_0
  replace t1_1 : DataW.trod enc Try.prog W 0 (fun _ => true) true nf1 22 [c1_1] = some y1_1 := by rw [← t1_1]; rfl
  obtain ⟨A1_1, cap1_1, l1_1, e1_1, b1_1, m1_1, hr1_1, q1_1⟩ := kd_row (Q := fun y => True) (Kd.int .i64) rfl Try.underlying22 (by kernel_rfl) (fun _ _ _ h => let ⟨a, e, _⟩ := DataW.trod_int Try.underlying3 h; ⟨a, e, trivial⟩) t1_1
  obtain rfl : c1_1 = .slice A1_1 l1_1.length cap1_1 := by simpa using e1_1
  replace t1_2 : DataW.trod enc Try.prog W 0 (fun _ => true) true nf1 23 [c1_2] = some y1_2 := by rw [← t1_2]; rfl
  obtain ⟨A1_2, cap1_2, l1_2, e1_2, b1_2, m1_2, hr1_2, q1_2⟩ := kd_row (Q := fun y => y.length ≤ maxLen ∧ ∀ y' ∈ y, y'.length ≤ maxLen) (Kd.slice 22 (Kd.slice 3 (Kd.int .i64))) rfl Try.underlying23 (by kernel_rfl) (fun _ _ _ h => let ⟨A, c, xs, e, h1, h2, h3, h4⟩ := kd_row (Kd.slice 3 (Kd.int .i64)) rfl Try.underlying37 (by kernel_rfl) (fun _ _ _ h => let ⟨A, c, xs, e, h1, h2, h3, h4⟩ := kd_row (Kd.int .i64) rfl Try.underlying22 (by kernel_rfl) (fun _ _ _ h => let ⟨a, e, _⟩ := DataW.trod_int Try.underlying3 h; ⟨a, e, trivial⟩) h; ⟨xs, ⟨A, c, e, h1, h3⟩, Nat.le_trans h1 h2⟩) h; ⟨xs, ⟨A, c, e, h1, h3⟩, ⟨Nat.le_trans h1 h2, h4⟩⟩) t1_2
  obtain rfl : c1_2 = .slice A1_2 l1_2.length cap1_2 := by simpa using e1_2
  replace t1_3 : DataW.trod enc Try.prog W 0 (fun _ => true) true nf1 22 [c1_3] = some y1_3 := by rw [← t1_3]; rfl
  obtain ⟨A1_3, cap1_3, l1_3, e1_3, b1_3, m1_3, hr1_3, q1_3⟩ := kd_row (Q := fun y => True) (Kd.int .i64) rfl Try.underlying22 (by kernel_rfl) (fun _ _ _ h => let ⟨a, e, _⟩ := DataW.trod_int Try.underlying3 h; ⟨a, e, trivial⟩) t1_3
  obtain rfl : c1_3 = .slice A1_3 l1_3.length cap1_3 := by simpa using e1_3
  have hP := Pure.FnExactSumForms a0_0 l0_1 l0_2 l0_3 a1_0 l1_1 l1_2 l1_3 (Nat.le_trans b0_1 m0_1) (Nat.le_trans b0_2 m0_2) q0_2 (Nat.le_trans b0_3 m0_3) (Nat.le_trans b1_1 m1_1) (Nat.le_trans b1_2 m1_2) q1_2 (Nat.le_trans b1_3 m1_3)
  obtain ⟨rk, hP⟩ := hP
  refine (PFnExactSumForms.laws_FnExactSumForms.calls rk a0_0 A0_1 cap0_1 l0_1 A0_2 cap0_2 l0_2 A0_3 cap0_3 l0_3 a1_0 A1_1 cap1_1 l1_1 A1_2 cap1_2 l1_2 A1_3 cap1_3 l1_3 true W hr0_1 b0_1 hr0_2 b0_2 hr0_3 b0_3 hr1_1 b1_1 hr1_2 b1_2 hr1_3 b1_3 hP).mono fun e W' ⟨he, bel0⟩ => ?_
  have bel : Below W.heap.size W W' := bel0
  subst he
  exact ⟨_, rfl, _, _, _, [], _, [], hW', trodAll_mk1 (shut_bool Try.underlying4 _), (trodAll_cons_mk (Below.trod laidOut (by kernel_rfl) (of_decide_eq_true (by kernel_rfl)) k0 bel lt0) (trodAll_cons_mk (Below.trod laidOut (by kernel_rfl) (of_decide_eq_true (by kernel_rfl)) k1 bel lt1) trodAll_mk0)), rfl, bel.frame _, fun h => by cases h⟩
theorem over : Rows.fnExactSumFormsRow.holds Try.pinned (OpenSpec.ofChange Rows.fnExactSumFormsSpec) :=
  OpenClaim.holds_of_wide 3 Try.f3 rfl rfl rfl rfl rfl rfl rfl ⟨rfl, rfl, rfl, rfl, rfl⟩ rfl rfl rfl rfl rfl (by kernel_rfl) Try.func3 (by kernel_rfl)
    (of_decide_eq_true (by kernel_rfl)) (by unfold Func.isWrapper; first | (rw [if_pos (by decide +kernel)]; kernel_rfl) | (rw [if_neg (by decide +kernel)]; exact ⟨rfl, rfl⟩))
    (fun os started H enc _ => lifted os started H enc)
theorem proved : Rows.FnExactSumFormsSaid := over
#print axioms proved
end Go.Proofs.Ytlcepacbbfekoaa.fnExactSumForms
namespace Go.Proofs.Ytlcepacbbfekoaa
/-- The row, under a short name, for the claim. -/
theorem fnExactSumForms_holds : Rows.FnExactSumFormsSaid := fnExactSumForms.proved
end Go.Proofs.Ytlcepacbbfekoaa