/- Written by this session's own program (wip/myprint.py): the machine side of one law, some contracts of it typed by hand. -/
import Derived.Test.YtlcepacbbfekoaaProg
import Derived.Below
import Derived.Deep.Draws
import Derived.Deep.AppendLies
import Derived.Maps.AppendAt
import Derived.OwnWalk
import Derived.Laws.BytesArg
import Derived.Laws.MakeOwn
import Derived.Laws.OwnMore
import Derived.Deep.OwnRows
import Derived.Tactics
import Derived.Lib.ConvBytes
import Derived.Laws.Slices
import Derived.WalkKit
import Derived.KernelRfl
import Derived.RowKit3
import Derived.Deep.LoopGhost
import Derived.Deep.QuietTactic
import Derived.BigQuiet
import Derived.WideLaws
import Derived.Deep.DeepCutAuto
import Derived.Deep.CutBlock
import Derived.Deep.RegionHeld3
import Derived.Laws.Rows
import Derived.Lib.AppendStr
import Derived.ArgAppend
import Derived.Laws.IdiomCopy
import Derived.OrdersHeld
import Derived.Laws.BitsLemmas
import Derived.RowKit
import Derived.Lib.SliceRun
import Derived.Laws.Rows
import Derived.Laws.CopyOwn
import Derived.Test.YtlcepacbbfekoaaWWords
import Derived.Test.YtlcepacbbfekoaaWLast
import Derived.Test.YtlcepacbbfekoaaWTab
import Derived.Test.YtlcepacbbfekoaaWFour
import Derived.Test.YtlcepacbbfekoaaWQPut
import Derived.Test.YtlcepacbbfekoaaWApart
import Derived.Test.YtlcepacbbfekoaaWArr
import Derived.Test.YtlcepacbbfekoaaWZeros
import Derived.Test.YtlcepacbbfekoaaWFoot
import Derived.Test.YtlcepacbbfekoaaWKept
import Derived.Test.YtlcepacbbfekoaaWShare
import Derived.Test.YtlcepacbbfekoaaWN
import Derived.Test.YtlcepacbbfekoaaWFootNe
import Derived.Test.YtlcepacbbfekoaaWAt
import Derived.Test.YtlcepacbbfekoaaWEqStruct
import Derived.Test.YtlcepacbbfekoaaWRepsOne
import Derived.Test.YtlcepacbbfekoaaWInv
import Derived.Test.YtlcepacbbfekoaaWInvWords
import Derived.Test.YtlcepacbbfekoaaWGuard
import Derived.Test.YtlcepacbbfekoaaWNEv
import Derived.Test.YtlcepacbbfekoaaWMore
namespace Go.Proofs.Ytlcepacbbfekoaa.PFnExactSumForms
open Go.RowKit Go.Proofs.YtlcepacbbfekoaaW.PrintWords Go.Proofs.YtlcepacbbfekoaaW.PrintLast Go.Proofs.YtlcepacbbfekoaaW.PrintMore
attribute [local go_sem] max2_int min2_int max_two min_two max_three min_three max_four min_four   -- for this text's walks alone
set_option linter.unusedVariables false
set_option linter.unusedSimpArgs false



def errW : Option Int → Value
 | none => .nilIface
 | some c => .iface 0 (.int .i64 c)
theorem errW_none : errW none = .nilIface := rfl
theorem errW_some (c : Int) : errW (some c) = .iface 0 (.int .i64 c) := rfl

theorem info3 : (Try.prog.info? 3).map (fun i => (i.zero, i.size, i.bytes)) = some (some (.int .i64 0), 1, 8) := by kernel_rfl
theorem info22 : (Try.prog.info? 22).map (fun i => (i.zero, i.size, i.bytes)) = some (some (.slice none 0 0), 1, 24) := by kernel_rfl
theorem info37 : (Try.prog.info? 37).map (fun i => (i.zero, i.size, i.bytes)) = some (some (.slice none 0 0), 1, 24) := by kernel_rfl
def rd_L1 (xs : List (List Int)) (i : Int) : (List Int) := xs.getD i.toNat ([] : List Int)
theorem at_L1 {w : World} {A : Option Addr} {n : Nat} {xs : List (List Int)} (h : Kd.C (Kd.slice 3 (Kd.int .i64)) w A n xs) (i : Int) (h0 : 0 ≤ i) (h1 : i < n) : ∃ ad A0 c0, A = some ad ∧ w.cell? (ad.add i.toNat) = some (.slice A0 (rd_L1 xs i).length c0) ∧ (rd_L1 xs i).length ≤ c0 ∧ (Kd.int .i64).C w A0 (rd_L1 xs i).length (rd_L1 xs i) := by
 obtain ⟨ad, c, e, _, hK, hc0⟩ := Kd.C_get h ([] : List Int) i h0 h1
 have hc : ∀ j u, c[j]? = some u → w.cell? (ad.add (i.toNat * 1 + j)) = some u := hc0
 obtain ⟨A0, c0, rfl, l0, g0⟩ := hK
 exact ⟨ad, A0, c0, e, by have hq := hc 0 _ rfl; rwa [Nat.mul_one, Nat.add_zero] at hq, l0, g0⟩

def rd_L2 (xs : List (List (List Int))) (i : Int) : (List (List Int)) := xs.getD i.toNat ([] : List (List Int))
theorem at_L2 {w : World} {A : Option Addr} {n : Nat} {xs : List (List (List Int))} (h : Kd.C (Kd.slice 22 (Kd.slice 3 (Kd.int .i64))) w A n xs) (i : Int) (h0 : 0 ≤ i) (h1 : i < n) : ∃ ad A0 c0, A = some ad ∧ w.cell? (ad.add i.toNat) = some (.slice A0 (rd_L2 xs i).length c0) ∧ (rd_L2 xs i).length ≤ c0 ∧ (Kd.slice 3 (Kd.int .i64)).C w A0 (rd_L2 xs i).length (rd_L2 xs i) := by
 obtain ⟨ad, c, e, _, hK, hc0⟩ := Kd.C_get h ([] : List (List Int)) i h0 h1
 have hc : ∀ j u, c[j]? = some u → w.cell? (ad.add (i.toNat * 1 + j)) = some u := hc0
 obtain ⟨A0, c0, rfl, l0, g0⟩ := hK
 exact ⟨ad, A0, c0, e, by have hq := hc 0 _ rfl; rwa [Nat.mul_one, Nat.add_zero] at hq, l0, g0⟩

theorem A_ {p : Prop} (h : p) : Aside0 p := ⟨h⟩
theorem mA {α β : Type} {f : α → β} {l : List α} : l.toArray.map f = (l.map f).toArray := by simp
theorem mB {α β : Type} {f : α → β} {a : α} {l : List α} : (a :: l).map f = f a :: l.map f := by simp
theorem mC {α β : Type} {f : α → β} : [].map f = [] := by simp
theorem mD {α : Type} {l : List α} {i : Nat} {a : α} : l.toArray.setIfInBounds i a = (l.set i a).toArray := by simp
theorem mE {α : Type} {a b : α} {l : List α} : (a :: l).set 0 b = b :: l := by simp
theorem mF {α : Type} {a b : α} {l : List α} {i : Nat} : (a :: l).set (i + 1) b = a :: l.set i b := by simp
def En_ (P : Program) (f : FuncId) : Prop := ∃ fn, P.funcs[f]? = some fn ∧ (fn.name == "runtime.NumGoroutine") = false ∧ fn.body.isSome = true
section
variable {P : Program} {ops : Array Oper} {Q : Exit → Act → World → Prop} {md : Region.Mode} {S : World → Prop} {ds : List Nat} {rest : List Oper} {oi : Oper} {a a' : Act} {w : World} {K : Act → World → Prop} {N : Option Tmp} {f : FuncId} {as_ : Array Operand} {ts : Array TypeId} {args : Array Value} {R : Ending → World → Prop} {T : Bool × List (List Nat × List Nat)} {B : List Nat} {i fuel : Nat} {v : Value} {l : Array Bool}
theorem cL_ (he : En_ P f) (n : Tmp) (hop : oi.op = .call { callee := .value (.func f), args := as_, argTypes := ts }) (hd : oi.dst = some n) (hg : oi.guard = none) (hc : Calls P f args w R) (hargs : as_.map a.eval = args)
  (h : ∀ e w', R e w' → ∃ v, e = .returned v ∧ wpList P ops Q rest (a.put (some n) v) w') : wpList P ops Q (oi :: rest) a w := by
  obtain ⟨fn, h1, h2, h3⟩ := he
  exact goesL_ (some n) hd hg h1 h2 h3 args hop hargs (hc.mono h)
theorem cS_ (he : En_ P f) (hw : Region.wanted oi (yielded ops a.tmps) = true) (hN : oi.dst = N) (hop : oi.op = .call { callee := .value (.func f), args := as_, argTypes := ts }) (hc : Calls P f args w R) (hargs : as_.map a.eval = args)
  (h : ∀ e w', R e w' → ∃ v, e = .returned v ∧ K (a.put N v) w') : if Region.wanted oi (yielded ops a.tmps) = true then Oper.wp P oi a w K Q else K (a.put N undef) w := by
  obtain ⟨fn, h1, h2, h3⟩ := he
  exact goes_ h1 h2 h3 args hw hN hop hargs (hc.mono h)
theorem cD_ (he : En_ P f) (n : Tmp) (hop : oi.op = .call { callee := .value (.func f), args := as_, argTypes := ts }) (hd : oi.dst = some n) (hg : oi.guard = none) (hc : Calls P f args w fun e w' => e = .returned v ∧ Drawn0 w w') (hargs : as_.map a.eval = args)
  (h : ∀ m, wpList P ops Q rest (a.put (some n) v) (w.drewN m)) : wpList P ops Q (oi :: rest) a w := cL_ he n hop hd hg hc hargs (by rintro e w' ⟨rfl, ⟨m, rfl⟩⟩; exact ⟨_, rfl, h m⟩)
theorem cE_ (he : En_ P f) (hw : Region.wanted oi (yielded ops a.tmps) = true) (hN : oi.dst = N) (hop : oi.op = .call { callee := .value (.func f), args := as_, argTypes := ts }) (hc : Calls P f args w fun e w' => e = .returned v ∧ Drawn0 w w') (hargs : as_.map a.eval = args)
  (h : ∀ m, K (a.put N v) (w.drewN m)) : if Region.wanted oi (yielded ops a.tmps) = true then Oper.wp P oi a w K Q else K (a.put N undef) w := cS_ he hw hN hop hc hargs (by rintro e w' ⟨rfl, ⟨m, rfl⟩⟩; exact ⟨_, rfl, h m⟩)
theorem od_ {p : Prop} [Decidable p] (h : decide p = true) : p := of_decide_eq_true h
theorem pv_ (i : Nat) (n : Tmp) (l' : Array Bool) (hi : ops[i]? = some oi) (hN : oi.dst = some n) (hT : rtab md ops = T) (h0 : anyT T l.toList l'.toList i = true) (hQ : ∀ c a w, Q (.panic c) (a.put oi.dst v) w → Q (.panic c) a w)
  (aa : Region.wanted oi (yielded ops a.tmps) = true) (ab : ∀ w, (execOp a.eval oi).run P w = .ok (.value v) w) (ha : a.put (some n) v = a') (h : wpAnyLast P md ops Q S ds fuel l' a' w) : wpAnyLast P md ops Q S ds (fuel + 1) l a w := pure_ l' hi hN (any_of hT h0) hQ (.inl ⟨aa, ab⟩) ha h
end
theorem ex_ {α : Sort _} (x : α) : ∃ y : α, y = x := ⟨_, rfl⟩
def mk_ (n x : Nat) : Array Bool := ((List.range n).map fun i => x.testBit i).toArray
section
variable {w : World} {g : Nat} {a b c d : Value} {l : List Value} {t : TypeId}
theorem bz0 (h : w.heap[g]? = some (.cells (a :: l).toArray t (0, 0))) : w.cell? ⟨g, 0, none⟩ = some a := (blk_cell h 0).trans rfl
theorem bz1 (h : w.heap[g]? = some (.cells (a :: b :: l).toArray t (0, 0))) : w.cell? ⟨g, 1, none⟩ = some b := (blk_cell h 1).trans rfl
theorem bz2 (h : w.heap[g]? = some (.cells (a :: b :: c :: l).toArray t (0, 0))) : w.cell? ⟨g, 2, none⟩ = some c := (blk_cell h 2).trans rfl
theorem bz3 (h : w.heap[g]? = some (.cells (a :: b :: c :: d :: l).toArray t (0, 0))) : w.cell? ⟨g, 3, none⟩ = some d := (blk_cell h 3).trans rfl
end
theorem bA_ {α β : Type} {o : Option α} {f : α → Option β} {r : β} (h : o.bind f = some r) : ∃ a, Aside0 (o = some a) ∧ f a = some r := by
  obtain ⟨a, h1, h2⟩ := Option.bind_eq_some_iff.mp h
  exact ⟨a, ⟨h1⟩, h2⟩
theorem lg_ {a b c : Nat} (h : a ≤ b) (e : c = b) : a ≤ c := e ▸ h
theorem ln_ {a b c : Nat} (h : a < b) (e : c = b) : a ≠ c := e ▸ Nat.ne_of_lt h
theorem ri_ {W : World} {base : Nat} {ok : Nat → Prop} (xs : List Int) : Reps ((Kd.int .i64).M W base ok) 1 xs (xs.map (.int .i64)) := by
  induction xs with
  | nil => exact Reps.none _ _
  | cons x xs ih => exact Reps.one (show Kd.M (Kd.int .i64) _ _ _ x [.int .i64 x] from rfl) ih
theorem RL_ {P : Program} {ops : Array Oper} {rest : List Oper} {o : Oper} {a : Act} {Q : Exit → Act → World → Prop} {W : World} (N : Tmp) (e : Nat) (xs : List Int) (inner : List Value) (hd : o.dst = some N) (hgd : o.guard = none)
  (hrun : (execOp a.eval o).run P W = .ok (.value (.slice (some ⟨W.heap.size, 0, none⟩) xs.length xs.length)) (W.alloc (.cells inner.toArray e))) (hi : xs.map (.int .i64) = inner) (hm : decide (xs.length ≤ 9223372036854775807) = true)
  (h : ∀ v1 w1, (Kd.int .i64).R e w1 W.heap.size (fun _ => True) v1 xs → Below W.heap.size W w1 → W.grownBy w1 none → (∃ b, v1.ownBlock = some b ∧ W.heap.size ≤ b) → wpList P ops Q rest (a.put o.dst v1) w1) : wpList P ops Q (o :: rest) a W := by
  subst hi
  exact Kd.R_lit (Kd.int .i64) W.heap.size e hgd hd (ok := fun _ => True) (okp := fun _ => True) hrun (ri_ xs) (fun _ hk => hk) trivial (Below.refl _ _) (Nat.le_refl _) (of_decide_eq_true hm) h
theorem fk_ {n e base c : Nat} {W : World} {ok okp : Nat → Prop} {A : Option Addr} {y : List Int} (h : Kd.R (Kd.int .i64) e W base ok (.slice A y.length c) y) (hm : ∀ k, ok k → okp k) : Kd.FK (Kd.slice n (Kd.int .i64)) W okp y [.slice A y.length c] := Kd.FK_slice_mk (Kd.R_reads' (Kd.R_mono h hm)).2.1 (Kd.R_F (Kd.R_mono h hm))
theorem gd_ {P : Program} {ops : Array Oper} {rest : List Oper} {o : Oper} {a : Act} {Q : Exit → Act → World → Prop} {W : World} (N : Tmp) (hd : o.dst = some N) (h : wpList P ops Q (o :: rest) a W) : wpList P ops Q (o :: rest) a W := h
theorem gc_ {P : Program} {ops : Array Oper} {rest : List Oper} {o : Oper} {a : Act} {Q : Exit → Act → World → Prop} {W : World} {as_ : Array Operand} {ts : Array TypeId} (f : FuncId) (_ho : o.op = .call { callee := .value (.func f), args := as_, argTypes := ts }) (h : wpList P ops Q (o :: rest) a W) : wpList P ops Q (o :: rest) a W := h
theorem nf_ : ¬ (false = true) := by decide
theorem bs_ {w W w2 : World} (h : Aside0 (Below w.heap.size w W)) (k : Below W.heap.size W w2) : Aside0 (Below w.heap.size w w2) := ⟨below_step h.out k⟩
theorem bb_ {w w1 : World} {g : Nat} {o : Obj} (h : Aside0 (w.heap[g]? = some o)) (hb : Below w.heap.size w w1) : Aside0 (w1.heap[g]? = some o) := ⟨blk_below h.out hb⟩
theorem kt_ {w w1 w2 : World} {g : Nat} {row : Option Nat} (h : Aside0 (KeepBut w w1 g row)) (k : KeepBut w1 w2 g row) : Aside0 (KeepBut w w2 g row) := ⟨h.out.trans k (.inl rfl)⟩
theorem kb_ {w w1 w2 : World} {g : Nat} (h : Aside0 (KeepBut w w1 g none)) (hb : Below w1.heap.size w1 w2) : Aside0 (KeepBut w w2 g none) := ⟨h.out.trans (KeepBut.of_below hb g none) (.inl rfl)⟩
theorem E11 : En_ Try.prog 11 := ⟨_, Try.func11, by kernel_rfl, rfl⟩
theorem E12 : En_ Try.prog 12 := ⟨_, Try.func12, by kernel_rfl, rfl⟩
theorem E13 : En_ Try.prog 13 := ⟨_, Try.func13, by kernel_rfl, rfl⟩
theorem E14 : En_ Try.prog 14 := ⟨_, Try.func14, by kernel_rfl, rfl⟩
theorem E15 : En_ Try.prog 15 := ⟨_, Try.func15, by kernel_rfl, rfl⟩
theorem E19 : En_ Try.prog 19 := ⟨_, Try.func19, by kernel_rfl, rfl⟩
theorem E20 : En_ Try.prog 20 := ⟨_, Try.func20, by kernel_rfl, rfl⟩
theorem E23 : En_ Try.prog 23 := ⟨_, Try.func23, by kernel_rfl, rfl⟩
theorem E24 : En_ Try.prog 24 := ⟨_, Try.func24, by kernel_rfl, rfl⟩
theorem E25 : En_ Try.prog 25 := ⟨_, Try.func25, by kernel_rfl, rfl⟩
theorem E26 : En_ Try.prog 26 := ⟨_, Try.func26, by kernel_rfl, rfl⟩
theorem E27 : En_ Try.prog 27 := ⟨_, Try.func27, by kernel_rfl, rfl⟩
theorem E28 : En_ Try.prog 28 := ⟨_, Try.func28, by kernel_rfl, rfl⟩
theorem E29 : En_ Try.prog 29 := ⟨_, Try.func29, by kernel_rfl, rfl⟩
theorem E30 : En_ Try.prog 30 := ⟨_, Try.func30, by kernel_rfl, rfl⟩
theorem E33 : En_ Try.prog 33 := ⟨_, Try.func33, by kernel_rfl, rfl⟩
section
variable {w w1 W : World} {g g2 : Nat} {o : Obj} {a b c d e f : Value} {l : List Value} {t : TypeId}
theorem nl_ (h : Aside0 (w.heap[g]? = some o)) (k : g2 = w.heap.size) : Aside0 (g ≠ g2) := ⟨by rw [k]; exact Nat.ne_of_lt (blk_lt h.out)⟩
theorem ng_ (h : Aside0 (w.heap[g]? = some o)) (k : g2 = w.heap.size) : Aside0 (g2 ≠ g) := ⟨(nl_ h k).out.symm⟩
theorem bq1 (h : w.heap[g]? = some (.cells (a :: l).toArray t (0, 0))) : w.cell? ⟨g, 0, none⟩ = some a ∧ w.frozen? ⟨g, 0, none⟩ = false := ⟨bz0 h, blk_frozen h 0⟩
theorem bq2 (h : w.heap[g]? = some (.cells (a :: b :: l).toArray t (0, 0))) : (w.cell? ⟨g, 0, none⟩ = some a ∧ w.cell? ⟨g, 1, none⟩ = some b) ∧ w.frozen? ⟨g, 0, none⟩ = false ∧ w.frozen? ⟨g, 1, none⟩ = false := ⟨⟨bz0 h, bz1 h⟩, blk_frozen h 0, blk_frozen h 1⟩
theorem bc2 (h : Aside0 (w.heap[g]? = some (.cells (a :: b :: l).toArray t (0, 0)))) : w.cell? ⟨g, 0, none⟩ = some a ∧ w.cell? ⟨g, 1, none⟩ = some b := ⟨bz0 h.out, bz1 h.out⟩
theorem bc3 (h : Aside0 (w.heap[g]? = some (.cells (a :: b :: c :: l).toArray t (0, 0)))) : w.cell? ⟨g, 0, none⟩ = some a ∧ w.cell? ⟨g, 1, none⟩ = some b ∧ w.cell? ⟨g, 2, none⟩ = some c := ⟨bz0 h.out, bz1 h.out, bz2 h.out⟩
theorem bc4 (h : Aside0 (w.heap[g]? = some (.cells (a :: b :: c :: d :: l).toArray t (0, 0)))) : w.cell? ⟨g, 0, none⟩ = some a ∧ w.cell? ⟨g, 1, none⟩ = some b ∧ w.cell? ⟨g, 2, none⟩ = some c ∧ w.cell? ⟨g, 3, none⟩ = some d := ⟨bz0 h.out, bz1 h.out, bz2 h.out, bz3 h.out⟩
theorem bq3 (h : w.heap[g]? = some (.cells (a :: b :: c :: l).toArray t (0, 0))) : (w.cell? ⟨g, 0, none⟩ = some a ∧ w.cell? ⟨g, 1, none⟩ = some b ∧ w.cell? ⟨g, 2, none⟩ = some c) ∧ w.frozen? ⟨g, 0, none⟩ = false ∧ w.frozen? ⟨g, 1, none⟩ = false ∧ w.frozen? ⟨g, 2, none⟩ = false := ⟨bc3 ⟨h⟩, blk_frozen h 0, blk_frozen h 1, blk_frozen h 2⟩
theorem bq4 (h : w.heap[g]? = some (.cells (a :: b :: c :: d :: l).toArray t (0, 0))) : (w.cell? ⟨g, 0, none⟩ = some a ∧ w.cell? ⟨g, 1, none⟩ = some b ∧ w.cell? ⟨g, 2, none⟩ = some c ∧ w.cell? ⟨g, 3, none⟩ = some d) ∧ w.frozen? ⟨g, 0, none⟩ = false ∧ w.frozen? ⟨g, 1, none⟩ = false ∧ w.frozen? ⟨g, 2, none⟩ = false ∧ w.frozen? ⟨g, 3, none⟩ = false := ⟨bc4 ⟨h⟩, blk_frozen h 0, blk_frozen h 1, blk_frozen h 2, blk_frozen h 3⟩
end
section
variable {α : Type} {d : Kd α} {e base g t : Nat} {w W w1 : World} {ok ok' : Nat → Prop} {u v : Value} {xs : List α} {cs : Array Value} {γ : Type} {d' : Kd γ} {e' b' : Nat} {W' : World} {ok2 : Nat → Prop} {ys : List γ}
theorem gR_ (r : Aside0 (Kd.R d e W base ok v xs)) (h : Aside0 (W.heap[g]? = some (.cells cs t (0, 0)))) (hg : W.grownBy w1 v.ownBlock) (ht : e ≠ t := by decide) : Aside0 (w1.heap[g]? = some (.cells cs t (0, 0))) := ⟨blk_grown h.out hg (Kd.R_ne r.out h.out ht)⟩
theorem gS_ (r : Aside0 (Kd.S d e W base ok v xs)) (h : Aside0 (W.heap[g]? = some (.cells cs t (0, 0)))) (hg : W.grownBy w1 v.ownBlock) (ht : e ≠ t := by decide) : Aside0 (w1.heap[g]? = some (.cells cs t (0, 0))) := ⟨blk_grown h.out hg (Kd.S_ne r.out h.out ht)⟩
theorem rA_ (z : Kd.R d' e' W' b' ok2 v ys) (h : Aside0 (Kd.R d e W base (fun k => ok k ∧ some k ≠ v.ownBlock) u xs)) (hg : W.grownBy w1 v.ownBlock) : Aside0 (Kd.R d e w1 base (fun k => ok k ∧ some k ≠ v.ownBlock) u xs) := ⟨Kd.R_after h.out hg (.inl rfl)⟩
theorem sA_ (z : Kd.R d' e' W' b' ok2 v ys) (h : Aside0 (Kd.S d e W base (fun k => ok k ∧ some k ≠ v.ownBlock) u xs)) (hg : W.grownBy w1 v.ownBlock) : Aside0 (Kd.S d e w1 base (fun k => ok k ∧ some k ≠ v.ownBlock) u xs) := ⟨Kd.S_after h.out hg (.inl rfl)⟩
theorem rB_ (z : Kd.R d' e' W' b' ok2 v ys) (h : Aside0 (Kd.R d e W base ok' u xs)) (m : ∀ k, ok' k → (ok k ∧ some k ≠ v.ownBlock)) (hg : W.grownBy w1 v.ownBlock) : Aside0 (Kd.R d e w1 base (fun k => ok k ∧ some k ≠ v.ownBlock) u xs) := ⟨Kd.R_after (Kd.R_mono h.out m) hg (.inl rfl)⟩
theorem sB_ (z : Kd.R d' e' W' b' ok2 v ys) (h : Aside0 (Kd.S d e W base ok' u xs)) (m : ∀ k, ok' k → (ok k ∧ some k ≠ v.ownBlock)) (hg : W.grownBy w1 v.ownBlock) : Aside0 (Kd.S d e w1 base (fun k => ok k ∧ some k ≠ v.ownBlock) u xs) := ⟨Kd.S_after (Kd.S_mono h.out m) hg (.inl rfl)⟩
end
abbrev o1 (a : Value) (k : Nat) : Prop := some k ≠ a.ownBlock
abbrev o2 (a b : Value) (k : Nat) : Prop := some k ≠ a.ownBlock ∧ some k ≠ b.ownBlock
abbrev o3 (a b c : Value) (k : Nat) : Prop := some k ≠ a.ownBlock ∧ some k ≠ b.ownBlock ∧ some k ≠ c.ownBlock
abbrev o4 (a b c d : Value) (k : Nat) : Prop := some k ≠ a.ownBlock ∧ some k ≠ b.ownBlock ∧ some k ≠ c.ownBlock ∧ some k ≠ d.ownBlock
abbrev o5 (a b c d e : Value) (k : Nat) : Prop := some k ≠ a.ownBlock ∧ some k ≠ b.ownBlock ∧ some k ≠ c.ownBlock ∧ some k ≠ d.ownBlock ∧ some k ≠ e.ownBlock
abbrev o6 (a b c d e f : Value) (k : Nat) : Prop := some k ≠ a.ownBlock ∧ some k ≠ b.ownBlock ∧ some k ≠ c.ownBlock ∧ some k ≠ d.ownBlock ∧ some k ≠ e.ownBlock ∧ some k ≠ f.ownBlock
section
variable {P : Program} {ops : Array Oper} {Q : Exit → Act → World → Prop} {md : Region.Mode} {S : World → Prop} {ds : List Nat} {oi : Oper} {a a' : Act} {w : World} {v : Value} {l : Array Bool} {fuel : Nat} {T : Bool × List (List Nat × List Nat)} {B : List Nat}
theorem pw_ (i : Nat) (n : Tmp) (l' : Array Bool) (hT : Aside0 (rtab md ops = T)) (h : wpAnyLast P md ops Q S ds fuel l' a' w) (hi : ops[i]? = some oi := by rfl) (hN : oi.dst = some n := by rfl) (h0 : anyT T l.toList l'.toList i = true := by kernel_rfl) (hQ : ∀ c a w, Q (.panic c) (a.put oi.dst v) w → Q (.panic c) a w := by exact fun _ _ _ h => h)
  (hy1 : Region.wanted oi (yielded ops a.tmps) = true := by rfl) (hy2 : ∀ w, (execOp a.eval oi).run P w = .ok (.value v) w := by intro w'; go_simp; with_reducible rfl) (ha : a.put (some n) v = a' := by simp only [Act.put, mD, mE, mF, i64_w, i32_w]; rfl) : wpAnyLast P md ops Q S ds (fuel + 1) l a w := pv_ i n l' hi hN hT.out h0 hQ hy1 hy2 ha h
theorem tk_ (i : Nat) (n : Tmp) (l' : Array Bool) (hT : Aside0 (rtab md ops = T)) (hB : Aside0 (waitsOk T.2 B = true)) (hS : S w) (h : wpAnyLast P md ops Q S ds fuel l' a' w) (hi : ops[i]? = some oi := by rfl) (hN : oi.dst = some n := by rfl) (h0 : takeW T B ds l.toList l'.toList i = true := by kernel_rfl) (hQ : ∀ c a w, Q (.panic c) (a.put oi.dst v) w → Q (.panic c) a w := by exact fun _ _ _ h => h)
  (hy1 : Region.wanted oi (yielded ops a.tmps) = true := by rfl) (hy2 : ∀ w, S w → (execOp a.eval oi).run P w = .ok (.value v) w := by intro w' hs_; go_simp; with_reducible rfl) (ha : a.put (some n) v = a' := by simp only [Act.put, mD, mE, mF, i64_w, i32_w]; rfl) : wpAnyLast P md ops Q S ds (fuel + 1) l a w := take_ l' hi hN (take_ofW hT.out hB.out h0) hQ (Or.inl ⟨hy1, hy2⟩) hS ha h
end
theorem _root_.Go.Proofs.YtlcepacbbfekoaaW.PrintWords.Aside0.o {p : Prop} (h : Aside0 p) : p := h.out
theorem oa_ {p : Prop} [Decidable p] (h : decide p = true := by assumption) : p := of_decide_eq_true h
theorem nz_ {α : Type} {r : α} {p : Prop} (h : none = some r) : p := by cases h
section
variable {w : World} {g : Nat} {t : TypeId} {cs cs' : Array Value} {p : Addr} {u : Value}
theorem pu_ (i : Nat) (h : w.heap[g]? = some (.cells cs t (0, 0))) (e : cs.setIfInBounds i u = cs') : (w.setCell ⟨g, i, none⟩ u).heap[g]? = some (.cells cs' t (0, 0)) := blk_put h i u e
theorem fa_ (hp : Aside0 (g ≠ p.block)) (h : w.heap[g]? = some (.cells cs t (0, 0))) : (w.setCell p u).heap[g]? = some (.cells cs t (0, 0)) := blk_far h hp.out u
end
section
variable {α : Type} {d : Kd α} {e base g t i j k l : Nat} {w : World} {ok : Nat → Prop} {v a b c f : Value} {xs : List α} {cs : Array Value}
theorem gR2_ (h : Kd.R d e w base (fun k => ok k ∧ k ≠ g) v xs) : Kd.R d e ((w.setCell ⟨g, i, none⟩ a).setCell ⟨g, j, none⟩ b) base (fun k => ok k ∧ k ≠ g) v xs := (Kd.R_far (p := ⟨g, j, none⟩) (Kd.R_far (p := ⟨g, i, none⟩) h (fun _ hk => hk.2) _) (fun _ hk => hk.2) _)
theorem gR3_ (h : Kd.R d e w base (fun k => ok k ∧ k ≠ g) v xs) : Kd.R d e (((w.setCell ⟨g, i, none⟩ a).setCell ⟨g, j, none⟩ b).setCell ⟨g, k, none⟩ c) base (fun k => ok k ∧ k ≠ g) v xs := (Kd.R_far (p := ⟨g, k, none⟩) (Kd.R_far (p := ⟨g, j, none⟩) (Kd.R_far (p := ⟨g, i, none⟩) h (fun _ hk => hk.2) _) (fun _ hk => hk.2) _) (fun _ hk => hk.2) _)
theorem gR4_ (h : Kd.R d e w base (fun k => ok k ∧ k ≠ g) v xs) : Kd.R d e ((((w.setCell ⟨g, i, none⟩ a).setCell ⟨g, j, none⟩ b).setCell ⟨g, k, none⟩ c).setCell ⟨g, l, none⟩ f) base (fun k => ok k ∧ k ≠ g) v xs := (Kd.R_far (p := ⟨g, l, none⟩) (Kd.R_far (p := ⟨g, k, none⟩) (Kd.R_far (p := ⟨g, j, none⟩) (Kd.R_far (p := ⟨g, i, none⟩) h (fun _ hk => hk.2) _) (fun _ hk => hk.2) _) (fun _ hk => hk.2) _) (fun _ hk => hk.2) _)
theorem gS2_ (h : Kd.S d e w base (fun k => ok k ∧ k ≠ g) v xs) : Kd.S d e ((w.setCell ⟨g, i, none⟩ a).setCell ⟨g, j, none⟩ b) base (fun k => ok k ∧ k ≠ g) v xs := (Kd.S_far (p := ⟨g, j, none⟩) (Kd.S_far (p := ⟨g, i, none⟩) h (fun _ hk => hk.2) _) (fun _ hk => hk.2) _)
theorem gS3_ (h : Kd.S d e w base (fun k => ok k ∧ k ≠ g) v xs) : Kd.S d e (((w.setCell ⟨g, i, none⟩ a).setCell ⟨g, j, none⟩ b).setCell ⟨g, k, none⟩ c) base (fun k => ok k ∧ k ≠ g) v xs := (Kd.S_far (p := ⟨g, k, none⟩) (Kd.S_far (p := ⟨g, j, none⟩) (Kd.S_far (p := ⟨g, i, none⟩) h (fun _ hk => hk.2) _) (fun _ hk => hk.2) _) (fun _ hk => hk.2) _)
theorem gS4_ (h : Kd.S d e w base (fun k => ok k ∧ k ≠ g) v xs) : Kd.S d e ((((w.setCell ⟨g, i, none⟩ a).setCell ⟨g, j, none⟩ b).setCell ⟨g, k, none⟩ c).setCell ⟨g, l, none⟩ f) base (fun k => ok k ∧ k ≠ g) v xs := (Kd.S_far (p := ⟨g, l, none⟩) (Kd.S_far (p := ⟨g, k, none⟩) (Kd.S_far (p := ⟨g, j, none⟩) (Kd.S_far (p := ⟨g, i, none⟩) h (fun _ hk => hk.2) _) (fun _ hk => hk.2) _) (fun _ hk => hk.2) _) (fun _ hk => hk.2) _)
theorem gN2_ (h : Kd.N d e w base (fun k => ok k ∧ k ≠ g) v xs) : Kd.N d e ((w.setCell ⟨g, i, none⟩ a).setCell ⟨g, j, none⟩ b) base (fun k => ok k ∧ k ≠ g) v xs := (Kd.N_far (p := ⟨g, j, none⟩) (Kd.N_far (p := ⟨g, i, none⟩) h (fun _ hk => hk.2) _) (fun _ hk => hk.2) _)
theorem gN3_ (h : Kd.N d e w base (fun k => ok k ∧ k ≠ g) v xs) : Kd.N d e (((w.setCell ⟨g, i, none⟩ a).setCell ⟨g, j, none⟩ b).setCell ⟨g, k, none⟩ c) base (fun k => ok k ∧ k ≠ g) v xs := (Kd.N_far (p := ⟨g, k, none⟩) (Kd.N_far (p := ⟨g, j, none⟩) (Kd.N_far (p := ⟨g, i, none⟩) h (fun _ hk => hk.2) _) (fun _ hk => hk.2) _) (fun _ hk => hk.2) _)
theorem gN4_ (h : Kd.N d e w base (fun k => ok k ∧ k ≠ g) v xs) : Kd.N d e ((((w.setCell ⟨g, i, none⟩ a).setCell ⟨g, j, none⟩ b).setCell ⟨g, k, none⟩ c).setCell ⟨g, l, none⟩ f) base (fun k => ok k ∧ k ≠ g) v xs := (Kd.N_far (p := ⟨g, l, none⟩) (Kd.N_far (p := ⟨g, k, none⟩) (Kd.N_far (p := ⟨g, j, none⟩) (Kd.N_far (p := ⟨g, i, none⟩) h (fun _ hk => hk.2) _) (fun _ hk => hk.2) _) (fun _ hk => hk.2) _) (fun _ hk => hk.2) _)
theorem tR_ (h : Aside0 (Kd.R d e w base ok v xs)) (hb : Aside0 (w.heap[g]? = some (.cells cs t (0, 0)))) (ht : ∀ q, q ∈ e :: d.E → q ≠ t := by decide) : Kd.R d e w base (fun k => ok k ∧ k ≠ g) v xs := Kd.R_types h.out hb.out ht
theorem tS_ (h : Aside0 (Kd.S d e w base ok v xs)) (hb : Aside0 (w.heap[g]? = some (.cells cs t (0, 0)))) (ht : ∀ q, q ∈ e :: d.E → q ≠ t := by decide) : Kd.S d e w base (fun k => ok k ∧ k ≠ g) v xs := Kd.S_types h.out hb.out ht
end
section
variable {P : Program} {ops : Array Oper} {Q : Exit → Act → World → Prop} {md : Region.Mode} {S : World → Prop} {ds : List Nat} {rest : List Oper} {oi : Oper} {a a' : Act} {w : World} {f : FuncId} {v : Value} {l : Array Bool} {fuel : Nat} {as_ : Array Operand} {ts : Array TypeId} {args : Array Value} {R : Ending → World → Prop}
theorem cM_ (he : En_ P f) (n : Tmp) (hc : Calls P f args w R) (h : ∀ e w', R e w' → ∃ v, e = .returned v ∧ wpList P ops Q rest (a.put (some n) v) w') (hop : oi.op = .call { callee := .value (.func f), args := as_, argTypes := ts } := by rfl) (hd : oi.dst = some n := by rfl) (hg : oi.guard = none := by rfl) (hargs : as_.map a.eval = args := by simp only [mA, mB, mC]; rfl) : wpList P ops Q (oi :: rest) a w := cL_ he n hop hd hg hc hargs h
theorem nm_ (n : Nat) (h : wpAnyLast P md ops Q S ds fuel l a' w) (ha : Act.put a (some n) v = a' := by simp only [Act.put, mD, mE, mF, i64_w, i32_w]; rfl) : wpAnyLast P md ops Q S ds fuel l (Act.put a (some n) v) w := norm_ ha h
end
end Go.Proofs.Ytlcepacbbfekoaa.PFnExactSumForms
