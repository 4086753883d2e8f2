/- The machine side of one law: some contracts printed by this session's own program, some typed by hand. -/
import Derived.Test.YtiingconapodpaaW
import Derived.Test.YtiingconapodpaaProg
import Derived.Below
import Derived.Deep.Draws
import Derived.Deep.AppendLies
import Derived.Maps.AppendAt
import Derived.OwnWalk
import Derived.Laws.BytesArg
import Derived.Laws.MakeOwn
import Derived.Laws.OwnMore
import Derived.Deep.OwnRows
import Derived.Tactics
import Derived.Lib.ConvBytes
import Derived.Laws.Slices
import Derived.WalkKit
import Derived.KernelRfl
import Derived.RowKit3
import Derived.Deep.LoopGhost
import Derived.Deep.QuietTactic
import Derived.BigQuiet
import Derived.WideLaws
import Derived.Deep.DeepCutAuto
import Derived.Deep.CutBlock
import Derived.Deep.RegionHeld3
import Derived.Laws.Rows
import Derived.Lib.AppendStr
import Derived.ArgAppend
import Derived.Laws.IdiomCopy
import Derived.OrdersHeld
import Derived.Laws.BitsLemmas
import Derived.RowKit
import Derived.Lib.SliceRun
import Derived.Laws.CopyOwn
import Derived.Maps.OwnSet
namespace Go.Proofs.Ytiingconapodpaa.PFnLinear
open Go.RowKit Go.Proofs.YtiingconapodpaaW Go.Proofs.YtiingconapodpaaW.PrintWords Go.Proofs.YtiingconapodpaaW.PrintLast Go.Proofs.YtiingconapodpaaW.PrintMore
attribute [local go_sem] pO pJ qj qm oZ oW pK pM
set_option linter.unusedVariables false
set_option linter.unusedSimpArgs false
theorem K_ {p:Prop} (h:p:=by kernel_rfl):p:=h
def Pf:Option Int→Value
 |none=>.nilIface
 |some c=>.iface 0 (.int .i64 c)
theorem xC:Pf none=.nilIface:=rfl
theorem xA (c:Int):Pf (some c)=.iface 0 (.int .i64 c):=rfl
theorem info3:(Try.prog.info? 3).map (fun i=>(i.zero,i.size,i.bytes))=some (some (.int .i64 0),1,8):=by kernel_rfl
theorem Ph:(Try.prog.info? 4).map (fun i=>(i.zero,i.size,i.bytes))=some (some (.bool false),1,1):=by kernel_rfl
theorem info5:(Try.prog.info? 5).map (fun i=>(i.zero,i.size,i.bytes))=some (some (.int .u8 0),1,1):=by kernel_rfl
theorem Ef:(Try.prog.info? 24).map (fun i=>(i.zero,i.size,i.bytes))=some (some (.slice none 0 0),1,24):=by kernel_rfl
theorem uO:(Try.prog.info? 25).map (fun i=>(i.zero,i.size,i.bytes))=some (some (.slice none 0 0),1,24):=by kernel_rfl
def f_ (xs:List (List Int)) (i:Int):(List Int):=xs.getD i.toNat ([]:List Int)
theorem qM {w:World} {A:Option Addr} {n:Nat} {xs:List (List Int)} (h:Kd.C (Kd.slice 3 (Kd.int .i64)) w A n xs) (i:Int) (h0:0≤i) (h1:i<n):∃ad A0 c0,A=some ad∧w.cell? (ad.add i.toNat)=some (.slice A0 (f_ xs i).length c0)∧(f_ xs i).length≤c0∧(Kd.int .i64).C w A0 (f_ xs i).length (f_ xs i):=by
 obtain⟨ad,c,e,_,hK,hc0⟩:=Kd.G9 h ([]:List Int) i h0 h1
 have hc:∀j u,c[j]? =some u→w.cell? (ad.add (i.toNat*1+j))=some u:=hc0
 obtain⟨A0,c0,rfl,l0,g0⟩:=hK
 exact⟨ad,A0,c0,e,by have hq:=hc 0 _ rfl;rwa[Nat.mul_one,Nat.add_zero]at hq,l0,g0⟩
def nH (xs:List (List (List Int))) (i:Int):(List (List Int)):=xs.getD i.toNat ([]:List (List Int))
theorem wI {w:World} {A:Option Addr} {n:Nat} {xs:List (List (List Int))} (h:Kd.C (Kd.slice 25 (Kd.slice 3 (Kd.int .i64))) w A n xs) (i:Int) (h0:0≤i) (h1:i<n):∃ad A0 c0,A=some ad∧w.cell? (ad.add i.toNat)=some (.slice A0 (nH xs i).length c0)∧(nH xs i).length≤c0∧(Kd.slice 3 (Kd.int .i64)).C w A0 (nH xs i).length (nH xs i):=by
 obtain⟨ad,c,e,_,hK,hc0⟩:=Kd.G9 h ([]:List (List Int)) i h0 h1
 have hc:∀j u,c[j]? =some u→w.cell? (ad.add (i.toNat*1+j))=some u:=hc0
 obtain⟨A0,c0,rfl,l0,g0⟩:=hK
 exact⟨ad,A0,c0,e,by have hq:=hc 0 _ rfl;rwa[Nat.mul_one,Nat.add_zero]at hq,l0,g0⟩
theorem A_ {p:Prop} (h:p):Aside0 p:=⟨h⟩
theorem mA {α β:Type} {f:α→β} {l:List α}:l.toArray.map f=(l.map f).toArray:=sp
theorem mB {α β:Type} {f:α→β} {a:α} {l:List α}:(a::l).map f=f a::l.map f:=sp
theorem mC {α β:Type} {f:α→β}:[].map f=[]:=sp
theorem mD {α:Type} {l:List α} {i:Nat} {a:α}:l.toArray.setIfInBounds i a=(l.set i a).toArray:=sp
theorem mE {α:Type} {a b:α} {l:List α}:(a::l).set 0 b=b::l:=sp
theorem mF {α:Type} {a b:α} {l:List α} {i:Nat}:(a::l).set (i+1) b=a::l.set i b:=sp
def En_ (P:Program) (f:FuncId):Prop:=∃fn,P.funcs[f]? =some fn∧(fn.name== "runtime.NumGoroutine")=false∧fn.body.isSome=true
section
variable {P:Program} {ops:Array Oper} {Q:Exit→Act→World→Prop} {md:Region.Mode} {S:World→Prop} {ds:List Nat} {rest:List Oper} {oi:Oper} {a a':Act} {w:World} {K:Act→World→Prop} {N:Option Tmp} {f:FuncId} {J:Array Operand} {ts:Array TypeId} {args:Array Value} {R:Ending→World→Prop} {T:Bool×List (List Nat×List Nat)} {B:List Nat} {i fuel:Nat} {v:Value} {l:Array Bool}
theorem cL_ (he:En_ P f) (n:Tmp) (hop:oi.op=.call {callee:=.value (.func f),args:=J,argTypes:=ts}) (hd:oi.dst=some n) (hg:oi.guard=none) (hc:Calls P f args w R) (hargs:J.map a.eval=args)
  (h:∀e w',R e w'→∃v,e=.returned v∧wpList P ops Q rest (a.put (some n) v) w'):wpList P ops Q (oi::rest) a w:=by
  obtain⟨fn,h1,h2,h3⟩:=he
  exact Dw (some n) hd hg h1 h2 h3 args hop hargs (hc.mono h)
theorem cS_ (he:En_ P f) (hw:Region.wanted oi (yielded ops a.tmps)=true) (hN:oi.dst=N) (hop:oi.op=.call {callee:=.value (.func f),args:=J,argTypes:=ts}) (hc:Calls P f args w R) (hargs:J.map a.eval=args)
  (h:∀e w',R e w'→∃v,e=.returned v∧K (a.put N v) w'):if Region.wanted oi (yielded ops a.tmps)=true then Oper.wp P oi a w K Q else K (a.put N undef) w:=by
  obtain⟨fn,h1,h2,h3⟩:=he
  exact wG h1 h2 h3 args hw hN hop hargs (hc.mono h)
theorem cD_ (he:En_ P f) (n:Tmp) (hop:oi.op=.call {callee:=.value (.func f),args:=J,argTypes:=ts}) (hd:oi.dst=some n) (hg:oi.guard=none) (hc:Calls P f args w fun e w'=>e=.returned v∧nJ w w') (hargs:J.map a.eval=args)
  (h:∀m,wpList P ops Q rest (a.put (some n) v) (w.drewN m)):wpList P ops Q (oi::rest) a w:=cL_ he n hop hd hg hc hargs (by rintro e w' ⟨rfl,⟨m,rfl⟩⟩;exact⟨_,rfl,h m⟩)
theorem cE_ (he:En_ P f) (hw:Region.wanted oi (yielded ops a.tmps)=true) (hN:oi.dst=N) (hop:oi.op=.call {callee:=.value (.func f),args:=J,argTypes:=ts}) (hc:Calls P f args w fun e w'=>e=.returned v∧nJ w w') (hargs:J.map a.eval=args)
  (h:∀m,K (a.put N v) (w.drewN m)):if Region.wanted oi (yielded ops a.tmps)=true then Oper.wp P oi a w K Q else K (a.put N undef) w:=cS_ he hw hN hop hc hargs (by rintro e w' ⟨rfl,⟨m,rfl⟩⟩;exact⟨_,rfl,h m⟩)
theorem od_ {p:Prop} [Decidable p] (h:decide p=true):p:=of_decide_eq_true h
theorem pv_ (i:Nat) (n:Tmp) (l':Array Bool) (hi:ops[i]? =some oi) (hN:oi.dst=some n) (hT:uf md ops=T) (h0:Nn T l.toList l'.toList i=true) (hQ:∀c a w,Q (.panic c) (a.put oi.dst v) w→Q (.panic c) a w)
  (aa:Region.wanted oi (yielded ops a.tmps)=true) (ab:∀w,(execOp a.eval oi).run P w=.ok (.value v) w) (ha:a.put (some n) v=a') (h:nL P md ops Q S ds fuel l' a' w):nL P md ops Q S ds (fuel+1) l a w:=Lp l' hi hN (NW hT h0) hQ (.inl ⟨aa,ab⟩) ha h
end
theorem ex_ {α:Sort _} (x:α):∃y:α,y=x:=⟨_,rfl⟩
def mk_ (n x:Nat):Array Bool:=((List.range n).map fun i=>x.testBit i).toArray
section
variable {w:World} {g:Nat} {a b c d:Value} {l:List Value} {t:TypeId}
theorem bz0 (h:w.heap[g]? =some (.cells (a::l).toArray t (0,0))):w.cell? ⟨g,0,none⟩=some a:=(pU h 0).trans rfl
theorem bz1 (h:w.heap[g]? =some (.cells (a::b::l).toArray t (0,0))):w.cell? ⟨g,1,none⟩=some b:=(pU h 1).trans rfl
theorem bz2 (h:w.heap[g]? =some (.cells (a::b::c::l).toArray t (0,0))):w.cell? ⟨g,2,none⟩=some c:=(pU h 2).trans rfl
theorem bz3 (h:w.heap[g]? =some (.cells (a::b::c::d::l).toArray t (0,0))):w.cell? ⟨g,3,none⟩=some d:=(pU h 3).trans rfl
end
theorem bA_ {α β:Type} {o:Option α} {f:α→Option β} {r:β} (h:o.bind f=some r):∃a,Aside0 (o=some a)∧f a=some r:=by
  obtain⟨a,h1,h2⟩:=Option.bind_eq_some_iff.mp h
  exact⟨a,⟨h1⟩,h2⟩
theorem lg_ {a b c:Nat} (h:a≤b) (e:c=b):a≤c:=e▸h
theorem ln_ {a b c:Nat} (h:a<b) (e:c=b):a≠c:=e▸Nat.ne_of_lt h
theorem ri_ {W:World} {base:Nat} {ok:Nat→Prop} (xs:List Int):qK ((Kd.int .i64).M W base ok) 1 xs (xs.map (.int .i64)):=by
  induction xs with
  |nil=>exact qK.none _ _
  |cons x xs ih=>exact qK.one (show Kd.M (Kd.int .i64) _ _ _ x [.int .i64 x]from rfl) ih
theorem RL_ {P:Program} {ops:Array Oper} {rest:List Oper} {o:Oper} {a:Act} {Q:Exit→Act→World→Prop} {W:World} (N:Tmp) (e:Nat) (xs:List Int) (inner:List Value) (hd:o.dst=some N) (hgd:o.guard=none)
  (hrun:(execOp a.eval o).run P W=.ok (.value (.slice (some ⟨W.heap.size,0,none⟩) xs.length xs.length)) (W.alloc (.cells inner.toArray e))) (hi:xs.map (.int .i64)=inner) (hm:decide (xs.length≤9223372036854775807)=true)
  (h:∀v1 w1,(Kd.int .i64).R e w1 W.heap.size (fun _=>True) v1 xs→Below W.heap.size W w1→W.grownBy w1 none→(∃b,v1.ownBlock=some b∧W.heap.size≤b)→wpList P ops Q rest (a.put o.dst v1) w1):wpList P ops Q (o::rest) a W:=by
  subst hi
  exact Kd.wF (Kd.int .i64) W.heap.size e hgd hd (ok:=fun _=>True) (okp:=fun _=>True) hrun (ri_ xs) (fun _ hk=>hk) trivial (Below.refl _ _) (Nat.le_refl _) (of_decide_eq_true hm) h
theorem fk_ {n e base c:Nat} {W:World} {ok okp:Nat→Prop} {A:Option Addr} {y:List Int} (h:Kd.R (Kd.int .i64) e W base ok (.slice A y.length c) y) (hm:∀k,ok k→okp k):Kd.FK (Kd.slice n (Kd.int .i64)) W okp y [.slice A y.length c]:=Kd.CP (Kd.mX (Kd.mM h hm)).2.1 (Kd.R_F (Kd.mM h hm))
theorem gd_ {P:Program} {ops:Array Oper} {rest:List Oper} {o:Oper} {a:Act} {Q:Exit→Act→World→Prop} {W:World} (N:Tmp) (hd:o.dst=some N) (h:wpList P ops Q (o::rest) a W):wpList P ops Q (o::rest) a W:=h
theorem gc_ {P:Program} {ops:Array Oper} {rest:List Oper} {o:Oper} {a:Act} {Q:Exit→Act→World→Prop} {W:World} {J:Array Operand} {ts:Array TypeId} (f:FuncId) (_ho:o.op=.call {callee:=.value (.func f),args:=J,argTypes:=ts}) (h:wpList P ops Q (o::rest) a W):wpList P ops Q (o::rest) a W:=h
theorem nf_:¬ (false=true):=d_
theorem bs_ {w W w2:World} (h:Aside0 (Below w.heap.size w W)) (k:Below W.heap.size W w2):Aside0 (Below w.heap.size w w2):=⟨nZ h.out k⟩
theorem bb_ {w w1:World} {g:Nat} {o:Obj} (h:Aside0 (w.heap[g]? =some o)) (hb:Below w.heap.size w w1):Aside0 (w1.heap[g]? =some o):=⟨pg h.out hb⟩
theorem kt_ {w w1 w2:World} {g:Nat} {row:Option Nat} (h:Aside0 (oF w w1 g row)) (k:oF w1 w2 g row):Aside0 (oF w w2 g row):=⟨h.out.trans k (.inl rfl)⟩
theorem kb_ {w w1 w2:World} {g:Nat} (h:Aside0 (oF w w1 g none)) (hb:Below w1.heap.size w1 w2):Aside0 (oF w w2 g none):=⟨h.out.trans (oF.of_below hb g none) (.inl rfl)⟩
theorem E6:En_ Try.prog 6:=⟨_,Try.func6,by kernel_rfl,rfl⟩
theorem E7:En_ Try.prog 7:=⟨_,Try.func7,by kernel_rfl,rfl⟩
theorem E8:En_ Try.prog 8:=⟨_,Try.func8,by kernel_rfl,rfl⟩
theorem E9:En_ Try.prog 9:=⟨_,Try.func9,by kernel_rfl,rfl⟩
theorem E10:En_ Try.prog 10:=⟨_,Try.func10,by kernel_rfl,rfl⟩
theorem E11:En_ Try.prog 11:=⟨_,Try.func11,by kernel_rfl,rfl⟩
theorem E12:En_ Try.prog 12:=⟨_,Try.func12,by kernel_rfl,rfl⟩
theorem E13:En_ Try.prog 13:=⟨_,Try.func13,by kernel_rfl,rfl⟩
theorem E18:En_ Try.prog 18:=⟨_,Try.func18,by kernel_rfl,rfl⟩
theorem E19:En_ Try.prog 19:=⟨_,Try.func19,by kernel_rfl,rfl⟩
theorem E23:En_ Try.prog 23:=⟨_,Try.func23,by kernel_rfl,rfl⟩
theorem E25:En_ Try.prog 25:=⟨_,Try.func25,by kernel_rfl,rfl⟩
theorem E28:En_ Try.prog 28:=⟨_,Try.func28,by kernel_rfl,rfl⟩
theorem E30:En_ Try.prog 30:=⟨_,Try.func30,by kernel_rfl,rfl⟩
theorem E31:En_ Try.prog 31:=⟨_,Try.func31,by kernel_rfl,rfl⟩
theorem E32:En_ Try.prog 32:=⟨_,Try.func32,by kernel_rfl,rfl⟩
theorem E33:En_ Try.prog 33:=⟨_,Try.func33,by kernel_rfl,rfl⟩
theorem E34:En_ Try.prog 34:=⟨_,Try.func34,by kernel_rfl,rfl⟩
theorem E35:En_ Try.prog 35:=⟨_,Try.func35,by kernel_rfl,rfl⟩
theorem E37:En_ Try.prog 37:=⟨_,Try.func37,by kernel_rfl,rfl⟩
theorem E38:En_ Try.prog 38:=⟨_,Try.func38,by kernel_rfl,rfl⟩
theorem E41:En_ Try.prog 41:=⟨_,Try.func41,by kernel_rfl,rfl⟩
theorem E42:En_ Try.prog 42:=⟨_,Try.func42,by kernel_rfl,rfl⟩
theorem E46:En_ Try.prog 46:=⟨_,Try.func46,by kernel_rfl,rfl⟩
theorem E47:En_ Try.prog 47:=⟨_,Try.func47,by kernel_rfl,rfl⟩
theorem E50:En_ Try.prog 50:=⟨_,Try.func50,by kernel_rfl,rfl⟩
theorem E51:En_ Try.prog 51:=⟨_,Try.func51,by kernel_rfl,rfl⟩
theorem E53:En_ Try.prog 53:=⟨_,Try.func53,by kernel_rfl,rfl⟩
theorem E54:En_ Try.prog 54:=⟨_,Try.func54,by kernel_rfl,rfl⟩
theorem E55:En_ Try.prog 55:=⟨_,Try.func55,by kernel_rfl,rfl⟩
theorem E56:En_ Try.prog 56:=⟨_,Try.func56,by kernel_rfl,rfl⟩
theorem E58:En_ Try.prog 58:=⟨_,Try.func58,by kernel_rfl,rfl⟩
theorem E60:En_ Try.prog 60:=⟨_,Try.func60,by kernel_rfl,rfl⟩
theorem E62:En_ Try.prog 62:=⟨_,Try.func62,by kernel_rfl,rfl⟩
theorem E64:En_ Try.prog 64:=⟨_,Try.func64,by kernel_rfl,rfl⟩
theorem E65:En_ Try.prog 65:=⟨_,Try.func65,by kernel_rfl,rfl⟩
theorem E66:En_ Try.prog 66:=⟨_,Try.func66,by kernel_rfl,rfl⟩
theorem E67:En_ Try.prog 67:=⟨_,Try.func67,by kernel_rfl,rfl⟩
theorem E68:En_ Try.prog 68:=⟨_,Try.func68,by kernel_rfl,rfl⟩
theorem E69:En_ Try.prog 69:=⟨_,Try.func69,by kernel_rfl,rfl⟩
theorem E70:En_ Try.prog 70:=⟨_,Try.func70,by kernel_rfl,rfl⟩
theorem E71:En_ Try.prog 71:=⟨_,Try.func71,by kernel_rfl,rfl⟩
theorem E72:En_ Try.prog 72:=⟨_,Try.func72,by kernel_rfl,rfl⟩
theorem E76:En_ Try.prog 76:=⟨_,Try.func76,by kernel_rfl,rfl⟩
section
variable {w w1 W:World} {g g2:Nat} {o:Obj} {a b c d e f:Value} {l:List Value} {t:TypeId}
theorem nl_ (h:Aside0 (w.heap[g]? =some o)) (k:g2=w.heap.size):Aside0 (g≠g2):=⟨by rw[k];exact Nat.ne_of_lt (pY h.out)⟩
theorem ng_ (h:Aside0 (w.heap[g]? =some o)) (k:g2=w.heap.size):Aside0 (g2≠g):=⟨(nl_ h k).out.symm⟩
theorem bq1 (h:w.heap[g]? =some (.cells (a::l).toArray t (0,0))):w.cell? ⟨g,0,none⟩=some a∧w.frozen? ⟨g,0,none⟩=false:=⟨bz0 h,nY h 0⟩
theorem bq2 (h:w.heap[g]? =some (.cells (a::b::l).toArray t (0,0))):(w.cell? ⟨g,0,none⟩=some a∧w.cell? ⟨g,1,none⟩=some b)∧w.frozen? ⟨g,0,none⟩=false∧w.frozen? ⟨g,1,none⟩=false:=⟨⟨bz0 h,bz1 h⟩,nY h 0,nY h 1⟩
theorem bc2 (h:Aside0 (w.heap[g]? =some (.cells (a::b::l).toArray t (0,0)))):w.cell? ⟨g,0,none⟩=some a∧w.cell? ⟨g,1,none⟩=some b:=⟨bz0 h.out,bz1 h.out⟩
theorem bc3 (h:Aside0 (w.heap[g]? =some (.cells (a::b::c::l).toArray t (0,0)))):w.cell? ⟨g,0,none⟩=some a∧w.cell? ⟨g,1,none⟩=some b∧w.cell? ⟨g,2,none⟩=some c:=⟨bz0 h.out,bz1 h.out,bz2 h.out⟩
theorem bc4 (h:Aside0 (w.heap[g]? =some (.cells (a::b::c::d::l).toArray t (0,0)))):w.cell? ⟨g,0,none⟩=some a∧w.cell? ⟨g,1,none⟩=some b∧w.cell? ⟨g,2,none⟩=some c∧w.cell? ⟨g,3,none⟩=some d:=⟨bz0 h.out,bz1 h.out,bz2 h.out,bz3 h.out⟩
theorem bq3 (h:w.heap[g]? =some (.cells (a::b::c::l).toArray t (0,0))):(w.cell? ⟨g,0,none⟩=some a∧w.cell? ⟨g,1,none⟩=some b∧w.cell? ⟨g,2,none⟩=some c)∧w.frozen? ⟨g,0,none⟩=false∧w.frozen? ⟨g,1,none⟩=false∧w.frozen? ⟨g,2,none⟩=false:=⟨bc3 ⟨h⟩,nY h 0,nY h 1,nY h 2⟩
theorem bq4 (h:w.heap[g]? =some (.cells (a::b::c::d::l).toArray t (0,0))):(w.cell? ⟨g,0,none⟩=some a∧w.cell? ⟨g,1,none⟩=some b∧w.cell? ⟨g,2,none⟩=some c∧w.cell? ⟨g,3,none⟩=some d)∧w.frozen? ⟨g,0,none⟩=false∧w.frozen? ⟨g,1,none⟩=false∧w.frozen? ⟨g,2,none⟩=false∧w.frozen? ⟨g,3,none⟩=false:=⟨bc4 ⟨h⟩,nY h 0,nY h 1,nY h 2,nY h 3⟩
end
section
variable {α:Type} {d:Kd α} {e base g t:Nat} {w W w1:World} {ok ok':Nat→Prop} {u v:Value} {xs:List α} {cs:Array Value} {γ:Type} {d':Kd γ} {e' b':Nat} {W':World} {U:Nat→Prop} {ys:List γ}
theorem gR_ (r:Aside0 (Kd.R d e W base ok v xs)) (h:Aside0 (W.heap[g]? =some (.cells cs t (0,0)))) (hg:W.grownBy w1 v.ownBlock) (ht:e≠t:=by decide):Aside0 (w1.heap[g]? =some (.cells cs t (0,0))):=⟨qE h.out hg (Kd.xu r.out h.out ht)⟩
theorem gS_ (r:Aside0 (Kd.S d e W base ok v xs)) (h:Aside0 (W.heap[g]? =some (.cells cs t (0,0)))) (hg:W.grownBy w1 v.ownBlock) (ht:e≠t:=by decide):Aside0 (w1.heap[g]? =some (.cells cs t (0,0))):=⟨qE h.out hg (Kd.PH r.out h.out ht)⟩
theorem rA_ (z:Kd.R d' e' W' b' U v ys) (h:Aside0 (Kd.R d e W base (fun k=>ok k∧some k≠v.ownBlock) u xs)) (hg:W.grownBy w1 v.ownBlock):Aside0 (Kd.R d e w1 base (fun k=>ok k∧some k≠v.ownBlock) u xs):=⟨Kd.pq h.out hg (.inl rfl)⟩
theorem sA_ (z:Kd.R d' e' W' b' U v ys) (h:Aside0 (Kd.S d e W base (fun k=>ok k∧some k≠v.ownBlock) u xs)) (hg:W.grownBy w1 v.ownBlock):Aside0 (Kd.S d e w1 base (fun k=>ok k∧some k≠v.ownBlock) u xs):=⟨Kd.sF h.out hg (.inl rfl)⟩
theorem rB_ (z:Kd.R d' e' W' b' U v ys) (h:Aside0 (Kd.R d e W base ok' u xs)) (m:∀k,ok' k→(ok k∧some k≠v.ownBlock)) (hg:W.grownBy w1 v.ownBlock):Aside0 (Kd.R d e w1 base (fun k=>ok k∧some k≠v.ownBlock) u xs):=⟨Kd.pq (Kd.mM h.out m) hg (.inl rfl)⟩
theorem sB_ (z:Kd.R d' e' W' b' U v ys) (h:Aside0 (Kd.S d e W base ok' u xs)) (m:∀k,ok' k→(ok k∧some k≠v.ownBlock)) (hg:W.grownBy w1 v.ownBlock):Aside0 (Kd.S d e w1 base (fun k=>ok k∧some k≠v.ownBlock) u xs):=⟨Kd.sF (Kd.nV h.out m) hg (.inl rfl)⟩
end
abbrev o1 (a:Value) (k:Nat):Prop:=some k≠a.ownBlock
abbrev o2 (a b:Value) (k:Nat):Prop:=some k≠a.ownBlock∧some k≠b.ownBlock
abbrev o3 (a b c:Value) (k:Nat):Prop:=some k≠a.ownBlock∧some k≠b.ownBlock∧some k≠c.ownBlock
abbrev o4 (a b c d:Value) (k:Nat):Prop:=some k≠a.ownBlock∧some k≠b.ownBlock∧some k≠c.ownBlock∧some k≠d.ownBlock
abbrev o5 (a b c d e:Value) (k:Nat):Prop:=some k≠a.ownBlock∧some k≠b.ownBlock∧some k≠c.ownBlock∧some k≠d.ownBlock∧some k≠e.ownBlock
abbrev o6 (a b c d e f:Value) (k:Nat):Prop:=some k≠a.ownBlock∧some k≠b.ownBlock∧some k≠c.ownBlock∧some k≠d.ownBlock∧some k≠e.ownBlock∧some k≠f.ownBlock
section
variable {P:Program} {ops:Array Oper} {Q:Exit→Act→World→Prop} {md:Region.Mode} {S:World→Prop} {ds:List Nat} {oi:Oper} {a a':Act} {w:World} {v:Value} {l:Array Bool} {fuel:Nat} {T:Bool×List (List Nat×List Nat)} {B:List Nat}
theorem pw_ (i:Nat) (n:Tmp) (l':Array Bool) (hT:Aside0 (uf md ops=T)) (h:nL P md ops Q S ds fuel l' a' w) (hi:ops[i]? =some oi:=by rfl) (hN:oi.dst=some n:=by rfl) (h0:Nn T l.toList l'.toList i=true:=by kernel_rfl) (hQ:∀c a w,Q (.panic c) (a.put oi.dst v) w→Q (.panic c) a w:=by exact fun _ _ _ h=>h)
  (hy1:Region.wanted oi (yielded ops a.tmps)=true:=by rfl) (hy2:∀w,(execOp a.eval oi).run P w=.ok (.value v) w:=by intro w';go_simp;with_reducible rfl) (ha:a.put (some n) v=a':=by simp only[Act.put,mD,mE,mF,uD,zn];rfl):nL P md ops Q S ds (fuel+1) l a w:=pv_ i n l' hi hN hT.out h0 hQ hy1 hy2 ha h
theorem tk_ (i:Nat) (n:Tmp) (l':Array Bool) (hT:Aside0 (uf md ops=T)) (hB:Aside0 (rV T.2 B=true)) (hS:S w) (h:nL P md ops Q S ds fuel l' a' w) (hi:ops[i]? =some oi:=by rfl) (hN:oi.dst=some n:=by rfl) (h0:Li T B ds l.toList l'.toList i=true:=by kernel_rfl) (hQ:∀c a w,Q (.panic c) (a.put oi.dst v) w→Q (.panic c) a w:=by exact fun _ _ _ h=>h)
  (hy1:Region.wanted oi (yielded ops a.tmps)=true:=by rfl) (hy2:∀w,S w→(execOp a.eval oi).run P w=.ok (.value v) w:=by intro w' hs_;go_simp;with_reducible rfl) (ha:a.put (some n) v=a':=by simp only[Act.put,mD,mE,mF,uD,zn];rfl):nL P md ops Q S ds (fuel+1) l a w:=Ea l' hi hN (Mo hT.out hB.out h0) hQ (Or.inl ⟨hy1,hy2⟩) hS ha h
end
theorem _root_.Go.Proofs.YtiingconapodpaaW.PrintWords.Aside0.o {p:Prop} (h:Aside0 p):p:=h.out
theorem oa_ {p:Prop} [Decidable p] (h:decide p=true:=by assumption):p:=of_decide_eq_true h
theorem nz_ {α:Type} {r:α} {p:Prop} (h:none=some r):p:=by cases h
section
variable {w:World} {g:Nat} {t:TypeId} {cs cs':Array Value} {p:Addr} {u:Value}
theorem pu_ (i:Nat) (h:w.heap[g]? =some (.cells cs t (0,0))) (e:cs.setIfInBounds i u=cs'):(w.setCell ⟨g,i,none⟩ u).heap[g]? =some (.cells cs' t (0,0)):=oN h i u e
theorem fa_ (hp:Aside0 (g≠p.block)) (h:w.heap[g]? =some (.cells cs t (0,0))):(w.setCell p u).heap[g]? =some (.cells cs t (0,0)):=pQ h hp.out u
end
section
variable {α:Type} {d:Kd α} {e base g t i j k l:Nat} {w:World} {ok:Nat→Prop} {v a b c f:Value} {xs:List α} {cs:Array Value}
theorem PV (h:Kd.R d e w base (fun k=>ok k∧k≠g) v xs):Kd.R d e ((w.setCell ⟨g,i,none⟩ a).setCell ⟨g,j,none⟩ b) base (fun k=>ok k∧k≠g) v xs:=(Kd.sM (p:=⟨g,j,none⟩) (Kd.sM (p:=⟨g,i,none⟩) h (fun _ hk=>hk.2) _) (fun _ hk=>hk.2) _)
theorem xe (h:Kd.R d e w base (fun k=>ok k∧k≠g) v xs):Kd.R d e (((w.setCell ⟨g,i,none⟩ a).setCell ⟨g,j,none⟩ b).setCell ⟨g,k,none⟩ c) base (fun k=>ok k∧k≠g) v xs:=(Kd.sM (p:=⟨g,k,none⟩) (Kd.sM (p:=⟨g,j,none⟩) (Kd.sM (p:=⟨g,i,none⟩) h (fun _ hk=>hk.2) _) (fun _ hk=>hk.2) _) (fun _ hk=>hk.2) _)
theorem wT (h:Kd.R d e w base (fun k=>ok k∧k≠g) v xs):Kd.R d e ((((w.setCell ⟨g,i,none⟩ a).setCell ⟨g,j,none⟩ b).setCell ⟨g,k,none⟩ c).setCell ⟨g,l,none⟩ f) base (fun k=>ok k∧k≠g) v xs:=(Kd.sM (p:=⟨g,l,none⟩) (Kd.sM (p:=⟨g,k,none⟩) (Kd.sM (p:=⟨g,j,none⟩) (Kd.sM (p:=⟨g,i,none⟩) h (fun _ hk=>hk.2) _) (fun _ hk=>hk.2) _) (fun _ hk=>hk.2) _) (fun _ hk=>hk.2) _)
theorem PW (h:Kd.S d e w base (fun k=>ok k∧k≠g) v xs):Kd.S d e ((w.setCell ⟨g,i,none⟩ a).setCell ⟨g,j,none⟩ b) base (fun k=>ok k∧k≠g) v xs:=(Kd.vW (p:=⟨g,j,none⟩) (Kd.vW (p:=⟨g,i,none⟩) h (fun _ hk=>hk.2) _) (fun _ hk=>hk.2) _)
theorem EF (h:Kd.S d e w base (fun k=>ok k∧k≠g) v xs):Kd.S d e (((w.setCell ⟨g,i,none⟩ a).setCell ⟨g,j,none⟩ b).setCell ⟨g,k,none⟩ c) base (fun k=>ok k∧k≠g) v xs:=(Kd.vW (p:=⟨g,k,none⟩) (Kd.vW (p:=⟨g,j,none⟩) (Kd.vW (p:=⟨g,i,none⟩) h (fun _ hk=>hk.2) _) (fun _ hk=>hk.2) _) (fun _ hk=>hk.2) _)
theorem PL (h:Kd.S d e w base (fun k=>ok k∧k≠g) v xs):Kd.S d e ((((w.setCell ⟨g,i,none⟩ a).setCell ⟨g,j,none⟩ b).setCell ⟨g,k,none⟩ c).setCell ⟨g,l,none⟩ f) base (fun k=>ok k∧k≠g) v xs:=(Kd.vW (p:=⟨g,l,none⟩) (Kd.vW (p:=⟨g,k,none⟩) (Kd.vW (p:=⟨g,j,none⟩) (Kd.vW (p:=⟨g,i,none⟩) h (fun _ hk=>hk.2) _) (fun _ hk=>hk.2) _) (fun _ hk=>hk.2) _) (fun _ hk=>hk.2) _)
theorem PX (h:Kd.N d e w base (fun k=>ok k∧k≠g) v xs):Kd.N d e ((w.setCell ⟨g,i,none⟩ a).setCell ⟨g,j,none⟩ b) base (fun k=>ok k∧k≠g) v xs:=(Kd.zY (p:=⟨g,j,none⟩) (Kd.zY (p:=⟨g,i,none⟩) h (fun _ hk=>hk.2) _) (fun _ hk=>hk.2) _)
theorem KG (h:Kd.N d e w base (fun k=>ok k∧k≠g) v xs):Kd.N d e (((w.setCell ⟨g,i,none⟩ a).setCell ⟨g,j,none⟩ b).setCell ⟨g,k,none⟩ c) base (fun k=>ok k∧k≠g) v xs:=(Kd.zY (p:=⟨g,k,none⟩) (Kd.zY (p:=⟨g,j,none⟩) (Kd.zY (p:=⟨g,i,none⟩) h (fun _ hk=>hk.2) _) (fun _ hk=>hk.2) _) (fun _ hk=>hk.2) _)
theorem Pb (h:Kd.N d e w base (fun k=>ok k∧k≠g) v xs):Kd.N d e ((((w.setCell ⟨g,i,none⟩ a).setCell ⟨g,j,none⟩ b).setCell ⟨g,k,none⟩ c).setCell ⟨g,l,none⟩ f) base (fun k=>ok k∧k≠g) v xs:=(Kd.zY (p:=⟨g,l,none⟩) (Kd.zY (p:=⟨g,k,none⟩) (Kd.zY (p:=⟨g,j,none⟩) (Kd.zY (p:=⟨g,i,none⟩) h (fun _ hk=>hk.2) _) (fun _ hk=>hk.2) _) (fun _ hk=>hk.2) _) (fun _ hk=>hk.2) _)
theorem tR_ (h:Aside0 (Kd.R d e w base ok v xs)) (hb:Aside0 (w.heap[g]? =some (.cells cs t (0,0)))) (ht:∀q,q∈e::d.E→q≠t:=by decide):Kd.R d e w base (fun k=>ok k∧k≠g) v xs:=Kd.qi h.out hb.out ht
theorem tS_ (h:Aside0 (Kd.S d e w base ok v xs)) (hb:Aside0 (w.heap[g]? =some (.cells cs t (0,0)))) (ht:∀q,q∈e::d.E→q≠t:=by decide):Kd.S d e w base (fun k=>ok k∧k≠g) v xs:=Kd.wR h.out hb.out ht
end
section
variable {P:Program} {ops:Array Oper} {Q:Exit→Act→World→Prop} {md:Region.Mode} {S:World→Prop} {ds:List Nat} {rest:List Oper} {oi:Oper} {a a':Act} {w:World} {f:FuncId} {v:Value} {l:Array Bool} {fuel:Nat} {J:Array Operand} {ts:Array TypeId} {args:Array Value} {R:Ending→World→Prop}
theorem cM_ (he:En_ P f) (n:Tmp) (hc:Calls P f args w R) (h:∀e w',R e w'→∃v,e=.returned v∧wpList P ops Q rest (a.put (some n) v) w') (hop:oi.op=.call {callee:=.value (.func f),args:=J,argTypes:=ts}:=by rfl) (hd:oi.dst=some n:=by rfl) (hg:oi.guard=none:=by rfl) (hargs:J.map a.eval=args:=by simp only[mA,mB,mC];rfl):wpList P ops Q (oi::rest) a w:=cL_ he n hop hd hg hc hargs h
theorem nm_ (n:Nat) (h:nL P md ops Q S ds fuel l a' w) (ha:Act.put a (some n) v=a':=by simp only[Act.put,mD,mE,mF,uD,zn];rfl):nL P md ops Q S ds fuel l (Act.put a (some n) v) w:=vg ha h
end
section
variable {P:Program} {ops:Array Oper} {Q:Exit→Act→World→Prop} {md:Region.Mode} {S:World→Prop} {ds:List Nat} {oi:Oper} {a a':Act} {w:World} {v:Value} {l:Array Bool} {fuel:Nat} {T:Bool×List (List Nat×List Nat)} {N:Option Tmp} {f:FuncId} {J:Array Operand} {ts:Array TypeId} {args:Array Value} {R:Ending→World→Prop} {K:Act→World→Prop}
theorem pz_ (i:Nat) (n:Tmp) (l':Array Bool) (h:nL P md ops Q S ds fuel l' a' w) (hi:ops[i]? =some oi:=by rfl) (hN:oi.dst=some n:=by rfl) (h0:Kn md ops l l' i=true:=by kernel_rfl) (hQ:∀c a w,Q (.panic c) (a.put oi.dst v) w→Q (.panic c) a w:=by exact fun _ _ _ h=>h)
  (hy1:Region.wanted oi (yielded ops a.tmps)=true:=by rfl) (hy2:∀w,(execOp a.eval oi).run P w=.ok (.value v) w:=by intro w';go_simp;with_reducible rfl) (ha:a.put (some n) v=a':=by simp only[Act.put,mD,mE,mF,uD,zn];rfl):nL P md ops Q S ds (fuel+1) l a w:=Lp l' hi hN h0 hQ (Or.inl ⟨hy1,hy2⟩) ha h
theorem uz_ (i:Nat) (n:Tmp) (l':Array Bool) (h:nL P md ops Q S ds fuel l' a' w) (hi:ops[i]? =some oi:=by rfl) (hN:oi.dst=some n:=by rfl) (h0:Kn md ops l l' i=true:=by kernel_rfl) (hQ:∀c a w,Q (.panic c) (a.put oi.dst undef) w→Q (.panic c) a w:=by exact fun _ _ _ h=>h)
  (hy1:Region.wanted oi (yielded ops a.tmps)=false:=by rfl) (ha:a.put (some n) undef=a':=by simp only[Act.put,mD,mE,mF,uD,zn];rfl):nL P md ops Q S ds (fuel+1) l a w:=Lp l' hi hN h0 hQ (Or.inr ⟨hy1,rfl⟩) ha h
theorem tz_ (i:Nat) (n:Tmp) (l':Array Bool) (hS:S w) (h:nL P md ops Q S ds fuel l' a' w) (hi:ops[i]? =some oi:=by rfl) (hN:oi.dst=some n:=by rfl) (h0:takeB md ops ds l l' i=true:=by kernel_rfl) (hQ:∀c a w,Q (.panic c) (a.put oi.dst v) w→Q (.panic c) a w:=by exact fun _ _ _ h=>h)
  (hy1:Region.wanted oi (yielded ops a.tmps)=true:=by rfl) (hy2:∀w,S w→(execOp a.eval oi).run P w=.ok (.value v) w:=by intro w' hs_;go_simp;with_reducible rfl) (ha:a.put (some n) v=a':=by simp only[Act.put,mD,mE,mF,uD,zn];rfl):nL P md ops Q S ds (fuel+1) l a w:=Ea l' hi hN h0 hQ (Or.inl ⟨hy1,hy2⟩) hS ha h
theorem oz_ (i:Nat) (l':Array Bool) (h:∀K:Act→World→Prop,Shut (∀a' w',S w'→(S w'→nL P md ops Q S ds fuel l' a' w')→K a' w')→if Region.wanted oi (yielded ops a.tmps)=true then Oper.wp P oi a w K Q else K (a.put N undef) w) (hi:ops[i]? =some oi:=by rfl) (hN:oi.dst=N:=by rfl) (hc:Ac md ops l l' i=true:=by kernel_rfl) (hd:i∉ds:=by decide):nL P md ops Q S ds (fuel+1) l a w:=OX l' hi hN hc hd h
theorem ow_ (i:Nat) (l':Array Bool) (hT:Aside0 (uf md ops=T)) (h:∀K:Act→World→Prop,Shut (∀a' w',S w'→(S w'→nL P md ops Q S ds fuel l' a' w')→K a' w')→if Region.wanted oi (yielded ops a.tmps)=true then Oper.wp P oi a w K Q else K (a.put N undef) w) (hi:ops[i]? =some oi:=by rfl) (hN:oi.dst=N:=by rfl) (h0:(zm T.2 l.toList==[i] && l.toList.set i true==l'.toList)=true:=by kernel_rfl) (hd:i∉ds:=by decide):nL P md ops Q S ds (fuel+1) l a w:=OX l' hi hN (xJ hT.out h0) hd h
theorem cT_ (he:En_ P f) (hc:Calls P f args w R) (h:∀e w',R e w'→∃v,e=.returned v∧K (a.put N v) w') (hw:Region.wanted oi (yielded ops a.tmps)=true:=by rfl) (hN:oi.dst=N:=by rfl) (hop:oi.op=.call {callee:=.value (.func f),args:=J,argTypes:=ts}:=by rfl) (hargs:J.map a.eval=args:=by simp only[mA,mB,mC];rfl):if Region.wanted oi (yielded ops a.tmps)=true then Oper.wp P oi a w K Q else K (a.put N undef) w:=cS_ he hw hN hop hc hargs h
end
section
variable {α β:Type} {p:Prop} [Decidable p] {x y:Option α} {r:α} {b:Bool} {v:β} {f:β→Option α}
theorem Hp_ (h:(if p then x else none)=some r):p∧x=some r:=by by_cases c:p;exact⟨c,(if_pos c).symm.trans h⟩;rw[if_neg c]at h;cases h
theorem Hd_ (h:(if p then x else none)=some r):decide p=true∧x=some r:=⟨decide_eq_true (Hp_ h).1,(Hp_ h).2⟩
theorem Ha_ (h:(if p then x else none)=some r):Aside0 p∧x=some r:=⟨⟨(Hp_ h).1⟩,(Hp_ h).2⟩
theorem Hj_ (h:(if p then x else y)=some r):p∧x=some r∨¬p∧y=some r:=by by_cases c:p;exact .inl ⟨c,(if_pos c).symm.trans h⟩;exact .inr ⟨c,(if_neg c).symm.trans h⟩
theorem Hi_ (h:(if p then x else y)=some r):decide p=true∧x=some r∨decide p=false∧y=some r:=(Hj_ h).imp (fun q=>⟨decide_eq_true q.1,q.2⟩) (fun q=>⟨decide_eq_false q.1,q.2⟩)
theorem Hb_ (h:(if b=true then x else y)=some r):b=true∧x=some r∨b=false∧y=some r:=(Hj_ h).imp id (fun q=>⟨Bool.eq_false_iff.mpr q.1,q.2⟩)
theorem Hs_ (h:(some v).bind f=some r):∃z,Aside0 (z=v)∧f z=some r:=⟨v,⟨rfl⟩,h⟩
end
theorem wb_ {p:Prop} (h:p:=by repeat (first|(with_reducible first|exact Aside0.out (by assumption)|apply pI|apply rE|apply oG|refine mY ?_ (Aside0.out (by assumption)))|exact Aside0.out (by assumption))):p:=h
theorem wk_ {p:Prop} (h:p:=by(with_reducible repeat (first|refine tZ ?_ _|refine nQ ?_|refine nP ?_ _));exact Aside0.out (by assumption)):p:=h
section
variable {P:Program} {ops:Array Oper} {Q:Exit→Act→World→Prop} {rest:List Oper} {o:Oper} {a:Act} {w W w1:World} {g h':Nat} {v u:Value} {cs:Array Value} {t:TypeId} {fn:Func} {p q:Tmp} {d:TypeDesc} {R:Ending→World→Prop} {i j:Nat} {ob:Obj}
theorem gt_ (n:Tmp) (h:wpList P ops Q (o::rest) a W) (_hN:o.dst=some n:=by rfl):wpList P ops Q (o::rest) a W:=h
theorem be_ (n:Tmp) (cs:Array Value) (t:TypeId) (h:∀g,g=W.heap.size→∀w1,w1.heap[g]? =some (.cells cs t (0,0))→Below W.heap.size W w1→wpList P ops Q rest (a.put o.dst (.pointer (some ⟨g,0,none⟩))) w1) (hgd:o.guard=none:=by rfl) (hd:o.dst=some n:=by rfl)
  (hrun:(execOp a.eval o).run P W=.ok (.value (.pointer (some ⟨W.heap.size,0,none⟩))) (W.alloc (.cells cs t (0,0))):=by go_simp;done):wpList P ops Q (o::rest) a W:=vH hgd hd hrun h
theorem lh_ (h:Aside0 (Below w.heap.size w W)) (e:g=W.heap.size):Aside0 (w.heap.size≤g):=⟨lg_ (mK h.out) e⟩
theorem cm_ {p:Addr} (h:Aside0 (Below w.heap.size w W)) (e:w.cell? p=some v):W.cell? p=some v:=(h.out.cell (World.block_lt_of_cell? w _ e)).trans e
theorem cf_ (h:Aside0 (g≠h')):(W.setCell ⟨h',j,none⟩ u).cell? ⟨g,i,none⟩=W.cell? ⟨g,i,none⟩:=cell_far (p:=⟨h',j,none⟩) (a:=⟨g,i,none⟩) h.out u
theorem rt_ (cs:Array Value) (hb:w.heap[g]? =some (.cells cs t (0,0))) (hu:P.underlying t=some d) (hR:R (.returned (.tuple #[.agg cs,a.tmps.getD q undef])) w) (h:fn.results= #[.cell p t,.tmp q]:=by rfl) (hp:a.tmps.getD p undef=.pointer (some ⟨g,0,none⟩):=by rfl) (hd:(match d with| .struct _| .array _ _=>true|_=>false)=true:=by rfl) (hi:(P.info? t).map (·.size)=some cs.size:=by kernel_rfl) (hq:a.defers=[]:=by rfl):bodyPost P fn R .ret a w:=bodyPost_ret (vB h _ _ g t cs (0,0) d hp hb hu hd hi) hq hR
theorem rs_ (cs:Array Value) (hb:w.heap[g]? =some (.cells cs t (0,0))) (hu:P.underlying t=some d) (hR:R (.returned (.agg cs)) w) (h:fn.results= #[.cell p t]:=by rfl) (hp:a.tmps.getD p undef=.pointer (some ⟨g,0,none⟩):=by rfl) (hd:(match d with| .struct _| .array _ _=>true|_=>false)=true:=by rfl) (hi:(P.info? t).map (·.size)=some cs.size:=by kernel_rfl) (hq:a.defers=[]:=by rfl):bodyPost P fn R .ret a w:=bodyPost_ret (results_cell_row h _ _ g t cs (0,0) d hp hb hu hd hi) hq hR
end
abbrev cA3 (g:Nat) (a b c:Value) (w:World) (p:Prop):Prop:=w.cell? ⟨g,0,none⟩=some a∧w.cell? ⟨g,1,none⟩=some b∧w.cell? ⟨g,2,none⟩=some c∧p
abbrev cA4 (g:Nat) (a b c d:Value) (w:World) (p:Prop):Prop:=w.cell? ⟨g,0,none⟩=some a∧w.cell? ⟨g,1,none⟩=some b∧w.cell? ⟨g,2,none⟩=some c∧w.cell? ⟨g,3,none⟩=some d∧p
abbrev cB3 (g:Nat) (a b c:Value) (w:World):Prop:=w.cell? ⟨g,0,none⟩=some a∧w.cell? ⟨g,1,none⟩=some b∧w.cell? ⟨g,2,none⟩=some c
abbrev cB4 (g:Nat) (a b c d:Value) (w:World):Prop:=w.cell? ⟨g,0,none⟩=some a∧w.cell? ⟨g,1,none⟩=some b∧w.cell? ⟨g,2,none⟩=some c∧w.cell? ⟨g,3,none⟩=some d
set_option maxHeartbeats 8000000
set_option maxRecDepth 100000
def xN.f (l0:List Int):Option (Bool):=some (decide ((l0.length:Int)>1048576))
theorem xN.calls (A0:Option Addr) (c0:Nat) (l0:List Int) (r:Bool) (w:World) (hr0:Kd.C (Kd.int .u8) w A0 l0.length l0) (hc0:l0.length≤c0) (h:xN.f l0=some r):
  Calls Try.prog 4 #[.slice A0 l0.length c0] w fun e w'=>e=.returned (.bool r)∧nJ w w':=by
 have bV:=A_ hr0;have cK:=A_ hc0;clear hr0 hc0;unfold xN.f at h;have H:=h;clear h;obtain rfl:=Option.some.inj H;go_enter Try.func4,Try.ntmps4
 go_wp2
 go_ret
 exact⟨rf,by repeat (first|exact nJ.refl _|apply nJ.step)⟩
def qJ (w0 W:World) (g:Nat) (f0:List Int) (f1:Int) (f2:Int):Prop:=∃A0 c0,W.heap[g]? =some (.cells #[.slice A0 f0.length c0,.int .i64 f1,.int .i64 f2] 77 (0,0))∧w0.heap.size≤g∧Kd.C (Kd.int .u8) w0 A0 f0.length f0
theorem qJ.grown {w0 W:World} {g:Nat} {f0:List Int} {f1:Int} {f2:Int} {W1:World} {row:Option Nat} (h:qJ w0 W g f0 f1 f2) (hw:W.grownBy W1 row) (hne:some g≠row):qJ w0 W1 g f0 f1 f2:=by
 obtain⟨A0,c0,hb,hg,hr0⟩:=h;exact⟨A0,c0,qE hb hw hne,hg,hr0⟩
theorem qJ.below {w0 W:World} {g:Nat} {f0:List Int} {f1:Int} {f2:Int} {W1:World} (h:qJ w0 W g f0 f1 f2) (hw:Below W.heap.size W W1):qJ w0 W1 g f0 f1 f2:=h.grown (D5 hw none) sp
theorem qJ.drewN {w0 W:World} {g:Nat} {f0:List Int} {f1:Int} {f2:Int} (h:qJ w0 W g f0 f1 f2) (m:Nat):qJ w0 (W.drewN m) g f0 f1 f2:=h
theorem qJ.apart {w0 W:World} {g:Nat} {f0:List Int} {f1:Int} {f2:Int} {α:Type} {d:Kd α} {e:Nat} {base:Nat} {ok:Nat→Prop} {v:Value} {xs:List α} (h:qJ w0 W g f0 f1 f2) (ho:d.R e W base ok v xs) (ht:∀q,q∈e::d.E→q≠77):d.R e W base (fun k=>ok k∧k≠g) v xs:=by
 obtain⟨A0,c0,hb,hg,hr0⟩:=h;exact Kd.qi ho hb ht
theorem qJ.own_ne {w0 W:World} {g:Nat} {f0:List Int} {f1:Int} {f2:Int} {α:Type} {d:Kd α} {e:Nat} {base:Nat} {ok:Nat→Prop} {v:Value} {xs:List α} (h:qJ w0 W g f0 f1 f2) (ho:d.R e W base ok v xs) (ht:e≠77):some g≠v.ownBlock:=by
 obtain⟨A0,c0,hb,hg,hr0⟩:=h;exact Kd.xu ho hb ht
theorem qJ.lt {w0 W:World} {g:Nat} {f0:List Int} {f1:Int} {f2:Int} (h:qJ w0 W g f0 f1 f2):g<W.heap.size:=by
 obtain⟨A0,c0,hb,hg,hr0⟩:=h;exact pY hb
theorem qJ.ge {w0 W:World} {g:Nat} {f0:List Int} {f1:Int} {f2:Int} (h:qJ w0 W g f0 f1 f2):w0.heap.size≤g:=by
 obtain⟨A0,c0,hb,hg,hr0⟩:=h;exact hg
theorem qJ.far {w0 W:World} {g:Nat} {f0:List Int} {f1:Int} {f2:Int} {p:Addr} (h:qJ w0 W g f0 f1 f2) (hne:g≠p.block) (u:Value):qJ w0 (W.setCell p u) g f0 f1 f2:=by
 obtain⟨A0,c0,hb,hg,hr0⟩:=h;exact⟨A0,c0,pQ hb hne u,hg,hr0⟩
theorem Fq {W:World} {g:Nat} {A0:Option Addr} {c0:Nat} {f0:List Int} {f1:Int} {f2:Int} (h:W.heap[g]? =some (.cells #[.slice A0 f0.length c0,.int .i64 f1,.int .i64 f2] 77 (0,0))):W.cell? ⟨g,0,none⟩=some (.slice A0 f0.length c0):=(pU h 0).trans rfl
theorem Fu {W:World} {g:Nat} {A0:Option Addr} {c0:Nat} {f0:List Int} {f1:Int} {f2:Int} (h:W.heap[g]? =some (.cells #[.slice A0 f0.length c0,.int .i64 f1,.int .i64 f2] 77 (0,0))):W.cell? ⟨g,1,none⟩=some (.int .i64 f1):=(pU h 1).trans rfl
theorem qJ.Ny {w0 W:World} {g:Nat} {f0:List Int} {f1:Int} {f2:Int} (h:qJ w0 W g f0 f1 f2) (x:Int):qJ w0 (W.setCell ⟨g,1,none⟩ (.int .i64 x)) g f0 x f2:=by
 obtain⟨A0,c0,hb,hg,hr0⟩:=h;exact⟨A0,c0,by simpa using Dk hb 1 (.int .i64 x),hg,hr0⟩
theorem Fb {W:World} {g:Nat} {A0:Option Addr} {c0:Nat} {f0:List Int} {f1:Int} {f2:Int} (h:W.heap[g]? =some (.cells #[.slice A0 f0.length c0,.int .i64 f1,.int .i64 f2] 77 (0,0))):W.cell? ⟨g,2,none⟩=some (.int .i64 f2):=(pU h 2).trans rfl
theorem qJ.ND {w0 W:World} {g:Nat} {f0:List Int} {f1:Int} {f2:Int} (h:qJ w0 W g f0 f1 f2) (x:Int):qJ w0 (W.setCell ⟨g,2,none⟩ (.int .i64 x)) g f0 f1 x:=by
 obtain⟨A0,c0,hb,hg,hr0⟩:=h;exact⟨A0,c0,by simpa using Dk hb 2 (.int .i64 x),hg,hr0⟩
def tN.l0:Nat→List Int→Int→Int→Option (List Int×Int×Int)
 |0,_,_,_=>none
 |k+1,x0,x3,x4=>if x4<(x0.length:Int)then(if x4<4000 then(if 0≤x4 then(tN.l0 k x0 (Go.bits .and .i64 (wrap64 ((wrap64 ((wrap64 (x3*131))+(wrap64 (rd x0 x4))))+7)) 1073741823) (wrap64 (x4+1)))else(none))else(some (x0,0,x3)))else(some (x0,0,x3))
def tN.f (k:Nat) (l0:List Int):Option (List Int×Int×Int):=tN.l0 k l0 (wrap64 (10101+(l0.length:Int))) 0
theorem tN.calls (k:Nat) (A0:Option Addr) (c0:Nat) (l0:List Int) (r1:List Int) (r2:Int) (r3:Int) (w0 w:World) (hB:Below w0.heap.size w0 w) (hr0:Kd.C (Kd.int .u8) w0 A0 l0.length l0) (hc0:l0.length≤c0) (h:tN.f k l0=some (r1,r2,r3)):
  Calls Try.prog 43 #[.slice A0 l0.length c0] w fun e w'=>∃g_:Nat,e=.returned (.pointer (some ⟨g_,0,none⟩))∧qJ w0 w' g_ r1 r2 r3∧Below w0.heap.size w0 w'∧Below w.heap.size w w':=by
 have cO:=Try.underlying77;have bV:=A_ hr0;have cK:=A_ hc0;clear hr0 hc0;have aP:=A_ (Below.refl w.heap.size w);have HW0:=A_ hB.size;have HB:=A_ hB;clear hB;unfold tN.f at h;have H:=h;clear h
 have H':=A_ H
 clear H;go_enter Try.func43,Try.ntmps43
 go_wp2
 go_loopg [3,4] k (fun kq v3 v4 w'=>∃ (ae:Int) (ab:Int),v3=.int .i64 ae∧v4=.int .i64 ab∧Aside0 (tN.l0 kq l0 ae ab=some (r1,r2,r3))∧Aside0 (kq≤k)∧Aside0 (Below w0.heap.size w0 w')∧Aside0 (Below w.heap.size w w'))
 case atStart=>exact⟨(wrap64 (10101+(l0.length:Int))),(0),rf,rf,H',⟨Nat.le_refl _⟩,HB,aP⟩
 case round=>
  clear H';obtain⟨ae,ab,rfl,rfl,HA,bI,HB,aP⟩:=hrel
  cases gk with
  |zero=>exact nz_ HA.o
  |succ k1=>
   have H:=HA.o;clear HA;simp only[tN.l0]at H
   replace H:=Hi_ H;rcases H with⟨ak,H⟩|⟨ak,H⟩
   ·replace H:=Hi_ H;rcases H with⟨al,H⟩|⟨al,H⟩
    ·replace ⟨am,H⟩:=Hd_ H
     have H':=A_ H
     clear H
     have an:0≤(ab:Int):=oa_
     have ar:ab<(l0.length:Int):=oa_
     obtain⟨bJ,aV,af⟩:=Kd.nM bV.o ab an ar
     cases aV
     replace af:=yt HB.o af;replace an:=eq_true an;replace ar:=eq_true ar
     go_wp2
     go_roundg k1
     case measure=>have:=bI.o;omega
     case rel=>exact⟨(Go.bits .and .i64 (wrap64 ((wrap64 ((wrap64 (ae*131))+(wrap64 (rd l0 ab))))+7)) 1073741823),(wrap64 (ab+1)),rf,rf,H',⟨by have:=bI.o;omega⟩,HB,aP⟩
    simp only[Option.some.injEq,Prod.mk.injEq]at H;obtain⟨rfl,rfl,rfl⟩:=H
    go_wp2_with (first|((with_reducible refine gt_ 31 ?_);refine be_ 31 #[.slice A0 l0.length c0,.int .i64 0,.int .i64 ae] 77 ?_;intro aG hg w5 a_ hb;replace HB:=bs_ HB hb;have ax:=A_ (a_);have bG:=lh_ aP hg;have az:=A_ (Nat.le_trans HW0.o (lg_ (mK aP.o) hg));replace aP:=bs_ aP hb;clear hb a_ hg))
    go_ret
    exact⟨_,rfl,(show qJ w0 _ aG l0 0 ae from⟨_,_,ax.o,az.o,bV.o⟩),HB.o,aP.o⟩
   simp only[Option.some.injEq,Prod.mk.injEq]at H;obtain⟨rfl,rfl,rfl⟩:=H
   go_wp2_with (first|((with_reducible refine gt_ 31 ?_);refine be_ 31 #[.slice A0 l0.length c0,.int .i64 0,.int .i64 ae] 77 ?_;intro aH hg w6 a_ hb;replace HB:=bs_ HB hb;have ay:=A_ (a_);have bH:=lh_ aP hg;have aA:=A_ (Nat.le_trans HW0.o (lg_ (mK aP.o) hg));replace aP:=bs_ aP hb;clear hb a_ hg))
   go_ret
   exact⟨_,rfl,(show qJ w0 _ aH l0 0 ae from⟨_,_,ay.o,aA.o,bV.o⟩),HB.o,aP.o⟩
def rR.f (J:List Int) (U:Int) (aB:Int):Option (Int×Int×Int):=if U<(J.length:Int)then(if 0≤U then(some (Go.bits .and .i64 (wrap64 ((Go.bits .and .i64 (Go.bits .xor .i64 ((wrap64 ((wrap64 (aB*6364136223846793005))+1442695040888963407)) / 8589934592) ((wrap64 ((wrap64 (aB*6364136223846793005))+1442695040888963407)) / 35184372088832)) 255)+(wrap64 (rd J U)))) 255,wrap64 (U+1),wrap64 ((wrap64 (aB*6364136223846793005))+1442695040888963407)))else(none))else(some (Go.bits .and .i64 (Go.bits .xor .i64 ((wrap64 ((wrap64 (aB*6364136223846793005))+1442695040888963407)) / 8589934592) ((wrap64 ((wrap64 (aB*6364136223846793005))+1442695040888963407)) / 35184372088832)) 255,U,wrap64 ((wrap64 (aB*6364136223846793005))+1442695040888963407)))
theorem rR.calls (g:Nat) (J:List Int) (U:Int) (aB:Int) (r1:Int) (r2:Int) (r3:Int) (w0 w:World) (hI:qJ w0 w g J U aB) (hB:Below w0.heap.size w0 w) (h:rR.f J U aB=some (r1,r2,r3)):
  Calls Try.prog 64 #[.pointer (some ⟨g,0,none⟩)] w fun e w'=>e=.returned (.int .i64 r1)∧qJ w0 w' g J r2 r3∧Below w0.heap.size w0 w'∧oF w w' g none:=by
 have HI0:=A_ hI;have HK:=A_ (oF.refl w g none);have HL:=A_ hB.size;clear hI;have HW0:=A_ hB.size;have HB:=A_ hB;clear hB;unfold rR.f at h;have H:=h;clear h
 replace H:=Hi_ H;rcases H with⟨ak,H⟩|⟨ak,H⟩
 ·replace ⟨al,H⟩:=Hd_ H
  simp only[Option.some.injEq,Prod.mk.injEq]at H;obtain⟨rfl,rfl,rfl⟩:=H;obtain⟨bX,bY,aR,bZ,bU⟩:=HI0.o;have a7:=Fq aR;have a8:=Fu aR;have a9:=Fb aR;have bf:=nY aR 1;have bg:=nY aR 2;clear aR bZ
  have ao:0≤(U:Int):=oa_
  have au:U<(J.length:Int):=oa_
  obtain⟨aC,aW,aa⟩:=Kd.nM bU U ao au
  cases aW
  have aF:aC.block≠g:=Nat.ne_of_lt (Nat.lt_of_lt_of_le (by have:=World.block_lt_of_cell? _ _ aa;first|rwa[add_block]at this|exact this) (qJ.ge HI0.o))
  replace aa:=yt HB.o aa;replace aa:=(cell_far (p:=⟨g,2,none⟩) (by first|(rw[add_block];exact aF)|(show(Addr.add _ _).block≠_;rw[add_block];exact aF)|exact aF) (.int .i64 (wrap64 ((wrap64 (aB*6364136223846793005))+1442695040888963407)))).trans aa
  (try have bW:=fun(n_:Nat)=>(show(((w.drewN n_).setCell ⟨g,2,none⟩ (.int .i64 (wrap64 ((wrap64 (aB*6364136223846793005))+1442695040888963407))))).cell? _=some _ from aa))
  clear aF;replace ao:=eq_true ao;replace au:=eq_true au;go_enter Try.func64,Try.ntmps64
  go_wp2
  repeat (go_quiet (fail);try go_wp2)
  go_ret
  exact⟨rf,by repeat (first|(with_reducible first|exact HI0.o|apply qJ.alloc|apply qJ.drewN|apply qJ.drew|apply qJ.Ny|apply qJ.ND)|exact HI0.o),by repeat (first|(with_reducible first|exact HB.o|apply pI|apply rE|apply oG|refine mY ?_ (qJ.ge HI0.o))|exact HB.o),by repeat (first|(with_reducible first|exact HK.o|apply oF.Pg|apply Eu|apply aS|apply aO)|exact HK.o)⟩
 simp only[Option.some.injEq,Prod.mk.injEq]at H;obtain⟨rfl,rfl,rfl⟩:=H;obtain⟨b_,cu,aZ,cz,cB⟩:=HI0.o;have ba:=Fq aZ;have bc:=Fu aZ;have be:=Fb aZ;have bh:=nY aZ 1;have bi:=nY aZ 2;clear aZ cz;go_enter Try.func64,Try.ntmps64
 go_wp2
 repeat (go_quiet (fail);try go_wp2)
 go_ret
 exact⟨rf,by repeat (first|(with_reducible first|exact HI0.o|apply qJ.alloc|apply qJ.drewN|apply qJ.drew|apply qJ.Ny|apply qJ.ND)|exact HI0.o),by repeat (first|(with_reducible first|exact HB.o|apply pI|apply rE|apply oG|refine mY ?_ (qJ.ge HI0.o))|exact HB.o),by repeat (first|(with_reducible first|exact HK.o|apply oF.Pg|apply Eu|apply aS|apply aO)|exact HK.o)⟩
def qU.f (J:List Int) (U:Int) (aB:Int) (a1:Int):Option (Int×Int×Int):=if a1≤0 then(some (0,U,aB))else(if a1≤256 then((rR.f J U aB).bind fun bO=>(if a1=0 then(none)else(some (Int.tmod bO.1 a1,bO.2.1,bO.2.2))))else((rR.f J U aB).bind fun bP=>((rR.f J bP.2.1 bP.2.2).bind fun bQ=>((rR.f J bQ.2.1 bQ.2.2).bind fun bR=>((rR.f J bR.2.1 bR.2.2).bind fun bS=>(if a1=0 then(none)else(some (Int.tmod (wrap64 ((wrap64 ((wrap64 ((wrap64 (bP.1*16777216))+(wrap64 (bQ.1*65536))))+(wrap64 (bR.1*256))))+bS.1)) a1,bS.2.1,bS.2.2))))))))
theorem qU.calls (g:Nat) (J:List Int) (U:Int) (aB:Int) (a1:Int) (r1:Int) (r2:Int) (r3:Int) (w0 w:World) (hI:qJ w0 w g J U aB) (hB:Below w0.heap.size w0 w) (h:qU.f J U aB a1=some (r1,r2,r3)):
  Calls Try.prog 50 #[.pointer (some ⟨g,0,none⟩),.int .i64 a1] w fun e w'=>e=.returned (.int .i64 r1)∧qJ w0 w' g J r2 r3∧Below w0.heap.size w0 w'∧oF w w' g none:=by
 have HI0:=A_ hI;have HK:=A_ (oF.refl w g none);have HL:=A_ hB.size;clear hI;have HW0:=A_ hB.size;have HB:=A_ hB;clear hB;unfold qU.f at h;have H:=h;clear h
 replace H:=Hi_ H;rcases H with⟨al,H⟩|⟨al,H⟩
 ·simp only[Option.some.injEq,Prod.mk.injEq]at H;obtain⟨rfl,rfl,rfl⟩:=H;go_enter Try.func50,Try.ntmps50
  go_wp2
  go_ret
  exact⟨rf,HI0.o,HB.o,HK.o⟩
 replace H:=Hi_ H;rcases H with⟨am,H⟩|⟨am,H⟩
 ·replace ⟨⟨bj,bk,bm⟩,A5,H⟩:=bA_ H;dsimp only at H
  replace H:=Hj_ H;rcases H with⟨c6,H⟩|⟨c6,H⟩
  ·cases H
  have bM:(a1==0)=false:=beq_eq_false_iff_ne.mpr c6
  have bN:(a1 !=0)=true:=bne_iff_ne.mpr c6
  simp only[Option.some.injEq,Prod.mk.injEq]at H;obtain⟨rfl,rfl,rfl⟩:=H;go_enter Try.func50,Try.ntmps50
  go_wp2_with (first|((with_reducible refine gc_ 64 rfl ?_);refine cM_ E64 14 (rR.calls g J U aB bj bk bm w0 _ HI0.o HB.o A5.o) ?_;rintro e w7 ⟨rfl,hi,hb,hk⟩;refine⟨_,rfl,?_⟩;replace HK:=kt_ HK hk;replace HB:=A_ (hb);replace HI0:=A_ (hi);clear hb hk;(try clear hi)))
  go_ret
  exact⟨rf,HI0.o,HB.o,HK.o⟩
 replace ⟨⟨bn,aI,aJ⟩,A8,H⟩:=bA_ H;dsimp only at H;replace ⟨⟨bq,aM,aN⟩,A9,H⟩:=bA_ H;dsimp only at H;replace ⟨⟨br,aQ,aT⟩,cZ,H⟩:=bA_ H;dsimp only at H;replace ⟨⟨bu,bv,bw⟩,df,H⟩:=bA_ H;dsimp only at H
 replace H:=Hj_ H;rcases H with⟨c12,H⟩|⟨c12,H⟩
 ·cases H
 have bK:(a1==0)=false:=beq_eq_false_iff_ne.mpr c12
 have bL:(a1 !=0)=true:=bne_iff_ne.mpr c12
 simp only[Option.some.injEq,Prod.mk.injEq]at H;obtain⟨rfl,rfl,rfl⟩:=H;go_enter Try.func50,Try.ntmps50
 go_wp2_with (first|((with_reducible refine gc_ 64 rfl ?_);refine cM_ E64 18 (rR.calls g J U aB bn aI aJ w0 _ HI0.o HB.o A8.o) ?_;rintro e di ⟨rfl,hi,hb,hk⟩;refine⟨_,rfl,?_⟩;replace HK:=kt_ HK hk;replace HB:=A_ (hb);replace HI0:=A_ (hi);clear hb hk;(try clear hi))|((with_reducible refine gc_ 64 rfl ?_);refine cM_ E64 20 (rR.calls g J aI aJ bq aM aN w0 _ HI0.o HB.o A9.o) ?_;rintro e dm ⟨rfl,hi,hb,hk⟩;refine⟨_,rfl,?_⟩;replace HK:=kt_ HK hk;replace HB:=A_ (hb);replace HI0:=A_ (hi);clear hb hk;(try clear hi))|((with_reducible refine gc_ 64 rfl ?_);refine cM_ E64 22 (rR.calls g J aM aN br aQ aT w0 _ HI0.o HB.o cZ.o) ?_;rintro e dn ⟨rfl,hi,hb,hk⟩;refine⟨_,rfl,?_⟩;replace HK:=kt_ HK hk;replace HB:=A_ (hb);replace HI0:=A_ (hi);clear hb hk;(try clear hi))|((with_reducible refine gc_ 64 rfl ?_);refine cM_ E64 24 (rR.calls g J aQ aT bu bv bw w0 _ HI0.o HB.o df.o) ?_;rintro e w16 ⟨rfl,hi,hb,hk⟩;refine⟨_,rfl,?_⟩;replace HK:=kt_ HK hk;replace HB:=A_ (hb);replace HI0:=A_ (hi);clear hb hk;(try clear hi)))
 go_ret
 exact⟨rf,HI0.o,HB.o,HK.o⟩
def sN.f (J:List Int) (U:Int) (aB:Int) (l1:List Int):Option (Int×Int×Int):=(qU.f J U aB (l1.length:Int)).bind fun aK=>(if 0≤aK.1 then(if aK.1<(l1.length:Int)then(some (rd l1 aK.1,aK.2.1,aK.2.2))else(none))else(none))
theorem sN.calls (g:Nat) (J:List Int) (U:Int) (aB:Int) (A1:Option Addr) (c1:Nat) (l1:List Int) (r1:Int) (r2:Int) (r3:Int) (w0 w:World) (hI:qJ w0 w g J U aB) (hB:Below w0.heap.size w0 w) (hr1:Kd.C (Kd.int .i64) w A1 l1.length l1) (hc1:l1.length≤c1) (hf1:∀ad,A1=some ad→0<l1.length→ad.block≠g) (h:sN.f J U aB l1=some (r1,r2,r3)):
  Calls Try.prog 51 #[.pointer (some ⟨g,0,none⟩),.slice A1 l1.length c1] w fun e w'=>e=.returned (.int .i64 r1)∧qJ w0 w' g J r2 r3∧Below w0.heap.size w0 w'∧oF w w' g none:=by
 have HR1:=A_ hr1;have dh:=A_ hc1;clear hr1 hc1;have HI0:=A_ hI;have HK:=A_ (oF.refl w g none);have HL:=A_ hB.size;clear hI;have HW0:=A_ hB.size;have HB:=A_ hB;clear hB;unfold sN.f at h;have H:=h;clear h;replace ⟨⟨ai,bz,bA⟩,A3,H⟩:=bA_ H;dsimp only at H
 replace ⟨am,H⟩:=Hd_ H
 replace ⟨aU,H⟩:=Hd_ H
 simp only[Option.some.injEq,Prod.mk.injEq]at H;obtain⟨rfl,rfl,rfl⟩:=H;go_enter Try.func51,Try.ntmps51
 go_wp2_with (first|((with_reducible refine gc_ 50 rfl ?_);refine cM_ E50 9 (qU.calls g J U aB (l1.length:Int) ai bz bA w0 _ HI0.o HB.o A3.o) ?_;rintro e w6 ⟨rfl,hi,hb,hk⟩;refine⟨_,rfl,?_⟩;replace HK:=kt_ HK hk;replace HB:=A_ (hb);replace HI0:=A_ (hi);clear hb hk hi;have ap:0≤(ai:Int):=oa_;have av:ai<(l1.length:Int):=oa_;obtain⟨aD,aX,ag⟩:=Kd.nM HR1.o ai ap av;cases aX;replace ag:=EX HK.o ag (by first|(rw[add_block];exact hf1 _ rfl om)|exact hf1 _ rfl om|exact hf1 aD rfl om);replace ap:=eq_true ap;replace av:=eq_true av))
 go_ret
 exact⟨rf,HI0.o,HB.o,HK.o⟩
def uw.f (J:List Int) (U:Int) (aB:Int) (a1:Int):Option (Bool×Int×Int):=(qU.f J U aB a1).bind fun bT=>(some ((bT.1==0),bT.2.1,bT.2.2))
theorem uw.calls (g:Nat) (J:List Int) (U:Int) (aB:Int) (a1:Int) (r1:Bool) (r2:Int) (r3:Int) (w0 w:World) (hI:qJ w0 w g J U aB) (hB:Below w0.heap.size w0 w) (h:uw.f J U aB a1=some (r1,r2,r3)):
  Calls Try.prog 60 #[.pointer (some ⟨g,0,none⟩),.int .i64 a1] w fun e w'=>e=.returned (.bool r1)∧qJ w0 w' g J r2 r3∧Below w0.heap.size w0 w'∧oF w w' g none:=by
 have HI0:=A_ hI;have HK:=A_ (oF.refl w g none);have HL:=A_ hB.size;clear hI;have HW0:=A_ hB.size;have HB:=A_ hB;clear hB;unfold uw.f at h;have H:=h;clear h;replace ⟨⟨bB,bC,bD⟩,A3,H⟩:=bA_ H;dsimp only at H;simp only[Option.some.injEq,Prod.mk.injEq]at H;obtain⟨rfl,rfl,rfl⟩:=H;go_enter Try.func60,Try.ntmps60
 go_wp2_with (first|((with_reducible refine gc_ 50 rfl ?_);refine cM_ E50 7 (qU.calls g J U aB a1 bB bC bD w0 _ HI0.o HB.o A3.o) ?_;rintro e w4 ⟨rfl,hi,hb,hk⟩;refine⟨_,rfl,?_⟩;replace HK:=kt_ HK hk;replace HB:=A_ (hb);replace HI0:=A_ (hi);clear hb hk;(try clear hi)))
 go_ret
 exact⟨rf,HI0.o,HB.o,HK.o⟩
def wW.f (J:List Int) (U:Int) (aB:Int) (l1:List ByteArray):Option (ByteArray×Int×Int):=(qU.f J U aB (l1.length:Int)).bind fun aL=>(if 0≤aL.1 then(if aL.1<(l1.length:Int)then(some (Ai ByteArray.empty l1 aL.1,aL.2.1,aL.2.2))else(none))else(none))
theorem wW.calls (g:Nat) (J:List Int) (U:Int) (aB:Int) (A1:Option Addr) (c1:Nat) (l1:List ByteArray) (r1:ByteArray) (r2:Int) (r3:Int) (w0 w:World) (hI:qJ w0 w g J U aB) (hB:Below w0.heap.size w0 w) (hr1:Kd.C Kd.string w A1 l1.length l1) (hc1:l1.length≤c1) (hf1:∀ad,A1=some ad→0<l1.length→ad.block≠g) (h:wW.f J U aB l1=some (r1,r2,r3)):
  Calls Try.prog 74 #[.pointer (some ⟨g,0,none⟩),.slice A1 l1.length c1] w fun e w'=>e=.returned (.string r1)∧qJ w0 w' g J r2 r3∧Below w0.heap.size w0 w'∧oF w w' g none:=by
 have HR1:=A_ hr1;have dh:=A_ hc1;clear hr1 hc1;have HI0:=A_ hI;have HK:=A_ (oF.refl w g none);have HL:=A_ hB.size;clear hI;have HW0:=A_ hB.size;have HB:=A_ hB;clear hB;unfold wW.f at h;have H:=h;clear h;replace ⟨⟨aj,bE,bF⟩,A3,H⟩:=bA_ H;dsimp only at H
 replace ⟨am,H⟩:=Hd_ H
 replace ⟨aU,H⟩:=Hd_ H
 simp only[Option.some.injEq,Prod.mk.injEq]at H;obtain⟨rfl,rfl,rfl⟩:=H;go_enter Try.func74,Try.ntmps74
 go_wp2_with (first|((with_reducible refine gc_ 50 rfl ?_);refine cM_ E50 9 (qU.calls g J U aB (l1.length:Int) aj bE bF w0 _ HI0.o HB.o A3.o) ?_;rintro e w6 ⟨rfl,hi,hb,hk⟩;refine⟨_,rfl,?_⟩;replace HK:=kt_ HK hk;replace HB:=A_ (hb);replace HI0:=A_ (hi);clear hb hk hi;have aq:0≤(aj:Int):=oa_;have aw:aj<(l1.length:Int):=oa_;obtain⟨aE,aY,ah⟩:=Kd.KD HR1.o aj aq aw;cases aY;replace ah:=EX HK.o ah (by first|(rw[add_block];exact hf1 _ rfl om)|exact hf1 _ rfl om|exact hf1 aE rfl om);replace aq:=eq_true aq;replace aw:=eq_true aw))
 go_ret
 exact⟨rf,HI0.o,HB.o,HK.o⟩
def uQ.f (a0:Bool):Option (Int):=if a0=true then(some 1)else(some 0)
theorem uQ.calls (a0:Bool) (r:Int) (w:World) (h:uQ.f a0=some r):
  Calls Try.prog 31 #[.bool a0] w fun e w'=>e=.returned (.int .i64 r)∧nJ w w':=by
 unfold uQ.f at h;have H:=h;clear h
 replace H:=Hb_ H;rcases H with⟨rfl,H⟩|⟨rfl,H⟩
 ·obtain rfl:=Option.some.inj H;go_enter Try.func31,Try.ntmps31
  go_wp2
  go_ret
  exact⟨rf,by repeat (first|exact nJ.refl _|apply nJ.step)⟩
 obtain rfl:=Option.some.inj H;go_enter Try.func31,Try.ntmps31
 go_wp2
 go_ret
 exact⟨rf,by repeat (first|exact nJ.refl _|apply nJ.step)⟩
def rH.f (a0:Int):Option (Bool):=if a0≥2 then(some (decide (a0≤4)))else(some false)
theorem rH.calls (a0:Int) (r:Bool) (w:World) (h:rH.f a0=some r):
  Calls Try.prog 41 #[.int .i64 a0] w fun e w'=>e=.returned (.bool r)∧nJ w w':=by
 unfold rH.f at h;have H:=h;clear h
 replace H:=Hj_ H;rcases H with⟨c2,H⟩|⟨c2,H⟩
 ·have ak:decide (2≤a0)=true:=decide_eq_true c2
  clear c2;obtain rfl:=Option.some.inj H;go_enter Try.func41,Try.ntmps41
  go_wp2
  go_ret
  exact⟨rf,by repeat (first|exact nJ.refl _|apply nJ.step)⟩
 have ak:decide (2≤a0)=false:=decide_eq_false c2
 clear c2;obtain rfl:=Option.some.inj H;go_enter Try.func41,Try.ntmps41
 go_wp2
 go_ret
 exact⟨rf,by repeat (first|exact nJ.refl _|apply nJ.step)⟩
set_option maxHeartbeats 8000000
set_option maxRecDepth 100000
mutual
def ng.j0:Nat→Int→Bool→Int→List (List Int)→List Int→Option (Bool)
 |0,_,_,_,_,_=>none
 |k+1,x3,cS,al,ai,ah=>if cS=true then(some false)else(ng.l0 k x3 ai (ai.length:Int) 0 al ai ah)
def ng.l0:Nat→Int→List (List Int)→Int→Int→Int→List (List Int)→List Int→Option (Bool)
 |0,_,_,_,_,_,_,_=>none
 |k+1,x3,a8,bk,aE,al,ai,ah=>if aE<bk then(if 0≤aE then(if aE<(a8.length:Int)then(if((f_ a8 aE).length:Int)=al then(if aE<(ah.length:Int)then(if(rd ah aE)<0 then(ng.j2 k x3 (f_ a8 aE) a8 bk aE true al ai ah)else(ng.j2 k x3 (f_ a8 aE) a8 bk aE (decide ((rd ah aE)>3)) al ai ah))else(none))else(ng.j2 k x3 (f_ a8 aE) a8 bk aE true al ai ah))else(none))else(none))else(some true)
def ng.j2:Nat→Int→List Int→List (List Int)→Int→Int→Bool→Int→List (List Int)→List Int→Option (Bool)
 |0,_,_,_,_,_,_,_,_,_=>none
 |k+1,x3,x5,a8,bk,aE,cU,al,ai,ah=>if cU=true then(some false)else(ng.l1 k x3 a8 bk aE x5 (x5.length:Int) 0 al ai ah)
def ng.l1:Nat→Int→List (List Int)→Int→Int→List Int→Int→Int→Int→List (List Int)→List Int→Option (Bool)
 |0,_,_,_,_,_,_,_,_,_,_=>none
 |k+1,x3,a8,bk,aE,b4,cH,bI,al,ai,ah=>if bI<cH then(if 0≤bI then(if bI<(b4.length:Int)then(if(rd b4 bI)<0 then(some false)else(if(rd b4 bI)≥x3 then(some false)else(ng.l1 k x3 a8 bk aE b4 cH (wrap64 (bI+1)) al ai ah)))else(none))else(none))else(ng.l0 k x3 a8 bk (wrap64 (aE+1)) al ai ah)
end
def ng.f (k:Nat) (ag:Int) (aa:List (List Int)) (ae:List Int):Option (Bool):=(rH.f ag).bind fun bG=>(if bG=true then(if(aa.length:Int)<1 then(ng.j0 k (aa.length:Int) true ag aa ae)else(if(aa.length:Int)>16 then(ng.j0 k (aa.length:Int) true ag aa ae)else(ng.j0 k (aa.length:Int) ((ae.length:Int) !=(aa.length:Int)) ag aa ae)))else(ng.j0 k (aa.length:Int) true ag aa ae))
theorem ng.calls (k:Nat) (ag:Int) (ay:Option Addr) (ar:Nat) (aa:List (List Int)) (aq:Option Addr) (au:Nat) (ae:List Int) (r:Bool) (w:World) (aJ:Kd.C (Kd.slice 3 (Kd.int .i64)) w ay aa.length aa) (aH:aa.length≤ar) (aM:Kd.C (Kd.int .i64) w aq ae.length ae) (aI:ae.length≤au) (h:ng.f k ag aa ae=some r):
  Calls Try.prog 30 #[.agg #[.int .i64 ag,.slice ay aa.length ar,.slice aq ae.length au]] w fun e w'=>e=.returned (.bool r)∧Below w.heap.size w w':=by
 have aK:=Try.underlying27;have aG:=A_ aJ;have a9:=A_ aH;clear aJ aH;have az:=A_ aM;have ba:=A_ aI;clear aM aI;have HB:=A_ (Below.refl w.heap.size w);unfold ng.f at h;have H:=h;clear h;have aL:=A_ H;clear H;go_enter Try.func30,Try.ntmps30
 go_upto_region 2 with(first|((with_reducible refine gt_ 1 ?_);(try (refine qV rf ?_;dsimp only));refine be_ 1 #[.int .i64 ag,.slice ay aa.length ar,.slice aq ae.length au] 27 ?_;intro aU hg w3 J hb;have af:=A_ (J);have cB:=lh_ HB hg;have aT:=lh_ HB hg;replace HB:=bs_ HB hb;clear hb J hg;have bz:=bq3 af.o))
 (try simp only[Act.put,mD,mE,mF])
 go_cut [29] (fun cN wc=>∃ (kq:Nat) (a7:Bool),cN=.bool a7∧Aside0 (ng.j0 kq (aa.length:Int) a7 ag aa ae=some r)∧Aside0 (kq≤k)∧Aside0 (wc.heap[aU]? =some (.cells #[.int .i64 ag,(.slice ay aa.length ar),(.slice aq ae.length au)] 27 (0,0)))∧Aside0 (Below w.heap.size w wc))
 case first=>
  have H:=aL.o;clear aL;replace ⟨bG,A5,H⟩:=bA_ H
  replace H:=Hb_ H;rcases H with⟨rfl,H⟩|⟨rfl,H⟩
  ·replace H:=Hj_ H;rcases H with⟨c7,H⟩|⟨c7,H⟩
   ·have b9:=decide_eq_true c7
    have cc:decide (aa.length<1)=true:=decide_eq_true om
    clear c7
    (skip)
    have H':=A_ H
    clear H;have cw:=bq3 af.o
    go_wp2_with (first|((with_reducible refine gc_ 41 rfl ?_);refine cM_ E41 13 (rH.calls ag true _ A5.o) ?_;rintro e w' ⟨rfl,⟨nd,rfl⟩⟩;refine⟨_,rfl,?_⟩))
    go_meet
    case rel=>exact⟨_,(true),rf,H',⟨om⟩,⟨wk_⟩,⟨wb_⟩⟩
   have b9:=decide_eq_false c7
   have cc:decide (aa.length<1)=false:=decide_eq_false om
   clear c7
   (skip)
   replace H:=Hj_ H;rcases H with⟨c9,H⟩|⟨c9,H⟩
   ·have cd:decide (16<(aa.length:Int))=true:=decide_eq_true c9
    have cf:decide (16<aa.length)=true:=decide_eq_true om
    clear c9
    have H':=A_ H
    clear H;have bY:=bq3 af.o
    go_wp2_with (first|((with_reducible refine gc_ 41 rfl ?_);refine cM_ E41 13 (rH.calls ag true _ A5.o) ?_;rintro e w' ⟨rfl,⟨nd,rfl⟩⟩;refine⟨_,rfl,?_⟩))
    go_meet
    case rel=>exact⟨_,(true),rf,H',⟨om⟩,⟨wk_⟩,⟨wb_⟩⟩
   have cd:decide (16<(aa.length:Int))=false:=decide_eq_false c9
   have cf:decide (16<aa.length)=false:=decide_eq_false om
   clear c9
   have H':=A_ H
   clear H;have bg:=bq3 af.o
   go_wp2_with (first|((with_reducible refine gc_ 41 rfl ?_);refine cM_ E41 13 (rH.calls ag true _ A5.o) ?_;rintro e w' ⟨rfl,⟨nd,rfl⟩⟩;refine⟨_,rfl,?_⟩))
   go_meet
   case rel=>exact⟨_,(((ae.length:Int) !=(aa.length:Int))),rf,H',⟨om⟩,⟨wk_⟩,⟨wb_⟩⟩
  have H':=A_ H
  clear H;have bZ:=bq3 af.o
  go_wp2_with (first|((with_reducible refine gc_ 41 rfl ?_);refine cM_ E41 13 (rH.calls ag false _ A5.o) ?_;rintro e w' ⟨rfl,⟨nd,rfl⟩⟩;refine⟨_,rfl,?_⟩))
  go_meet
  case rel=>exact⟨_,(true),rf,H',⟨om⟩,⟨wk_⟩,⟨wb_⟩⟩
 case rest=>
  clear aL
  try clear bz
  obtain⟨kq,a7,rfl,HA,bu,af,HB⟩:=hcut
  cases kq with
  |zero=>exact nz_ HA.o
  |succ aO=>
   have H:=HA.o;clear HA;simp only[ng.j0]at H
   replace H:=Hb_ H;rcases H with⟨rfl,H⟩|⟨rfl,H⟩
   ·obtain rfl:=Option.some.inj H
    go_wp2
    go_ret
    exact⟨rf,HB.o⟩
   have H':=A_ H
   clear H;have bh:=bq3 af.o
   go_wp2
   go_loopg [33] aO (fun kq cO w'=>∃ (ab:Int),cO=.int .i64 ab∧Aside0 (ng.l0 kq (aa.length:Int) aa (aa.length:Int) ab ag aa ae=some r)∧Aside0 (kq≤aO)∧Aside0 (w'.heap[aU]? =some (.cells #[.int .i64 ag,(.slice ay aa.length ar),(.slice aq ae.length au)] 27 (0,0)))∧Aside0 (Below w.heap.size w w'))
   case atStart=>exact⟨(0),rf,H',⟨Nat.le_refl _⟩,af,HB⟩
   case round=>
    clear H'
    try clear bh
    obtain⟨ab,rfl,HA,bv,af,HB⟩:=hrel
    cases gk with
    |zero=>exact nz_ HA.o
    |succ k2=>
     have H:=HA.o;clear HA;simp only[ng.l0]at H
     replace H:=Hi_ H;rcases H with⟨br,H⟩|⟨br,H⟩
     ·replace ⟨bM,H⟩:=Hd_ H
      replace ⟨bN,H⟩:=Hd_ H
      have U:=A_ H;clear H
      have bi:0≤(ab:Int):=oa_
      have bj:ab<(aa.length:Int):=oa_
      obtain⟨bm,b5,b7,cg,av,aX,aV⟩:=qM aG.o ab bi bj
      cases cg
      replace av:=cm_ HB av;have aA:=A_ aV;have bV:=A_ aX;clear aV aX;replace bi:=eq_true bi;replace bj:=eq_true bj
      go_upto_region 7 with(fail)
      go_cut [58] (fun cP wc=>∃ (kq:Nat) (aD:Bool),cP=.bool aD∧Aside0 (ng.j2 kq (aa.length:Int) (f_ aa ab) aa (aa.length:Int) ab aD ag aa ae=some r)∧Aside0 (kq≤k2)∧Aside0 (wc.heap[aU]? =some (.cells #[.int .i64 ag,(.slice (some bm) aa.length ar),(.slice aq ae.length au)] 27 (0,0)))∧Aside0 (Below w.heap.size w wc))
      case first=>
       have H:=U.o;clear U
       replace H:=Hj_ H;rcases H with⟨c19,H⟩|⟨c19,H⟩
       ·have bO:(((f_ aa ab).length:Int)==ag)=true:=beq_iff_eq.mpr c19
        have bP:(((f_ aa ab).length:Int) !=ag)=false:=bne_eq_false_iff_eq.mpr c19
        clear c19
        (skip)
        replace ⟨cE,H⟩:=Hd_ H
        replace H:=Hi_ H;rcases H with⟨bQ,H⟩|⟨bQ,H⟩
        ·have H':=A_ H
         clear H;have b1:=bq3 af.o
         have aN:0≤(ab:Int):=oa_
         have aQ:ab<(ae.length:Int):=oa_
         obtain⟨bn,bw,am⟩:=Kd.nM az.o ab aN aQ
         cases bw
         replace am:=cm_ HB am;replace aN:=eq_true aN;replace aQ:=eq_true aQ
         go_wp2
         go_meet
         case rel=>exact⟨_,(true),rf,H',⟨by have:=bu.o;have:=bv.o;omega⟩,af,HB⟩
        have H':=A_ H
        clear H;have b2:=bq3 af.o
        have aN:0≤(ab:Int):=oa_
        have aQ:ab<(ae.length:Int):=oa_
        obtain⟨bn,bw,am⟩:=Kd.nM az.o ab aN aQ
        cases bw
        replace am:=cm_ HB am;replace aN:=eq_true aN;replace aQ:=eq_true aQ
        have bA:0≤(ab:Int):=oa_
        have bD:ab<(ae.length:Int):=oa_
        obtain⟨bL,ch,aC⟩:=Kd.nM az.o ab bA bD;obtain rfl:bn=bL:=(by injection ch);replace aC:=cm_ HB aC;replace bA:=eq_true bA;replace bD:=eq_true bD
        go_wp2
        go_meet
        case rel=>exact⟨_,(decide ((rd ae ab)>3)),rf,H',⟨by have:=bu.o;have:=bv.o;omega⟩,af,HB⟩
       have bO:(((f_ aa ab).length:Int)==ag)=false:=beq_eq_false_iff_ne.mpr c19
       have bP:(((f_ aa ab).length:Int) !=ag)=true:=bne_iff_ne.mpr c19
       (skip)
       have H':=A_ H
       clear H;have b3:=bq3 af.o
       go_wp2
       go_meet
       case rel=>exact⟨_,(true),rf,H',⟨by have:=bu.o;have:=bv.o;omega⟩,af,HB⟩
      case rest=>
       clear U
       clear br bM bN av bi bj
       obtain⟨kq,aD,rfl,HA,be,af,HB⟩:=hcut
       cases kq with
       |zero=>exact nz_ HA.o
       |succ aB=>
        have H:=HA.o;clear HA;simp only[ng.j2]at H
        replace H:=Hb_ H;rcases H with⟨rfl,H⟩|⟨rfl,H⟩
        ·obtain rfl:=Option.some.inj H
         go_wp2
         go_ret
         exact⟨rf,HB.o⟩
        have H':=A_ H
        clear H
        go_wp2
        go_loopg [61] aB (fun kq cQ w'=>∃ (aj:Int),cQ=.int .i64 aj∧Aside0 (ng.l1 kq (aa.length:Int) aa (aa.length:Int) ab (f_ aa ab) ((f_ aa ab).length:Int) aj ag aa ae=some r)∧Aside0 (kq≤aB)∧Aside0 (w'.heap[aU]? =some (.cells #[.int .i64 ag,(.slice (some bm) aa.length ar),(.slice aq ae.length au)] 27 (0,0)))∧Aside0 (Below w.heap.size w w'))
        case atStart=>exact⟨(0),rf,H',⟨Nat.le_refl _⟩,af,HB⟩
        case round=>
         clear H';obtain⟨aj,rfl,HA,bX,af,HB⟩:=hrel
         cases gk with
         |zero=>exact nz_ HA.o
         |succ k4=>
          have H:=HA.o;clear HA;simp only[ng.l1]at H
          replace H:=Hi_ H;rcases H with⟨bR,H⟩|⟨bR,H⟩
          ·replace ⟨cF,H⟩:=Hd_ H
           replace ⟨cG,H⟩:=Hd_ H
           replace H:=Hi_ H;rcases H with⟨bS,H⟩|⟨bS,H⟩
           ·obtain rfl:=Option.some.inj H
            have aw:0≤(aj:Int):=oa_
            have ax:aj<((f_ aa ab).length:Int):=oa_
            obtain⟨bq,bc,ak⟩:=Kd.nM aA.o aj aw ax
            cases bc
            replace ak:=cm_ HB ak;replace aw:=eq_true aw;replace ax:=eq_true ax
            go_wp2
            go_ret
            exact⟨rf,HB.o⟩
           replace H:=Hj_ H;rcases H with⟨aF,H⟩|⟨aF,H⟩
           ·have bT:decide ((aa.length:Int)≤(rd (f_ aa ab) aj))=true:=decide_eq_true aF
            clear aF;obtain rfl:=Option.some.inj H
            have aw:0≤(aj:Int):=oa_
            have ax:aj<((f_ aa ab).length:Int):=oa_
            obtain⟨bq,bc,ak⟩:=Kd.nM aA.o aj aw ax
            cases bc
            replace ak:=cm_ HB ak;replace aw:=eq_true aw;replace ax:=eq_true ax
            go_wp2
            go_ret
            exact⟨rf,HB.o⟩
           have bT:decide ((aa.length:Int)≤(rd (f_ aa ab) aj))=false:=decide_eq_false aF
           clear aF
           have H':=A_ H
           clear H
           have aw:0≤(aj:Int):=oa_
           have ax:aj<((f_ aa ab).length:Int):=oa_
           obtain⟨bq,bc,ak⟩:=Kd.nM aA.o aj aw ax
           cases bc
           replace ak:=cm_ HB ak;replace aw:=eq_true aw;replace ax:=eq_true ax
           go_wp2
           go_roundg k4
           case measure=>have:=bu.o;have:=bv.o;have:=be.o;have:=bX.o;omega
           case rel=>exact⟨(wrap64 (aj+1)),rf,H',⟨by have:=bu.o;have:=bv.o;have:=be.o;have:=bX.o;omega⟩,af,HB⟩
          have H':=A_ H
          clear H
          go_wp2
          go_roundg k4
          case measure=>have:=bu.o;have:=bv.o;have:=be.o;have:=bX.o;omega
          case rel=>exact⟨(wrap64 (ab+1)),rf,H',⟨by have:=bu.o;have:=bv.o;have:=be.o;have:=bX.o;omega⟩,af,HB⟩
     obtain rfl:=Option.some.inj H
     go_wp2
     go_ret
     exact⟨rf,HB.o⟩
def tJ.f (k:Nat) (ag:Int) (aa:List (List Int)) (ae:List Int):Option (Bool):=(ng.f k ag aa ae).bind fun bH=>(if bH=true then(if 0<(aa.length:Int)then(if 0<((f_ aa 0).length:Int)then(some ((rd (f_ aa 0) 0)==0))else(none))else(none))else(some false))
theorem tJ.calls (k:Nat) (ag:Int) (ay:Option Addr) (ar:Nat) (aa:List (List Int)) (aq:Option Addr) (au:Nat) (ae:List Int) (r:Bool) (w:World) (aJ:Kd.C (Kd.slice 3 (Kd.int .i64)) w ay aa.length aa) (aH:aa.length≤ar) (aM:Kd.C (Kd.int .i64) w aq ae.length ae) (aI:ae.length≤au) (h:tJ.f k ag aa ae=some r):
  Calls Try.prog 66 #[.agg #[.int .i64 ag,.slice ay aa.length ar,.slice aq ae.length au]] w fun e w'=>e=.returned (.bool r)∧Below w.heap.size w w':=by
 have aK:=Try.underlying27;have aG:=A_ aJ;have a9:=A_ aH;clear aJ aH;have az:=A_ aM;have ba:=A_ aI;clear aM aI;have HB:=A_ (Below.refl w.heap.size w);unfold tJ.f at h;have H:=h;clear h;replace ⟨bH,A2,H⟩:=bA_ H
 replace H:=Hb_ H;rcases H with⟨rfl,H⟩|⟨rfl,H⟩
 ·replace ⟨c4,H⟩:=Hp_ H
  have cI:=decide_eq_true c4
  have cJ:decide (0<aa.length)=true:=decide_eq_true om
  clear c4
  replace ⟨c5,H⟩:=Hp_ H
  have cK:=decide_eq_true c5
  have cL:decide (0<(f_ aa 0).length)=true:=decide_eq_true om
  clear c5;obtain rfl:=Option.some.inj H;go_enter Try.func66,Try.ntmps66
  go_wp2_with (first|((with_reducible refine gt_ 1 ?_);refine be_ 1 #[.int .i64 ag,.slice ay aa.length ar,.slice aq ae.length au] 27 ?_;intro bU hg w6 J hb;have ap:=A_ (J);have bK:=lh_ HB hg;have bJ:=lh_ HB hg;replace HB:=bs_ HB hb;clear hb J hg;have co:=bq3 ap.o)|((with_reducible refine gc_ 30 rfl ?_);refine cM_ E30 4 (ng.calls k ag _ _ aa _ _ ae true _ (Kd.mO aG.o HB.o) a9.o (Kd.mO az.o HB.o) ba.o A2.o) ?_;rintro e w8 ⟨rfl,hb⟩;refine⟨_,rfl,?_⟩;replace ap:=bb_ ap hb;replace HB:=bs_ HB hb;clear hb;have cA:=bq3 ap.o;have bB:0≤(0:Int):=om;have bE:0<(aa.length:Int):=oa_;obtain⟨cC,b6,b8,ci,an,aY,aW⟩:=qM aG.o 0 bB bE;cases ci;have aP:(0<aa.length)=True:=eq_true om;(try rw[show((0:Int)).toNat=0 from rfl]at an);(try rw[Addr.add_zero']at an);replace an:=cm_ HB an;have bf:=A_ aW;have bW:=A_ aY;clear aW aY;replace bB:=eq_true bB;replace bE:=eq_true bE;have bC:0≤(0:Int):=om;have bF:0<((f_ aa 0).length:Int):=oa_;obtain⟨cD,ck,ao⟩:=Kd.nM bf.o 0 bC bF;cases ck;have aR:(0<(f_ aa 0).length)=True:=eq_true om;(try rw[show((0:Int)).toNat=0 from rfl]at ao);(try rw[Addr.add_zero']at ao);replace ao:=cm_ HB ao;replace bC:=eq_true bC;replace bF:=eq_true bF))
  go_ret
  exact⟨rf,HB.o⟩
 obtain rfl:=Option.some.inj H;go_enter Try.func66,Try.ntmps66
 go_wp2_with (first|((with_reducible refine gt_ 1 ?_);refine be_ 1 #[.int .i64 ag,.slice ay aa.length ar,.slice aq ae.length au] 27 ?_;intro bU hg aS J hb;have ap:=A_ (J);have bK:=lh_ HB hg;have bJ:=lh_ HB hg;replace HB:=bs_ HB hb;clear hb J hg;have bg:=bq3 ap.o)|((with_reducible refine gc_ 30 rfl ?_);refine cM_ E30 4 (ng.calls k ag _ _ aa _ _ ae false _ (Kd.mO aG.o HB.o) a9.o (Kd.mO az.o HB.o) ba.o A2.o) ?_;rintro e aZ ⟨rfl,hb⟩;refine⟨_,rfl,?_⟩;replace ap:=bb_ ap hb;replace HB:=bs_ HB hb;clear hb;(try clear hi)))
 go_ret
 exact⟨rf,HB.o⟩
set_option maxHeartbeats 8000000
set_option maxRecDepth 100000
def oD.f (l0:List Int):Option (List Int):=(some (([]:List Int):List Int)).bind fun aJ=>(if aJ.length+l0.length<17592186044416 then(some (aJ++l0))else(none))
theorem oD.JA (ad0:Addr) (c0:Nat) (l0:List Int) (r:List Int) (w:World) (hr0:Kd.C (Kd.int .i64) w (some ad0) l0.length l0) (hc0:l0.length≤c0) (h:oD.f l0=some r):
  Calls Try.prog 53 #[.slice (some ad0) l0.length c0] w fun e w'=>∃cZ:Value,e=.returned (cZ)∧Kd.R (Kd.int .i64) 3 w' w.heap.size (fun _=>True) cZ r∧Below w.heap.size w w':=by
 have eu:=A_ hr0;have eT:=A_ hc0;clear hr0 hc0;have HB:=A_ (Below.refl w.heap.size w);unfold oD.f at h;have H:=h;clear h;replace ⟨aJ,bI,H⟩:=Hs_ H
 replace ⟨bX,H⟩:=Ha_ H
 obtain⟨b5,be⟩:=ex_ ((aJ++l0):List Int);rw[←be]at H;have bJ:=A_ be;clear be;obtain rfl:=Option.some.inj H;have hnil:=fun(w_:World) (a_:Option Addr) (n_ c_ dI dJ:Nat)=>Lib.run_eql_slice_nil (P:=Try.prog) w_ 25 3 a_ n_ c_ dI dJ Try.underlying25;go_enter Try.func53,Try.ntmps53
 go_wp2_with (first|((with_reducible refine gd_ 5 rfl ?_);refine RL_ 5 3 [] [] rfl rfl (by go_simp;done) rfl rfl ?_;rintro b3 w3 dK hb - -;(rw[←bI.o]at dK);have bm:=A_ (Kd.nE dK (mK HB.o));replace HB:=bs_ HB hb;clear hb dK)|((with_reducible refine nG (b:=.append) (xs:= #[.tmp 5,.tmp 6]) rfl ?_);at_builtin;refine Kd.uU (Kd.int .i64) (w0:=w) w.heap.size rfl (.tmp 5) (.tmp 6) 25 3 (.int .i64 0) 8 rfl Try.underlying25 info3 rfl d_ om b3 aJ l0 _ _ _ (fun _=>True) (fun _=>False) rfl rfl ?aO ?aR (fun _ _ h=>h) (fun _ h=>h.elim) ?aF ?aB ?aS ?aL ?_;(case aR=>exact(Kd.mO eu.o HB.o));(case aB=>exact HB.o);(case aF=>exact(fun _ _=>trivial));(case aO=>exact bm.o);(case aS=>exact(mK HB.o));(case aL=>have:=bX.o;omega);intro cL w5 ho hb hg hat;rw[←bJ.o]at ho;replace HB:=A_ (hb);have bF:=A_ (ho);clear bm;clear ho hb hg hat))
 go_ret
 exact⟨_,rf,bF.o,HB.o⟩
theorem oD.calls (A0:Option Addr) (c0:Nat) (l0:List Int) (r:List Int) (w:World) (hr0:Kd.C (Kd.int .i64) w A0 l0.length l0) (hc0:l0.length≤c0) (h:oD.f l0=some r):
  Calls Try.prog 53 #[.slice A0 l0.length c0] w fun e w'=>∃cZ:Value,e=.returned (cZ)∧Kd.R (Kd.int .i64) 3 w' w.heap.size (fun _=>True) cZ r∧Below w.heap.size w w':=by
 cases A0 with
 |some ad0=>exact oD.JA ad0 c0 l0 r w hr0 hc0 h
 |none=>
  obtain rfl:l0=[]:=by
   cases l0 with
   |nil=>rfl
   |cons x l0=>
    obtain⟨ad,he,_⟩:=hr0.2.2 sp
    cases he
  simp[oD.f]at h
  subst h;clear hr0 hc0;have hnil:=fun(w_:World) (a_:Option Addr) (n_ c_ dI dJ:Nat)=>Lib.run_eql_slice_nil (P:=Try.prog) w_ 25 3 a_ n_ c_ dI dJ Try.underlying25;go_enter Try.func53,Try.ntmps53
  go_wp2
  go_ret
  exact⟨_,rfl,Kd.sI _ _ _ _ _,Below.refl _ _⟩
def nK.l0:Nat→List (List Int)→Int→Int→Int→List (List Int)→List Int→Option (Int×(List (List Int))×List Int)
 |0,_,_,_,_,_,_=>none
 |k+1,b4,cG,bR,a7,aE,a8=>if bR<cG then(if 0≤bR then(if bR<(b4.length:Int)then((oD.f (f_ b4 bR)).bind fun aU=>(if aE.length<5864062014805 then(nK.l0 k b4 cG (wrap64 (bR+1)) a7 (aE++[aU]) a8)else(none)))else(none))else(none))else(some (a7,aE,a8))
def nK.f (k:Nat) (aw:Int) (ap:List (List Int)) (ax:List Int):Option (Int×(List (List Int))×List Int):=(oD.f ax).bind fun ar=>(nK.l0 k ap (ap.length:Int) 0 aw ([]:List (List Int)) ar)
def nK.T1:Bool×List (List Nat×List Nat):=(true,[([],[]),([0],[0]),([],[]),([2],[2]),([3],[3]),([1,4],[1,4]),([],[]),([6,5,4,0,1,2,3,4,5,6],[5,6])])
def nK.B1:List Nat:=[0,1,0,4,12,31,0,127]
theorem nK.LG:uf .any (opsOf Try.f67 1)=nK.T1:=K_
theorem nK.Gy:rV nK.T1.2 nK.B1=true:=K_
def nK.T5:Bool×List (List Nat×List Nat):=(true,[([],[]),([0],[0]),([],[]),([2],[2]),([3],[3]),([1,4,3],[1,4]),([0,1,2,3,4,5],[]),([6,5,5,0,1,2,3,4,5],[5,6])])
def nK.B5:List Nat:=[0,1,0,4,12,31,63,127]
theorem nK.Em:uf .any (opsOf Try.f67 5)=nK.T5:=K_
theorem nK.zx:rV nK.T5.2 nK.B5=true:=K_
theorem nK.calls (k:Nat) (aw:Int) (aM:Option Addr) (aQ:Nat) (ap:List (List Int)) (aN:Option Addr) (aT:Nat) (ax:List Int) (r1:Int) (r2:List (List Int)) (r3:List Int) (w:World) (bv:Kd.C (Kd.slice 3 (Kd.int .i64)) w aM ap.length ap) (br:ap.length≤aQ) (bw:Kd.C (Kd.int .i64) w aN ax.length ax) (bu:ax.length≤aT) (h:nK.f k aw ap ax=some (r1,r2,r3)):
  Calls Try.prog 67 #[.agg #[.int .i64 aw,.slice aM ap.length aQ,.slice aN ax.length aT]] w fun e w'=>∃dX dL:Value,e=.returned (.agg #[.int .i64 r1,dX,dL])∧Kd.S (Kd.slice 3 (Kd.int .i64)) 25 w' w.heap.size (o1 dL) dX r2∧Kd.R (Kd.int .i64) 3 w' w.heap.size (fun _=>True) dL r3∧Below w.heap.size w w':=by
 have eB:=Try.underlying27;have bG:=A_ bv;have b8:=A_ br;clear bv br;have bq:=A_ bw;have bk:=A_ bu;clear bw bu;have HB:=A_ (Below.refl w.heap.size w);unfold nK.f at h;have H:=h;clear h;replace ⟨ar,A2,H⟩:=bA_ H
 have H':=A_ H
 clear H;go_enter Try.func67,Try.ntmps67
 try go_wp2_with (first|((with_reducible refine gt_ 1 ?_);refine be_ 1 #[.int .i64 aw,.slice aM ap.length aQ,.slice aN ax.length aT] 27 ?_;intro av hg w3 J hb;have ab:=A_ (J);have b6:=lh_ HB hg;have a9:=lh_ HB hg;replace HB:=bs_ HB hb;clear hb J hg)|((with_reducible refine gt_ 2 ?_);refine be_ 2 #[.int .i64 0,.slice none 0 0,.slice none 0 0] 27 ?_;intro aI hg w4 J hb;have ag:=A_ (J);have b7:=lh_ HB hg;have ba:=lh_ HB hg;replace HB:=bs_ HB hb;have aA:=nl_ ab hg;have aC:=ng_ ab hg;replace ab:=bb_ ab hb;clear hb J hg))
 replace ab:=A_ (nQ ab.o);replace ag:=A_ (nQ ag.o);replace HB:=A_ (oG HB.o);refine rM (n:=8) (S:=fun w'=>cB3 av (.int .i64 aw) (.slice aM ap.length aQ) (.slice aN ax.length aT) w') (ds:=[]) (mk_ 8 0) K_ rfl rfl (bc3 ab) (fun am=>?_);refine ru nK.LG nK.Gy (fun az bS=>?_)
 generalize w4.drew=w5 at ab ag HB am⊢
 refine pw_ 0 6 (mk_ 8 1) az ?_;refine pw_ 2 8 (mk_ 8 5) az ?_;refine tk_ 1 7 (mk_ 8 7) az bS am ?_;refine tk_ 3 9 (mk_ 8 15) az bS am ?_;refine Cx (σ:=Value×Nat) 1 (mk_ 8 127) (fun s_=>[(10,s_.1),(3,.pointer (some ⟨s_.2,0,none⟩)),(11,.agg #[.int .i64 aw,.slice none 0 0,s_.1])]) (fun s_ w'=>(cB3 av (.int .i64 aw) (.slice aM ap.length aQ) (.slice aN ax.length aT) w')∧(Kd.R (Kd.int .i64) 3 w' w.heap.size (fun _=>True) s_.1 ar)∧(w'.heap[av]? =some (.cells #[.int .i64 aw,.slice aM ap.length aQ,.slice aN ax.length aT] 27 (0,0)))∧(w'.heap[aI]? =some (.cells #[.int .i64 0,.slice none 0 0,.slice none 0 0] 27 (0,0)))∧(w'.heap[s_.2]? =some (.cells #[.int .i64 0,.slice none 0 0,.slice none 0 0] 27 (0,0)))∧(w.heap.size≤s_.2)∧(w.heap.size≤s_.2)∧(av≠s_.2)∧(s_.2≠av)∧(aI≠s_.2)∧(s_.2≠aI)∧(Below w.heap.size w w')) ?_ ?_;rotate_left
 ·intro cz;refine F6 (i:=4) (j:=6) (Ni:=some 10) (Nj:=some 3) (mk_ 8 31) (mk_ 8 79) rfl rfl rfl rfl (Ap az.o K_) d_ d_ (fun K hK=>?_) (fun K hK=>?_)
  ·skip
   refine cT_ E53 (oD.calls _ _ ax ar _ (Kd.mO bq.o HB.o) bk.o A2.o) ?_;rintro e w6 ⟨bQ,rfl,ho0,hb⟩;refine⟨_,rfl,?_⟩;have au:=A_ (Kd.nE ho0 (mK HB.o));replace ab:=bb_ ab hb;replace ag:=bb_ ag hb;replace HB:=bs_ HB hb
   (try clear hb)
   (try clear hb2)
   (try clear hk)
   (try clear hi)
   (try clear ho0)
   obtain⟨cH,cJ,cg⟩:=Kd.mU au.o
   (first|subst cg|(injection cg with U aZ aK;have b_:=U.symm;have cu:=aK.symm;clear U aZ aK;subst b_;subst cu))
   refine hK.out _ _ (bc3 ab) (fun am=>?_);clear hK K;refine nm_ 10 ?_;refine pw_ 5 11 (mk_ 8 63) az ?_;refine ow_ 6 (mk_ 8 127) az (fun K hK=>?_);refine uh rfl (N:=3) rfl (cs:= #[.int .i64 0,.slice none 0 0,.slice none 0 0]) (t:=27) (by go_simp;done) ?_;intro ak hg w8 J hb;replace au:=A_ (Kd.nX au.o hb);have af:=A_ (J);have aV:=lh_ HB hg;have ay:=lh_ HB hg;replace HB:=bs_ HB hb;have aa:=nl_ ab hg;have aj:=ng_ ab hg;replace ab:=bb_ ab hb;have ah:=nl_ ag hg;have al:=ng_ ag hg;replace ag:=bb_ ag hb;clear hb J hg;refine hK.out _ _ (bc3 ab) (fun am=>?_);clear hK K;refine nm_ 3 ?_;exact vg (by simp only[rG,Act.put,mD,mE,mF]) (cz (.slice cH ar.length cJ,ak) _ ⟨am,au.o,ab.o,ag.o,af.o,aV.o,ay.o,aa.o,aj.o,ah.o,al.o,HB.o⟩)
  skip
  refine uh rfl (N:=3) rfl (cs:= #[.int .i64 0,.slice none 0 0,.slice none 0 0]) (t:=27) (by go_simp;done) ?_;intro ak hg w6 J hb;have af:=A_ (J);have aV:=lh_ HB hg;have ay:=lh_ HB hg;replace HB:=bs_ HB hb;have aa:=nl_ ab hg;have aj:=ng_ ab hg;replace ab:=bb_ ab hb;have ah:=nl_ ag hg;have al:=ng_ ag hg;replace ag:=bb_ ag hb;clear hb J hg;refine hK.out _ _ (bc3 ab) (fun am=>?_);clear hK K;refine nm_ 3 ?_;refine ow_ 4 (mk_ 8 95) az (fun K hK=>?_);refine cT_ E53 (oD.calls _ _ ax ar _ (Kd.mO bq.o HB.o) bk.o A2.o) ?_;rintro e w7 ⟨bQ,rfl,ho0,hb⟩;refine⟨_,rfl,?_⟩;have au:=A_ (Kd.nE ho0 (mK HB.o));replace ab:=bb_ ab hb;replace ag:=bb_ ag hb;replace af:=bb_ af hb;replace HB:=bs_ HB hb
  (try clear hb)
  (try clear hb2)
  (try clear hk)
  (try clear hi)
  (try clear ho0)
  obtain⟨cI,cK,ch⟩:=Kd.mU au.o
  (first|subst ch|(injection ch with U aZ aK;have b_:=U.symm;have cu:=aK.symm;clear U aZ aK;subst b_;subst cu))
  refine hK.out _ _ (bc3 ab) (fun am=>?_);clear hK K;refine nm_ 10 ?_;refine pw_ 5 11 (mk_ 8 127) az ?_;exact vg (by simp only[rG,Act.put,mD,mE,mF]) (cz (.slice cI ar.length cK,ak) _ ⟨am,au.o,ab.o,ag.o,af.o,aV.o,ay.o,aa.o,aj.o,ah.o,al.o,HB.o⟩)
 rintro⟨bQ,ak⟩ w9 ⟨am,dM,dN,dO,dP,dQ,dR,dS,dU,dV,dW,bB⟩
 clear ab ag HB;try dsimp only at am dM dN dO dP dQ dR dS dU dV dW bB
 have au:=A_ dM;have ab:=A_ dN;have ag:=A_ dO;have af:=A_ dP;have aV:=A_ dQ;have ay:=A_ dR;have aa:=A_ dS;have aj:=A_ dU;have ah:=A_ dV;have al:=A_ dW;have HB:=A_ bB;clear dM dN dO dP dQ dR dS dU dV dW bB
 obtain⟨aG,aH,bN⟩:=Kd.mU au.o
 (first|subst bN|(injection bN with U aZ aK;have b_:=U.symm;have cu:=aK.symm;clear U aZ aK;subst b_;subst cu))
 refine vg (by simp only[rG,Act.put,mD,mE,mF];rfl) ?_
 refine ow_ 7 (mk_ 8 255) az (fun K hK=>?_)
 have eD:w9.cell? ⟨ak,0,none⟩=some (.int .i64 0):=bz0 af.o
 have dY:=nY af.o 0;have df:=aa.o;have dh:=ah.o;have di:=aj.o;have dm:=al.o
 have eF:w9.cell? ⟨ak,1,none⟩=some (.slice none 0 0):=bz1 af.o
 have dZ:=nY af.o 1;have dn:=aa.o;have dw:=ah.o;have dx:=aj.o;have dz:=al.o
 have eG:w9.cell? ⟨ak,2,none⟩=some (.slice none 0 0):=bz2 af.o
 have ed:=nY af.o 2;have dA:=aa.o;have dB:=ah.o;have dC:=aj.o;have dD:=al.o;refine uI (w1:=?_) rf rfl ?_ ?_;rotate_left
 ·go_simp
  rfl
 refine hK.out _ _ ⟨((cf_ aa).trans (((cf_ aa).trans (((cf_ aa).trans (am.1)))))),((cf_ aa).trans (((cf_ aa).trans (((cf_ aa).trans (am.2.1)))))),((cf_ aa).trans (((cf_ aa).trans (((cf_ aa).trans (am.2.2))))))⟩ (fun am=>?_);clear hK K;refine sZ (sP az.o K_) ?_;have ci:=aA.o;have cB:=aC.o;have ck:=aa.o;have cC:=aj.o;have bj:=bq3 ab.o
 try go_wp2
 go_loopg [15] k (fun kq cN w'=>∃ (aq:Int) (an:List (List Int)) (ao:Value),cN=.int .i64 aq∧Aside0 (nK.l0 kq ap (ap.length:Int) aq aw an ar=some (r1,r2,r3))∧Aside0 (kq≤k)∧Aside0 (Kd.S (Kd.slice 3 (Kd.int .i64)) 25 w' w.heap.size (o1 (.slice aG ar.length aH)) ao an)∧Aside0 (Kd.R (Kd.int .i64) 3 w' w.heap.size (fun _=>True) (.slice aG ar.length aH) ar)∧Aside0 (w'.heap[av]? =some (.cells #[.int .i64 aw,(.slice aM ap.length aQ),(.slice aN ax.length aT)] 27 (0,0)))∧Aside0 (w'.heap[aI]? =some (.cells #[.int .i64 0,(.slice none 0 0),(.slice none 0 0)] 27 (0,0)))∧Aside0 (w'.heap[ak]? =some (.cells #[.int .i64 aw,ao,(.slice aG ar.length aH)] 27 (0,0)))∧Aside0 (Below w.heap.size w w'))
 case atStart=>exact⟨(0),(([]:List (List Int))),(.slice none 0 0),rf,H',⟨Nat.le_refl _⟩,⟨by exact Kd.za _ _ _ _ _⟩,⟨by exact Kd.mM (xe (tR_ au af)) (fun _ hk=>trivial)⟩,⟨by exact fa_ aa (fa_ aa (fa_ aa ab.o))⟩,⟨by exact fa_ ah (fa_ ah (fa_ ah ag.o))⟩,⟨by exact pu_ 2 (pu_ 1 (pu_ 0 af.o rfl) rfl) rfl⟩,⟨wb_⟩⟩
 case round=>
  clear H'
  try clear bj
  obtain⟨aq,an,ao,rfl,HA,b9,ae,ai,ab,ag,af,HB⟩:=hrel
  cases gk with
  |zero=>exact nz_ HA.o
  |succ k1=>
   have H:=HA.o;clear HA;simp only[nK.l0]at H
   replace H:=Hi_ H;rcases H with⟨bL,H⟩|⟨bL,H⟩
   ·replace ⟨cd,H⟩:=Hd_ H
    replace ⟨cf,H⟩:=Hd_ H
    replace ⟨aU,eH,H⟩:=bA_ H
    replace ⟨bH,H⟩:=Ha_ H
    obtain⟨bg,bf⟩:=ex_ ((an++[aU]):List (List Int));rw[←bf]at H;have bK:=A_ bf;clear bf
    have H':=A_ H
    clear H
    have bC:0≤(aq:Int):=oa_
    have bD:aq<(ap.length:Int):=oa_
    obtain⟨cc,bV,bY,b1,aD,aY,aX⟩:=qM bG.o aq bC bD
    cases b1
    replace aD:=cm_ HB aD;have bi:=A_ aX;have bh:=A_ aY;clear aX aY;replace bC:=eq_true bC;replace bD:=eq_true bD
    try go_wp2
    replace ae:=A_ (Kd.vK ae.o);replace ai:=A_ (Kd.pR ai.o);replace ab:=A_ (nQ ab.o);replace ag:=A_ (nQ ag.o);replace af:=A_ (nQ af.o);replace HB:=A_ (oG HB.o);refine rM (n:=8) (S:=fun w'=>cB3 ak (.int .i64 aw) (ao) (.slice aG ar.length aH) w') (ds:=[7]) (mk_ 8 0) K_ rfl rfl (bc3 af) (fun am=>?_);refine ru nK.Em nK.zx (fun az bS=>?_)
    generalize wr.drew=eU at ae ai ab ag af HB am⊢
    refine pw_ 0 19 (mk_ 8 1) az ?_;refine pw_ 2 21 (mk_ 8 5) az ?_;refine tk_ 1 20 (mk_ 8 7) az bS am ?_;refine ow_ 3 (mk_ 8 15) az (fun K hK=>?_);refine cT_ E53 (oD.calls _ _ (f_ ap aq) aU _ (Kd.mO bi.o HB.o) bh.o eH.o) ?_;rintro e eX ⟨cO,rfl,ho0,hb⟩;refine⟨_,rfl,?_⟩;replace ae:=A_ (Kd.rz ae.o (Kd.nW ho0) hb);have aW:=A_ (Kd.nE (Kd.qF ho0 (Kd.oV ai.o)) (mK HB.o));replace ai:=A_ (Kd.oz ai.o (Kd.nW ho0) hb);replace ab:=bb_ ab hb;replace ag:=bb_ ag hb;replace af:=bb_ af hb;replace HB:=bs_ HB hb
    (try clear hb)
    (try clear hb2)
    (try clear hk)
    (try clear hi)
    (try clear ho0)
    obtain⟨bE,bM,bO⟩:=Kd.mU aW.o
    (first|subst bO|(injection bO with U aZ aK;have b_:=U.symm;have cu:=aK.symm;clear U aZ aK;subst b_;subst cu))
    refine hK.out _ _ (bc3 af) (fun am=>?_);clear hK K;refine nm_ 22 ?_;refine ow_ 4 (mk_ 8 31) az (fun K hK=>?_);refine yn (w1:=?_) (v:=?_) rf rfl ?_ ?_;rotate_left 2
    ·go_simp
     constructor
     ·rfl
     rfl
    refine hK.out _ _ ⟨(pU (nP af.o _) 0).trans rfl,(pU (nP af.o _) 1).trans rfl,(pU (nP af.o _) 2).trans rfl⟩ (fun am=>?_);clear hK K;refine nm_ 23 ?_;refine ow_ 5 (mk_ 8 63) az (fun K hK=>?_);refine Kd.yz (Kd.slice 3 (Kd.int .i64)) (w0:=w) w.heap.size rf (.tmp 20) (.tmp 23) 24 25 (.slice none 0 0) 24 rfl Try.underlying24 uO rfl d_ om ao an aU [.slice bE aU.length bM] (o1 (.slice aG ar.length aH)) (fun k_=>some k_=(.slice bE aU.length bM:Value).ownBlock) rfl rfl ?aP (fun k_ eO=>((Kd.mM (ok':=fun k_=>((o1 (.slice aG ar.length aH))) k_∧some k_≠(ao:Value).ownBlock) (Kd.pE (aW.o) (Kd.oL ae.o) d_) (fun k_ hk=>⟨hk.1.2,hk.2⟩))).1 k_ eO.symm) ?aF ?aO ?aB ?aS ?aL ?_
    (case aP=>exact Kd.uR (Kd.mM (Kd.sD rfl (Kd.mM (ok':=fun k_=>((o1 (.slice aG ar.length aH))) k_∧some k_≠(ao:Value).ownBlock) (Kd.pE (aW.o) (Kd.oL ae.o) d_) (fun k_ hk=>⟨hk.1.2,hk.2⟩))) (fun _ h_=>h_)))
    (case aB=>exact HB.o)
    (case aF=>exact(fun k_ hk=>Kd.fresh' (Kd.oV ai.o) k_ hk))
    (case aO=>exact(by exact Kd.nV ae.o (fun k_ hk=>⟨hk.1,fun e_=>hk.2 e_⟩)))
    (case aS=>exact(mK HB.o))
    (case aL=>have:=bH.o;omega)
    intro cP eP ho hb hg hat;rw[←bK.o]at ho;replace ai:=A_ (Kd.qH ai.o (Kd.oL ae.o) d_ hg);replace ab:=gS_ ae ab hg;replace ag:=gS_ ae ag hg;replace af:=gS_ ae af hg;replace HB:=A_ (hb);have bn:=A_ (ho);clear ae aW ho hb hg hat;obtain⟨bz,bA,bP⟩:=Kd.rO bn.o
    (first|subst bP|(injection bP with U aZ aK;have b_:=U.symm;have cu:=aK.symm;clear U aZ aK;subst b_;subst cu))
    refine hK.out _ _ (bc3 af) (fun am=>?_);clear hK K;refine nm_ 24 ?_;refine pw_ 6 25 (mk_ 8 127) az ?_;refine vI (i:=7) (N:=none) (mk_ 8 255) rfl rfl (xJ az.o K_) d_ (fun K hK=>?_)
    have eQ:eP.cell? ⟨ak,1,none⟩=some (ao):=bz1 af.o
    have ek:=nY af.o 1;have dE:=aa.o;have dF:=ah.o;have dG:=aj.o;have dH:=al.o;refine uI (w1:=?_) rf rfl ?_ ?_;rotate_left
    ·go_simp
     rfl
    refine hK.out _ _ ?_;clear hK K;refine sZ (sP az.o K_) ?_
    try go_wp2
    go_roundg k1
    case measure=>have:=b9.o;omega
    case rel=>exact⟨(wrap64 (aq+1)),(bg),(.slice bz bg.length bA),rf,H',⟨by have:=b9.o;omega⟩,⟨by exact Kd.nV (Kd.vW (p:=⟨ak,1,none⟩) (Kd.wR bn.o af.o d_) (fun _ hk=>hk.2) (.slice bz bg.length bA)) (fun _ hk=>hk.1)⟩,⟨by exact Kd.mM (Kd.sM (p:=⟨ak,1,none⟩) (Kd.qi ai.o af.o d_) (fun _ hk=>hk.2) (.slice bz bg.length bA)) (fun _ hk=>trivial)⟩,⟨by exact fa_ aa ab.o⟩,⟨by exact fa_ ah ag.o⟩,⟨by exact pu_ 1 af.o rfl⟩,⟨wb_⟩⟩
   simp only[Option.some.injEq,Prod.mk.injEq]at H;obtain⟨rfl,rfl,rfl⟩:=H;have co:=aj.o;have cD:=aa.o;have cw:=al.o;have cE:=ah.o;have bT:=bq3 af.o;have cA:=aC.o;have cF:=aA.o;have bU:=bq3 ag.o;obtain⟨bW,bZ,b2⟩:=Kd.rO ae.o;subst b2
   go_wp2
   refine rs_ #[.int .i64 aw,.slice bW an.length bZ,.slice aG ar.length aH] (by exact pu_ 2 (pu_ 1 (pu_ 0 ag.o rfl) rfl) rfl) Try.underlying27 ?_;exact⟨_,_,rf,by exact Kd.nV (EF (tS_ ae ag)) (fun _ hk=>hk.1),by exact Kd.mM (xe (tR_ ai ag)) (fun _ hk=>trivial),wb_⟩
set_option maxHeartbeats 8000000
set_option maxRecDepth 100000
theorem NJ {W:World} {base n cap:Nat} {ok:Nat→Prop} {A:Option Addr} {xs:List (List Int)} (h:Kd.S (Kd.slice 3 (Kd.int .i64)) 25 W base ok (.slice A n cap) xs) (h0:0<xs.length) (h1:0<(xs.getD 0 []).length) (x:Int):
  ∃g g0 m c0,A=some ⟨g,0,none⟩∧0<m∧W.cell? ⟨g,0,none⟩=some (.slice (some ⟨g0,0,none⟩) m c0)∧(∃u,W.cell? ⟨g0,0,none⟩=some u)∧W.frozen? ⟨g0,0,none⟩=false∧W.frozen? ⟨g,0,none⟩=false∧ok g0∧base≤g0∧
   Kd.S (Kd.slice 3 (Kd.int .i64)) 25 (W.setCell ⟨g0,0,none⟩ (.int .i64 x)) base ok (.slice A n cap) (xs.set 0 ((xs.getD 0 []).set 0 x))∧W.grownBy (W.setCell ⟨g0,0,none⟩ (.int .i64 x)) (some g0):=by
 obtain⟨g,cap',he,_⟩:=Kd.IV h h0
 injection he with hA hn hc
 subst hA;subst hn;subst hc;obtain⟨_,_,_,_,hfr⟩:=Kd.FV (Kd.S_R h) [] 0 om om;obtain⟨iN,c,hcl,hM,hcc,gN,hput⟩:=Kd.zf h ([]:List Int) 0 om om;obtain⟨v,rfl,hR⟩:=hM;obtain⟨g0,c0,rfl,hb,_⟩:=Kd.sj hR h1;have hcell:=Kd.Dr (0:Int) hR 0 om (by simpa using h1)
 have hg0:iN g0:=hR.1 g0 (by simp[Value.ownBlock])
 obtain⟨hp,hgr⟩:=Kd.EZ hR 0 x;refine⟨g,g0,_,c0,rfl,h1,hcc 0 _ rfl,⟨_,hcell.1⟩,hcell.2,hfr 0,(gN g0 hg0).1,hb,?_,hgr⟩;exact hput hgr (fun k hk=>by injection hk with hk;subst hk;exact hg0) ⟨_,rfl,hp⟩
mutual
def nA.l0:Nat→List (List Int)→Int→Int→Int→List (List Int)→List Int→Option (Int×(List (List Int))×List Int×Bool)
 |0,_,_,_,_,_,_=>none
 |k+1,cS,du,cc,bg,aN,bh=>if cc<du then(if 0≤cc then(if cc<(cS.length:Int)then(nA.l1 k (([]:List Int)) cS du cc (f_ cS cc) ((f_ cS cc).length:Int) 0 bg aN bh)else(none))else(none))else(if 0<aN.length then(if 0<(aN.getD 0 []).length then(some (bg,aN.set 0 ((aN.getD 0 []).set 0 0),bh,true))else(none))else(none))
def nA.l1:Nat→List Int→List (List Int)→Int→Int→List Int→Int→Int→Int→List (List Int)→List Int→Option (Int×(List (List Int))×List Int×Bool)
 |0,_,_,_,_,_,_,_,_,_,_=>none
 |k+1,x7,cS,du,cc,ef,eN,dv,bg,aN,bh=>if dv<eN then(if 0≤dv then(if dv<(ef.length:Int)then(if x7.length<17592186044416 then(nA.l1 k (x7++[wrap64 ((rd ef dv)+1)]) cS du cc ef eN (wrap64 (dv+1)) bg aN bh)else(none))else(none))else(none))else(if aN.length<5864062014805 then(nA.l0 k cS du (wrap64 (cc+1)) bg (aN++[x7]) bh)else(none))
end
def nA.f (k:Nat) (ax:Int) (am:List (List Int)) (aq:List Int):Option (Int×(List (List Int))×List Int×Bool):=(ng.f k ax am aq).bind fun cN=>(if cN=true then((tJ.f k ax am aq).bind fun cO=>(if cO=true then((nK.f k ax am aq).bind fun fq=>(some (fq.1,fq.2.1,fq.2.2,true)))else(if(am.length:Int)=16 then(some (0,([]:List (List Int)),([]:List Int),false))else(if 0<(aq.length:Int)then((some (([rd aq 0]:List Int):List Int)).bind fun bu=>(if bu.length+aq.length<17592186044416 then(if 0<(am.length:Int)then((some (([f_ am 0]:List (List Int)):List (List Int))).bind fun bi=>(if bi.length+am.length<5864062014805 then((some (bi++am:List (List Int))).bind fun ao=>(nA.l0 k ao (ao.length:Int) 0 ax ([]:List (List Int)) (bu++aq)))else(none)))else(none))else(none)))else(none)))))else(some (0,([]:List (List Int)),([]:List Int),false)))
def nA.T7:Bool×List (List Nat×List Nat):=(true,[([],[]),([0],[0]),([],[]),([2],[2]),([3],[3]),([4],[4]),([5],[5]),([],[]),([7],[7]),([6,8],[6,8]),([1,9],[1,9]),([],[]),([11,10,9,0,1,2,3,4,5,6,7,8,9,10,11],[10,11])])
def nA.B7:List Nat:=[0,1,0,4,12,28,60,0,128,508,1023,0,4095]
theorem nA.PN:uf .any (opsOf Try.f56 7)=nA.T7:=K_
theorem nA.OY:rV nA.T7.2 nA.B7=true:=K_
def nA.T8:Bool×List (List Nat×List Nat):=(true,[([],[]),([0],[0]),([1],[1]),([2],[2]),([3],[3]),([],[]),([5],[5]),([4,6],[4,6]),([7],[7]),([],[])])
def nA.B8:List Nat:=[0,1,3,7,15,0,32,127,255,0]
theorem nA.PO:uf .any (opsOf Try.f56 8)=nA.T8:=K_
theorem nA.OT:rV nA.T8.2 nA.B8=true:=K_
theorem nA.calls (k:Nat) (ax:Int) (J:Nat→Prop) (bj:Option Addr) (aU:Nat) (am:List (List Int)) (bL:Option Addr) (bf:Nat) (aq:List Int) (r1:Int) (r2:List (List Int)) (r3:List Int) (r4:Bool) (w:World) (fU:Kd.V (Kd.slice 3 (Kd.int .i64)) 25 w w.heap.size (fun k_=>J k_) (.slice bj am.length aU) am) (cA:Kd.C (Kd.int .i64) w bL aq.length aq) (cw:aq.length≤bf) (h:nA.f k ax am aq=some (r1,r2,r3,r4)):
  Calls Try.prog 56 #[.agg #[.int .i64 ax,.slice bj am.length aU,.slice bL aq.length bf]] w fun e w'=>∃iB gP:Value,e=.returned (.tuple #[.agg #[.int .i64 r1,iB,gP],.bool r4])∧Kd.N (Kd.slice 3 (Kd.int .i64)) 25 w' w.heap.size (fun k_=>(J k_∨w.heap.size≤k_)∧some k_≠(gP:Value).ownBlock) iB r2∧Kd.R (Kd.int .i64) 3 w' w.heap.size (fun k_=>(w.heap.size≤k_)) gP r3∧Below w.heap.size w w':=by
 have iO:=Try.underlying27;have ae:=A_ (show Kd.V (Kd.slice 3 (Kd.int .i64)) 25 w w.heap.size (fun k_=>(J k_∨w.heap.size≤k_)) (.slice bj am.length aU) am from Kd.tq fU (fun k_ hk=>.inl hk));have aW:=A_ cA;have bk:=A_ cw;clear cA cw;have HB:=A_ (Below.refl w.heap.size w);unfold nA.f at h;have H:=h;clear h;replace ⟨cN,A2,H⟩:=bA_ H
 replace H:=Hb_ H;rcases H with⟨rfl,H⟩|⟨rfl,H⟩
 ·replace ⟨cO,A4,H⟩:=bA_ H
  replace H:=Hb_ H;rcases H with⟨rfl,H⟩|⟨rfl,H⟩
  ·replace ⟨⟨dp,dq,dt⟩,A6,H⟩:=bA_ H;dsimp only at H;simp only[Option.some.injEq,Prod.mk.injEq]at H;obtain⟨rfl,rfl,rfl,rfl⟩:=H;go_enter Try.func56,Try.ntmps56
   go_wp2_with (first|((with_reducible refine gt_ 1 ?_);refine be_ 1 #[.int .i64 ax,.slice bj am.length aU,.slice bL aq.length bf] 27 ?_;intro aj hg w7 U hb;replace ae:=A_ (Kd.rX (Kd.sU ae.o aj (Nat.le_of_eq hg.symm)) hb);have aa:=A_ (U);have bN:=lh_ HB hg;have a8:=lh_ HB hg;replace HB:=bs_ HB hb;clear hb U hg)|((with_reducible refine gt_ 2 ?_);refine be_ 2 #[.int .i64 0,.slice none 0 0,.slice none 0 0] 27 ?_;intro ak hg w8 U hb;replace ae:=A_ (Kd.rX (Kd.sU ae.o ak (Nat.le_of_eq hg.symm)) hb);have ab:=A_ (U);have bO:=lh_ HB hg;have a9:=lh_ HB hg;replace HB:=bs_ HB hb;have aH:=nl_ aa hg;have aI:=ng_ aa hg;replace aa:=bb_ aa hb;clear hb U hg;have eP:=aH.o;have eQ:=aI.o;have dC:=bq3 aa.o)|((with_reducible refine gc_ 30 rfl ?_);refine cM_ E30 11 (ng.calls k ax _ _ am _ _ aq true _ ((Kd.sJ ae.o).2.2) ((Kd.sJ ae.o).2.1) (Kd.mO aW.o HB.o) bk.o A2.o) ?_;rintro e jg ⟨rfl,hb⟩;refine⟨_,rfl,?_⟩;replace ae:=A_ (Kd.rX ae.o hb);replace aa:=bb_ aa hb;replace ab:=bb_ ab hb;replace HB:=bs_ HB hb;clear hb;have dD:=bq3 aa.o)|((with_reducible refine gc_ 66 rfl ?_);refine cM_ E66 15 (tJ.calls k ax _ _ am _ _ aq true _ ((Kd.sJ ae.o).2.2) ((Kd.sJ ae.o).2.1) (Kd.mO aW.o HB.o) bk.o A4.o) ?_;rintro e jh ⟨rfl,hb⟩;refine⟨_,rfl,?_⟩;replace ae:=A_ (Kd.rX ae.o hb);replace aa:=bb_ aa hb;replace ab:=bb_ ab hb;replace HB:=bs_ HB hb;clear hb;have dE:=bq3 aa.o)|((with_reducible refine gc_ 67 rfl ?_);refine cM_ E67 17 (nK.calls k ax _ _ am _ _ aq dp dq dt _ ((Kd.sJ ae.o).2.2) ((Kd.sJ ae.o).2.1) (Kd.mO aW.o HB.o) bk.o A6.o) ?_;rintro e ji ⟨eR,ed,rfl,ho0,ho1,hb⟩;refine⟨_,rfl,?_⟩;replace ae:=A_ (Kd.tq (Kd.zk (Kd.zk (Kd.JX ae.o hb) (Kd.AO ho0)) (Kd.nW ho1)) (fun _ h_=>h_.1));have cd:=A_ (Kd.yf (Kd.rP (ok':=fun k_=>(J k_∨w.heap.size≤k_)∧some k_≠(ed:Value).ownBlock∧k_≠aj∧k_≠ak) (Kd.S_N (Kd.yP ho0)) (fun k_ fT=>⟨(.inr (Nat.le_trans (mK HB.o) fT.2.1)),fT.1,(Kd.uB aa.o k_ fT.2.1),(Kd.uB ab.o k_ fT.2.1)⟩)) (mK HB.o));have cf:=A_ (Kd.nE (Kd.Af (M:=fun k_=>(w.heap.size≤k_)) ho1 (mK HB.o) (fun k_ h_=>h_)) (mK HB.o));replace aa:=bb_ aa hb;replace ab:=bb_ ab hb;replace HB:=bs_ HB hb;clear hb ho0 ho1;have dF:=bq3 ab.o;obtain⟨dS,dV,d7⟩:=Kd.wP cd.o;subst d7;obtain⟨dT,dW,d8⟩:=Kd.mU cf.o;subst d8))
   refine rt_ #[.int .i64 dp,.slice dS dq.length dV,.slice dT dt.length dW] (by exact pu_ 2 (pu_ 1 (pu_ 0 ab.o rfl) rfl) rfl) Try.underlying27 ?_;exact⟨_,_,rf,by exact Kd.rP (KG (Kd.rP cd.o (fun k_ hk=>(⟨hk,hk.2.2.2⟩:_∧k_≠ak)))) (fun _ hk=>⟨hk.1.1,hk.1.2.1⟩),by exact Kd.mM (xe (tR_ cf ab)) (fun _ hk=>hk.1.1),wb_⟩
  replace H:=Hj_ H;rcases H with⟨c19,H⟩|⟨c19,H⟩
  ·have df:((am.length:Int)==16)=true:=beq_iff_eq.mpr c19
   have dg:((am.length:Int) !=16)=false:=bne_eq_false_iff_eq.mpr c19
   clear c19;simp only[Option.some.injEq,Prod.mk.injEq]at H;obtain⟨rfl,rfl,rfl,rfl⟩:=H;go_enter Try.func56,Try.ntmps56
   go_wp2_with (first|((with_reducible refine gt_ 1 ?_);refine be_ 1 #[.int .i64 ax,.slice bj am.length aU,.slice bL aq.length bf] 27 ?_;intro aj hg jk U hb;replace ae:=A_ (Kd.rX (Kd.sU ae.o aj (Nat.le_of_eq hg.symm)) hb);have aa:=A_ (U);have bN:=lh_ HB hg;have a8:=lh_ HB hg;replace HB:=bs_ HB hb;clear hb U hg)|((with_reducible refine gt_ 2 ?_);refine be_ 2 #[.int .i64 0,.slice none 0 0,.slice none 0 0] 27 ?_;intro ak hg jl U hb;replace ae:=A_ (Kd.rX (Kd.sU ae.o ak (Nat.le_of_eq hg.symm)) hb);have ab:=A_ (U);have bO:=lh_ HB hg;have a9:=lh_ HB hg;replace HB:=bs_ HB hb;have aH:=nl_ aa hg;have aI:=ng_ aa hg;replace aa:=bb_ aa hb;clear hb U hg;have en:=aH.o;have eD:=aI.o;have dG:=bq3 aa.o)|((with_reducible refine gc_ 30 rfl ?_);refine cM_ E30 11 (ng.calls k ax _ _ am _ _ aq true _ ((Kd.sJ ae.o).2.2) ((Kd.sJ ae.o).2.1) (Kd.mO aW.o HB.o) bk.o A2.o) ?_;rintro e jm ⟨rfl,hb⟩;refine⟨_,rfl,?_⟩;replace ae:=A_ (Kd.rX ae.o hb);replace aa:=bb_ aa hb;replace ab:=bb_ ab hb;replace HB:=bs_ HB hb;clear hb;have dH:=bq3 aa.o)|((with_reducible refine gc_ 66 rfl ?_);refine cM_ E66 15 (tJ.calls k ax _ _ am _ _ aq false _ ((Kd.sJ ae.o).2.2) ((Kd.sJ ae.o).2.1) (Kd.mO aW.o HB.o) bk.o A4.o) ?_;rintro e jo ⟨rfl,hb⟩;refine⟨_,rfl,?_⟩;replace ae:=A_ (Kd.rX ae.o hb);replace aa:=bb_ aa hb;replace ab:=bb_ ab hb;replace HB:=bs_ HB hb;clear hb;have dI:=bq3 aa.o;have dJ:=bq3 ab.o))
   refine rt_ #[.int .i64 0,.slice none 0 0,.slice none 0 0] (by exact pu_ 2 (pu_ 1 (pu_ 0 ab.o rfl) rfl) rfl) Try.underlying27 ?_;exact⟨_,_,rf,by exact Kd.Lf _ _ _ _ _,by exact Kd.sI _ _ _ _ _,wb_⟩
  have df:((am.length:Int)==16)=false:=beq_eq_false_iff_ne.mpr c19
  have dg:((am.length:Int) !=16)=true:=bne_iff_ne.mpr c19
  replace ⟨iC,H⟩:=Hp_ H
  have eh:=decide_eq_true iC
  have ei:decide (0<aq.length)=true:=decide_eq_true om
  clear iC;replace ⟨bu,ck,H⟩:=Hs_ H
  replace ⟨bP,H⟩:=Ha_ H
  obtain⟨ar,bV⟩:=ex_ ((bu++aq):List Int);rw[←bV]at H;have bQ:=A_ bV;clear bV
  replace ⟨c31,H⟩:=Hp_ H
  have ej:=decide_eq_true c31
  have ek:decide (0<am.length)=true:=decide_eq_true om
  clear c31;replace ⟨bi,cZ,H⟩:=Hs_ H
  replace ⟨cW,H⟩:=Ha_ H
  replace ⟨ao,da,H⟩:=Hs_ H
  have H':=A_ H
  clear H;go_enter Try.func56,Try.ntmps56
  try go_wp2_with (first|((with_reducible refine gt_ 1 ?_);refine be_ 1 #[.int .i64 ax,.slice bj am.length aU,.slice bL aq.length bf] 27 ?_;intro aj hg jq U hb;replace ae:=A_ (Kd.rX (Kd.sU ae.o aj (Nat.le_of_eq hg.symm)) hb);have aa:=A_ (U);have bN:=lh_ HB hg;have a8:=lh_ HB hg;replace HB:=bs_ HB hb;clear hb U hg)|((with_reducible refine gt_ 2 ?_);refine be_ 2 #[.int .i64 0,.slice none 0 0,.slice none 0 0] 27 ?_;intro ak hg jr U hb;replace ae:=A_ (Kd.rX (Kd.sU ae.o ak (Nat.le_of_eq hg.symm)) hb);have ab:=A_ (U);have bO:=lh_ HB hg;have a9:=lh_ HB hg;replace HB:=bs_ HB hb;have aH:=nl_ aa hg;have aI:=ng_ aa hg;replace aa:=bb_ aa hb;clear hb U hg;have eo:=aH.o;have eE:=aI.o;have dK:=bq3 aa.o)|((with_reducible refine gc_ 30 rfl ?_);refine cM_ E30 11 (ng.calls k ax _ _ am _ _ aq true _ ((Kd.sJ ae.o).2.2) ((Kd.sJ ae.o).2.1) (Kd.mO aW.o HB.o) bk.o A2.o) ?_;rintro e jv ⟨rfl,hb⟩;refine⟨_,rfl,?_⟩;replace ae:=A_ (Kd.rX ae.o hb);replace aa:=bb_ aa hb;replace ab:=bb_ ab hb;replace HB:=bs_ HB hb;clear hb;have dL:=bq3 aa.o)|((with_reducible refine gc_ 66 rfl ?_);refine cM_ E66 15 (tJ.calls k ax _ _ am _ _ aq false _ ((Kd.sJ ae.o).2.2) ((Kd.sJ ae.o).2.1) (Kd.mO aW.o HB.o) bk.o A4.o) ?_;rintro e iP ⟨rfl,hb⟩;refine⟨_,rfl,?_⟩;replace ae:=A_ (Kd.rX ae.o hb);replace aa:=bb_ aa hb;replace ab:=bb_ ab hb;replace HB:=bs_ HB hb;clear hb;have dM:=bq3 aa.o))
  replace ae:=A_ (Kd.MC ae.o);replace aa:=A_ (nQ aa.o);replace ab:=A_ (nQ ab.o);replace HB:=A_ (oG HB.o)
  have cI:0≤(0:Int):=om
  have cK:0<(aq.length:Int):=oa_
  obtain⟨aY,dZ,aV⟩:=Kd.nM aW.o 0 cI cK;have ah:=aV
  (try rw[show((0:Int)).toNat=0 from rfl]at ah)
  (try rw[show 0*1=0 from rfl]at ah)
  (try rw[Addr.add_zero']at ah)
  cases dZ
  have iD:(0<aq.length)=True:=eq_true om
  (try rw[show((0:Int)).toNat=0 from rfl]at aV)
  (try rw[Addr.add_zero']at aV)
  replace aV:=cm_ HB aV;replace cI:=eq_true cI;replace cK:=eq_true cK;refine rM (n:=13) (S:=fun w'=>cA3 aj (.int .i64 ax) (.slice bj am.length aU) (.slice (some aY) aq.length bf) w' (w'.cell? aY=some (.int .i64 (rd aq 0)))) (ds:=[]) (mk_ 13 0) K_ rfl rfl ⟨bz0 aa.o,bz1 aa.o,bz2 aa.o,((HB.o.cell (World.block_lt_of_cell? w _ ah)).trans ah)⟩ (fun av=>?_);refine ru nA.PN nA.OY (fun a7 ci=>?_)
  generalize iP.drew=jw at ae aa ab HB aV av⊢
  refine pw_ 0 23 (mk_ 13 1) a7 ?_;refine pw_ 2 25 (mk_ 13 5) a7 ?_;refine pw_ 7 30 (mk_ 13 133) a7 ?_;refine tk_ 1 24 (mk_ 13 135) a7 ci av ?_;refine tk_ 3 26 (mk_ 13 143) a7 ci av ?_;refine pw_ 4 27 (mk_ 13 159) a7 ?_;refine tk_ 5 28 (mk_ 13 191) a7 ci av ?_;refine tk_ 8 31 (mk_ 13 447) a7 ci av ?_;refine Cx (σ:=Value×Value×Nat) 1 (mk_ 13 4095) (fun s_=>[(29,s_.1),(32,s_.2.1),(4,.pointer (some ⟨s_.2.2,0,none⟩)),(33,.agg #[.int .i64 ax,.slice none 0 0,s_.2.1])]) (fun s_ w'=>(cA3 aj (.int .i64 ax) (.slice bj am.length aU) (.slice (some aY) aq.length bf) w' (w'.cell? aY=some (.int .i64 (rd aq 0))))∧(Kd.V (Kd.slice 3 (Kd.int .i64)) 25 w' w.heap.size (fun k_=>(J k_∨w.heap.size≤k_)∧some k_≠(s_.2.1:Value).ownBlock∧k_≠aj∧k_≠ak∧k_≠s_.2.2) (.slice bj am.length aU) am)∧(Kd.R (Kd.int .i64) 3 w' w.heap.size (fun k_=>(w.heap.size≤k_)) s_.2.1 ar)∧(w'.heap[aj]? =some (.cells #[.int .i64 ax,.slice bj am.length aU,.slice (some aY) aq.length bf] 27 (0,0)))∧(w'.heap[ak]? =some (.cells #[.int .i64 0,.slice none 0 0,.slice none 0 0] 27 (0,0)))∧(w'.heap[s_.2.2]? =some (.cells #[.int .i64 0,.slice none 0 0,.slice none 0 0] 27 (0,0)))∧(w.heap.size≤s_.2.2)∧(w.heap.size≤s_.2.2)∧(aj≠s_.2.2)∧(s_.2.2≠aj)∧(ak≠s_.2.2)∧(s_.2.2≠ak)∧(Below w.heap.size w w')) ?_ ?_;rotate_left
  ·intro fu;refine F6 (i:=6) (j:=11) (Ni:=some 29) (Nj:=some 4) (mk_ 13 511) (mk_ 13 2495) rfl rfl rfl rfl (Ap a7.o K_) d_ d_ (fun K hK=>?_) (fun K hK=>?_)
   ·skip
    refine Kd.tO (Kd.int .i64) _ 3 ?hg (N:=29) ?hd (xs:=([rd aq 0]:List Int)) (inner:=[.int .i64 (rd aq 0)]) (ok:=fun _=>True) (okp:=fun _=>True) ?hr ?hp (fun _ hk=>hk) trivial (Below.refl _ _) (Nat.le_refl _) sp ?_;(case hd|hg=>rfl);(case hr=>go_simp;done);(case hp=>exact(qK.one (show Kd.M (Kd.int .i64) _ _ _ (rd aq 0) [.int .i64 (rd aq 0)]from rfl) (qK.none _ _)));intro bA iQ b8 hb fV eu;clear fV eu
    (rw[←ck.o]at b8)
    replace ae:=A_ (Kd.yB ae.o (Kd.nW b8) hb);have aM:=A_ (Kd.nE (Kd.Af (M:=fun k_=>(w.heap.size≤k_)) b8 (mK HB.o) (fun k_ h_=>h_)) (mK HB.o));replace aa:=bb_ aa hb;replace ab:=bb_ ab hb;replace HB:=bs_ HB hb;clear hb b8;refine hK.out _ _ ⟨bz0 aa.o,bz1 aa.o,bz2 aa.o,((HB.o.cell (World.block_lt_of_cell? w _ ah)).trans ah)⟩ (fun av=>?_);clear hK K;refine nm_ 29 ?_;refine F6 (i:=9) (j:=11) (Ni:=some 32) (Nj:=some 4) (mk_ 13 1023) (mk_ 13 2559) rfl rfl rfl rfl (Ap a7.o K_) d_ d_ (fun K hK=>?_) (fun K hK=>?_)
    ·skip
     refine Kd.oU (Kd.int .i64) (w0:=w) w.heap.size rf (.tmp 29) (.tmp 31) 25 3 (.int .i64 0) 8 rfl Try.underlying25 info3 rfl d_ om bA bu aq _ _ _ (fun k_=>(w.heap.size≤k_)) (fun _=>False) rfl rfl ?aO ?aR (fun _ _ h=>h) (fun _ h=>h.elim) ?aF ?aB ?aS ?aL ?_
     (case aR=>exact(Kd.mO aW.o HB.o))
     (case aB=>exact HB.o)
     (case aF=>exact(fun k_ hk=>(Nat.le_trans (mK HB.o) hk)))
     (case aO=>exact(by exact Kd.mM aM.o (fun _ hk=>hk.1)))
     (case aS=>exact(mK HB.o))
     (case aL=>have:=bP.o;omega)
     intro cP iR ho hb hg hat;rw[←bQ.o]at ho;replace ae:=A_ (Kd.wY (ok:=(fun k_=>(J k_∨w.heap.size≤k_)∧k_≠aj∧k_≠ak)) (by exact Kd.tq ae.o (fun _ hk=>⟨⟨hk.1.1.1,⟨hk.1.1.2,hk.1.2⟩⟩,hk.2⟩)) hg hat);replace aa:=gR_ aM aa hg;replace ab:=gR_ aM ab hg;replace HB:=A_ (hb);have aE:=A_ (ho);clear aM ho hb hg hat;obtain⟨dU,dX,dk⟩:=Kd.mU aE.o
     (first|subst dk|(injection dk with fe fE fo;have fF:=fe.symm;have fG:=fo.symm;clear fe fE fo;subst fF;subst fG))
     refine hK.out _ _ ⟨bz0 aa.o,bz1 aa.o,bz2 aa.o,((HB.o.cell (World.block_lt_of_cell? w _ ah)).trans ah)⟩ (fun av=>?_);clear hK K;refine nm_ 32 ?_;refine pw_ 10 33 (mk_ 13 2047) a7 ?_;refine ow_ 11 (mk_ 13 4095) a7 (fun K hK=>?_);refine uh rfl (N:=4) rfl (cs:= #[.int .i64 0,.slice none 0 0,.slice none 0 0]) (t:=27) (by go_simp;done) ?_;intro af hg jy U hb;replace ae:=A_ (Kd.rX (Kd.sU ae.o af (Nat.le_of_eq hg.symm)) hb);replace aE:=A_ (Kd.nX aE.o hb);have ai:=A_ (U);have aJ:=lh_ HB hg;have ba:=lh_ HB hg;replace HB:=bs_ HB hb;have ag:=nl_ aa hg;have ay:=ng_ aa hg;replace aa:=bb_ aa hb;have ap:=nl_ ab hg;have az:=ng_ ab hg;replace ab:=bb_ ab hb;clear hb U hg;refine hK.out _ _ ⟨bz0 aa.o,bz1 aa.o,bz2 aa.o,((HB.o.cell (World.block_lt_of_cell? w _ ah)).trans ah)⟩ (fun av=>?_);clear hK K;refine nm_ 4 ?_;exact vg (by simp only[rG,Act.put,mD,mE,mF]) (fu (bA,.slice dU ar.length dX,af) _ ⟨av,(by exact Kd.tq ae.o (fun _ hk=>⟨hk.1.1.1,⟨hk.1.2,⟨hk.1.1.2.1,⟨hk.1.1.2.2,hk.2⟩⟩⟩⟩)),aE.o,aa.o,ab.o,ai.o,aJ.o,ba.o,ag.o,ay.o,ap.o,az.o,HB.o⟩)
    skip
    refine uh rfl (N:=4) rfl (cs:= #[.int .i64 0,.slice none 0 0,.slice none 0 0]) (t:=27) (by go_simp;done) ?_;intro af hg iR U hb;replace ae:=A_ (Kd.rX (Kd.sU ae.o af (Nat.le_of_eq hg.symm)) hb);replace aM:=A_ (Kd.nX aM.o hb);have ai:=A_ (U);have aJ:=lh_ HB hg;have ba:=lh_ HB hg;replace HB:=bs_ HB hb;have ag:=nl_ aa hg;have ay:=ng_ aa hg;replace aa:=bb_ aa hb;have ap:=nl_ ab hg;have az:=ng_ ab hg;replace ab:=bb_ ab hb;clear hb U hg;refine hK.out _ _ ⟨bz0 aa.o,bz1 aa.o,bz2 aa.o,((HB.o.cell (World.block_lt_of_cell? w _ ah)).trans ah)⟩ (fun av=>?_);clear hK K;refine nm_ 4 ?_;refine ow_ 9 (mk_ 13 3071) a7 (fun K hK=>?_);refine Kd.oU (Kd.int .i64) (w0:=w) w.heap.size rf (.tmp 29) (.tmp 31) 25 3 (.int .i64 0) 8 rfl Try.underlying25 info3 rfl d_ om bA bu aq _ _ _ (fun k_=>(w.heap.size≤k_)) (fun _=>False) rfl rfl ?aO ?aR (fun _ _ h=>h) (fun _ h=>h.elim) ?aF ?aB ?aS ?aL ?_
    (case aR=>exact(Kd.mO aW.o HB.o))
    (case aB=>exact HB.o)
    (case aF=>exact(fun k_ hk=>(Nat.le_trans (mK HB.o) hk)))
    (case aO=>exact(by exact Kd.mM aM.o (fun _ hk=>hk.1)))
    (case aS=>exact(mK HB.o))
    (case aL=>have:=bP.o;omega)
    intro cP iT ho hb hg hat;rw[←bQ.o]at ho;replace ae:=A_ (Kd.wY (ok:=(fun k_=>(J k_∨w.heap.size≤k_)∧k_≠aj∧k_≠ak∧k_≠af)) (by exact Kd.tq ae.o (fun _ hk=>⟨⟨hk.1.1.1.1,⟨hk.1.1.1.2,⟨hk.1.1.2,hk.2⟩⟩⟩,hk.1.2⟩)) hg hat);replace aa:=gR_ aM aa hg;replace ab:=gR_ aM ab hg;replace ai:=gR_ aM ai hg;replace HB:=A_ (hb);have aE:=A_ (ho);clear aM ho hb hg hat;obtain⟨cC,cF,bS⟩:=Kd.mU aE.o
    (first|subst bS|(injection bS with fe fE fo;have fF:=fe.symm;have fG:=fo.symm;clear fe fE fo;subst fF;subst fG))
    refine hK.out _ _ ⟨bz0 aa.o,bz1 aa.o,bz2 aa.o,((HB.o.cell (World.block_lt_of_cell? w _ ah)).trans ah)⟩ (fun av=>?_);clear hK K;refine nm_ 32 ?_;refine pw_ 10 33 (mk_ 13 4095) a7 ?_;exact vg (by simp only[rG,Act.put,mD,mE,mF]) (fu (bA,.slice cC ar.length cF,af) _ ⟨av,(by exact Kd.tq ae.o (fun _ hk=>⟨hk.1.1,⟨hk.2,⟨hk.1.2.1,⟨hk.1.2.2.1,hk.1.2.2.2⟩⟩⟩⟩)),aE.o,aa.o,ab.o,ai.o,aJ.o,ba.o,ag.o,ay.o,ap.o,az.o,HB.o⟩)
   skip
   refine uh rfl (N:=4) rfl (cs:= #[.int .i64 0,.slice none 0 0,.slice none 0 0]) (t:=27) (by go_simp;done) ?_;intro af hg iQ U hb;replace ae:=A_ (Kd.rX (Kd.sU ae.o af (Nat.le_of_eq hg.symm)) hb);have ai:=A_ (U);have aJ:=lh_ HB hg;have ba:=lh_ HB hg;replace HB:=bs_ HB hb;have ag:=nl_ aa hg;have ay:=ng_ aa hg;replace aa:=bb_ aa hb;have ap:=nl_ ab hg;have az:=ng_ ab hg;replace ab:=bb_ ab hb;clear hb U hg;refine hK.out _ _ ⟨bz0 aa.o,bz1 aa.o,bz2 aa.o,((HB.o.cell (World.block_lt_of_cell? w _ ah)).trans ah)⟩ (fun av=>?_);clear hK K;refine nm_ 4 ?_;refine ow_ 6 (mk_ 13 2559) a7 (fun K hK=>?_);refine Kd.tO (Kd.int .i64) _ 3 ?hg (N:=29) ?hd (xs:=([rd aq 0]:List Int)) (inner:=[.int .i64 (rd aq 0)]) (ok:=fun _=>True) (okp:=fun _=>True) ?hr ?hp (fun _ hk=>hk) trivial (Below.refl _ _) (Nat.le_refl _) sp ?_;(case hd|hg=>rfl);(case hr=>go_simp;done);(case hp=>exact(qK.one (show Kd.M (Kd.int .i64) _ _ _ (rd aq 0) [.int .i64 (rd aq 0)]from rfl) (qK.none _ _)));intro bA jA b9 hb fV eu;clear fV eu
   (rw[←ck.o]at b9)
   replace ae:=A_ (Kd.yB ae.o (Kd.nW b9) hb);have aM:=A_ (Kd.nE (Kd.Af (M:=fun k_=>(w.heap.size≤k_)) b9 (mK HB.o) (fun k_ h_=>h_)) (mK HB.o));replace aa:=bb_ aa hb;replace ab:=bb_ ab hb;replace ai:=bb_ ai hb;replace HB:=bs_ HB hb;clear hb b9;refine hK.out _ _ ⟨bz0 aa.o,bz1 aa.o,bz2 aa.o,((HB.o.cell (World.block_lt_of_cell? w _ ah)).trans ah)⟩ (fun av=>?_);clear hK K;refine nm_ 29 ?_;refine ow_ 9 (mk_ 13 3071) a7 (fun K hK=>?_);refine Kd.oU (Kd.int .i64) (w0:=w) w.heap.size rf (.tmp 29) (.tmp 31) 25 3 (.int .i64 0) 8 rfl Try.underlying25 info3 rfl d_ om bA bu aq _ _ _ (fun k_=>(w.heap.size≤k_)) (fun _=>False) rfl rfl ?aO ?aR (fun _ _ h=>h) (fun _ h=>h.elim) ?aF ?aB ?aS ?aL ?_
   (case aR=>exact(Kd.mO aW.o HB.o))
   (case aB=>exact HB.o)
   (case aF=>exact(fun k_ hk=>(Nat.le_trans (mK HB.o) hk)))
   (case aO=>exact(by exact Kd.mM aM.o (fun _ hk=>hk.1)))
   (case aS=>exact(mK HB.o))
   (case aL=>have:=bP.o;omega)
   intro cP iT ho hb hg hat;rw[←bQ.o]at ho;replace ae:=A_ (Kd.wY (ok:=(fun k_=>(J k_∨w.heap.size≤k_)∧k_≠aj∧k_≠ak∧k_≠af)) (by exact Kd.tq ae.o (fun _ hk=>⟨⟨hk.1.1.1.1,⟨hk.1.1.1.2,⟨hk.1.1.2,hk.1.2⟩⟩⟩,hk.2⟩)) hg hat);replace aa:=gR_ aM aa hg;replace ab:=gR_ aM ab hg;replace ai:=gR_ aM ai hg;replace HB:=A_ (hb);have aE:=A_ (ho);clear aM ho hb hg hat;obtain⟨cC,cF,bS⟩:=Kd.mU aE.o
   (first|subst bS|(injection bS with fe fE fo;have fF:=fe.symm;have fG:=fo.symm;clear fe fE fo;subst fF;subst fG))
   refine hK.out _ _ ⟨bz0 aa.o,bz1 aa.o,bz2 aa.o,((HB.o.cell (World.block_lt_of_cell? w _ ah)).trans ah)⟩ (fun av=>?_);clear hK K;refine nm_ 32 ?_;refine pw_ 10 33 (mk_ 13 4095) a7 ?_;exact vg (by simp only[rG,Act.put,mD,mE,mF]) (fu (bA,.slice cC ar.length cF,af) _ ⟨av,(by exact Kd.tq ae.o (fun _ hk=>⟨hk.1.1,⟨hk.2,⟨hk.1.2.1,⟨hk.1.2.2.1,hk.1.2.2.2⟩⟩⟩⟩)),aE.o,aa.o,ab.o,ai.o,aJ.o,ba.o,ag.o,ay.o,ap.o,az.o,HB.o⟩)
  rintro⟨bA,cP,af⟩ fZ ⟨av,gQ,gT,gU,gV,gW,gX,gY,gZ,g_,ib,cG,cH⟩
  clear ae aa ab HB;try dsimp only at av gQ gT gU gV gW gX gY gZ g_ ib cG cH
  have ae:=A_ gQ;have aE:=A_ gT;have aa:=A_ gU;have ab:=A_ gV;have ai:=A_ gW;have aJ:=A_ gX;have ba:=A_ gY;have ag:=A_ gZ;have ay:=A_ g_;have ap:=A_ ib;have az:=A_ cG;have HB:=A_ cH;clear gQ gT gU gV gW gX gY gZ g_ ib cG cH
  obtain⟨aC,aD,dm⟩:=Kd.mU aE.o
  (first|subst dm|(injection dm with fe fE fo;have fF:=fe.symm;have fG:=fo.symm;clear fe fE fo;subst fF;subst fG))
  refine vg (by simp only[rG,Act.put,mD,mE,mF];rfl) ?_
  refine ow_ 12 (mk_ 13 8191) a7 (fun K hK=>?_)
  have iU:fZ.cell? ⟨af,0,none⟩=some (.int .i64 0):=bz0 ai.o
  have iE:=nY ai.o 0;have gm:=ag.o;have gp:=ap.o;have gq:=ay.o;have gu:=az.o
  have iV:fZ.cell? ⟨af,1,none⟩=some (.slice none 0 0):=bz1 ai.o
  have iF:=nY ai.o 1;have gy:=ag.o;have gz:=ap.o;have gB:=ay.o;have gD:=az.o
  have iW:fZ.cell? ⟨af,2,none⟩=some (.slice none 0 0):=bz2 ai.o
  have iG:=nY ai.o 2;have gF:=ag.o;have gG:=ap.o;have gH:=ay.o;have gI:=az.o;refine uI (w1:=?_) rf rfl ?_ ?_;rotate_left
  ·go_simp
   rfl
  refine hK.out _ _ ⟨((cf_ ag).trans (((cf_ ag).trans (((cf_ ag).trans (av.1)))))),((cf_ ag).trans (((cf_ ag).trans (((cf_ ag).trans (av.2.1)))))),((cf_ ag).trans (((cf_ ag).trans (((cf_ ag).trans (av.2.2.1)))))),((cell_far (p:=⟨af,_,none⟩) (by first|exact Nat.ne_of_lt (Nat.lt_of_lt_of_le (by have:=World.block_lt_of_cell? _ _ ah;first|rwa[add_block]at this|exact this) aJ.o)|(rw[add_block];exact Nat.ne_of_lt (Nat.lt_of_lt_of_le (by have:=World.block_lt_of_cell? _ _ ah;first|rwa[add_block]at this|exact this) aJ.o))|(show(Addr.add _ _).block≠_;rw[add_block];exact Nat.ne_of_lt (Nat.lt_of_lt_of_le (by have:=World.block_lt_of_cell? _ _ ah;first|rwa[add_block]at this|exact this) aJ.o))|(dsimp only;exact Nat.ne_of_lt (Nat.lt_of_lt_of_le (by have:=World.block_lt_of_cell? _ _ ah;first|rwa[add_block]at this|exact this) aJ.o))) _).trans (((cell_far (p:=⟨af,_,none⟩) (by first|exact Nat.ne_of_lt (Nat.lt_of_lt_of_le (by have:=World.block_lt_of_cell? _ _ ah;first|rwa[add_block]at this|exact this) aJ.o)|(rw[add_block];exact Nat.ne_of_lt (Nat.lt_of_lt_of_le (by have:=World.block_lt_of_cell? _ _ ah;first|rwa[add_block]at this|exact this) aJ.o))|(show(Addr.add _ _).block≠_;rw[add_block];exact Nat.ne_of_lt (Nat.lt_of_lt_of_le (by have:=World.block_lt_of_cell? _ _ ah;first|rwa[add_block]at this|exact this) aJ.o))|(dsimp only;exact Nat.ne_of_lt (Nat.lt_of_lt_of_le (by have:=World.block_lt_of_cell? _ _ ah;first|rwa[add_block]at this|exact this) aJ.o))) _).trans (((cell_far (p:=⟨af,_,none⟩) (by first|exact Nat.ne_of_lt (Nat.lt_of_lt_of_le (by have:=World.block_lt_of_cell? _ _ ah;first|rwa[add_block]at this|exact this) aJ.o)|(rw[add_block];exact Nat.ne_of_lt (Nat.lt_of_lt_of_le (by have:=World.block_lt_of_cell? _ _ ah;first|rwa[add_block]at this|exact this) aJ.o))|(show(Addr.add _ _).block≠_;rw[add_block];exact Nat.ne_of_lt (Nat.lt_of_lt_of_le (by have:=World.block_lt_of_cell? _ _ ah;first|rwa[add_block]at this|exact this) aJ.o))|(dsimp only;exact Nat.ne_of_lt (Nat.lt_of_lt_of_le (by have:=World.block_lt_of_cell? _ _ ah;first|rwa[add_block]at this|exact this) aJ.o))) _).trans (av.2.2.2))))))⟩ (fun av=>?_);clear hK K;refine sZ (sP a7.o K_) ?_
  try go_wp2
  generalize h_:(((fZ.setCell ⟨af,0,none⟩ (.int .i64 ax)).setCell ⟨af,1,none⟩ (.slice none 0 0)).setCell ⟨af,2,none⟩ (.slice aC ar.length aD))=fH
  replace ae:Aside0 (Kd.V (Kd.slice 3 (Kd.int .i64)) 25 fH w.heap.size (fun k_=>(J k_∨w.heap.size≤k_)∧some k_≠(.slice aC ar.length aD:Value).ownBlock∧k_≠aj∧k_≠ak∧k_≠af) (.slice bj am.length aU) am):=⟨by rw[←h_];exact Kd.tq (Kd.D_ (p:=⟨af,2,none⟩) (Kd.D_ (p:=⟨af,1,none⟩) (Kd.D_ (p:=⟨af,0,none⟩) (Kd.tq ae.o (fun k_ hk=>(⟨hk,hk.2.2.2.2⟩:_∧k_≠af))) (fun _ hk=>hk.2) (.int .i64 ax)) (fun _ hk=>hk.2) (.slice none 0 0)) (fun _ hk=>hk.2) (.slice aC ar.length aD)) (fun _ hk=>⟨hk.1.1,⟨hk.1.2.1,⟨hk.1.2.2.1,⟨hk.1.2.2.2.1,hk.1.2.2.2.2⟩⟩⟩⟩)⟩;replace aE:Aside0 (Kd.R (Kd.int .i64) 3 fH w.heap.size (fun k_=>(w.heap.size≤k_)) (.slice aC ar.length aD) ar):=⟨by rw[←h_];exact Kd.mM (xe (tR_ aE ai)) (fun _ hk=>hk.1)⟩;replace aa:Aside0 (fH.heap[aj]? =some (.cells #[.int .i64 ax,.slice bj am.length aU,.slice (some aY) aq.length bf] 27 (0,0))):=⟨by rw[←h_];exact fa_ ag (fa_ ag (fa_ ag aa.o))⟩;replace ab:Aside0 (fH.heap[ak]? =some (.cells #[.int .i64 0,.slice none 0 0,.slice none 0 0] 27 (0,0))):=⟨by rw[←h_];exact fa_ ap (fa_ ap (fa_ ap ab.o))⟩;replace ai:Aside0 (fH.heap[af]? =some (.cells #[.int .i64 ax,.slice none 0 0,.slice aC ar.length aD] 27 (0,0))):=⟨by rw[←h_];exact pu_ 2 (pu_ 1 (pu_ 0 ai.o rfl) rfl) rfl⟩;replace HB:Aside0 (Below w.heap.size w fH):=⟨by rw[←h_];repeat (first|(with_reducible first|exact HB.o|apply pI|apply rE|apply oG|refine mY ?_ a8.o|refine mY ?_ a9.o|refine mY ?_ ba.o)|exact HB.o)⟩;clear h_;replace ae:=A_ (Kd.MC ae.o);replace aE:=A_ (Kd.pR aE.o);replace aa:=A_ (nQ aa.o);replace ab:=A_ (nQ ab.o);replace ai:=A_ (nQ ai.o);replace HB:=A_ (oG HB.o)
  have b2:0≤(0:Int):=om
  have b4:0<(am.length:Int):=oa_
  obtain⟨br,bB,bC,d4,aX,bI,bG⟩:=qM (Kd.sJ ae.o).2.2 0 b2 b4
  cases d4
  obtain⟨iH,fI,fJ,fw⟩:=Kd.OZ ae.o [] 0 b2 (by exact b4);obtain⟨gJ,gK,rfl,bW,bX⟩:=Kd.zU fJ;have a_:=fw 0 _ rfl;rw[Nat.add_zero,show((Kd.slice 3 (Kd.int .i64))).sz=1 from rfl,Nat.mul_one]at a_;replace a_:=Option.some.inj (a_.symm.trans aX)
  injection a_ with fA fK fB
  rw[fA]at bX;rw[fB]at bW;have aZ:=A_ (show Kd.V (Kd.int .i64) 3 _ w.heap.size _ _ (f_ am 0)from Kd.ML bW bX);clear fA fK fB bX bW fw fI
  have iI:(0<am.length)=True:=eq_true om
  (try rw[show((0:Int)).toNat=0 from rfl]at aX)
  (try rw[Addr.add_zero']at aX)
  have bq:=A_ bG;have dy:=A_ bI;clear bG bI;replace b2:=eq_true b2;replace b4:=eq_true b4;refine rM (n:=10) (S:=fun w'=>cA3 aj (.int .i64 ax) (.slice (some br) am.length aU) (.slice (some aY) aq.length bf) w' (w'.cell? br=some (.slice bB (f_ am 0).length bC))) (ds:=[7]) (mk_ 10 0) K_ rfl rfl ⟨bz0 aa.o,bz1 aa.o,bz2 aa.o,aX⟩ (fun av=>?_);refine ru nA.PO nA.OT (fun a7 ci=>?_)
  generalize fH.drew=iX at ae aE aa ab ai HB aZ bq aX av⊢
  refine pw_ 0 34 (mk_ 10 1) a7 ?_;refine pw_ 5 39 (mk_ 10 33) a7 ?_;refine pw_ 9 43 (mk_ 10 545) a7 ?_;refine tk_ 1 35 (mk_ 10 547) a7 ci av ?_;refine pw_ 2 36 (mk_ 10 551) a7 ?_;refine tk_ 3 37 (mk_ 10 559) a7 ci av ?_;refine tk_ 6 40 (mk_ 10 623) a7 ci av ?_;refine ow_ 4 (mk_ 10 639) a7 (fun K hK=>?_);refine Kd.Jm (Kd.slice 3 (Kd.int .i64)) _ 25 ?hg (N':=38) ?hd (xs:=([f_ am 0]:List (List Int))) (inner:=[.slice bB (f_ am 0).length bC]) (ok:=(fun k_=>(J k_∨w.heap.size≤k_)∧some k_≠(.slice aC ar.length aD:Value).ownBlock∧k_≠aj∧k_≠ak∧k_≠af)) (okp:=(fun k_=>(J k_∨w.heap.size≤k_)∧some k_≠(.slice aC ar.length aD:Value).ownBlock∧k_≠aj∧k_≠ak∧k_≠af)) ?hr ?hp (fun _ hk=>hk) ((show ∀k_,iX.heap.size≤k_→(fun k_=>(J k_∨w.heap.size≤k_)∧some k_≠(.slice aC ar.length aD:Value).ownBlock∧k_≠aj∧k_≠ak∧k_≠af) k_ from fun k_ hk=>⟨(.inr (Nat.le_trans (mK HB.o) hk)),Kd.fresh' (Kd.oV aE.o) k_ hk,Kd.uB aa.o k_ hk,Kd.uB ab.o k_ hk,Kd.uB ai.o k_ hk⟩) _ (Nat.le_refl _)) (Below.refl _ _) (Nat.le_refl _) sp ?_;(case hd|hg=>rfl);(case hr=>go_simp;done);(case hp=>exact(qK.one (show Kd.FK (Kd.slice 3 (Kd.int .i64)) _ _ (f_ am 0) [.slice bB (f_ am 0).length bC]from(Kd.CP (Kd.sJ (Kd.tq (ok':=(fun k_=>(J k_∨w.heap.size≤k_)∧some k_≠(.slice aC ar.length aD:Value).ownBlock∧k_≠aj∧k_≠ak∧k_≠af)) (aZ.o) (fun k_ hk=>⟨hk.1,⟨hk.2.1,⟨hk.2.2.1,⟨hk.2.2.2.1,hk.2.2.2.2⟩⟩⟩⟩))).2.1 (Kd.V_F (Kd.tq (ok':=(fun k_=>(J k_∨w.heap.size≤k_)∧some k_≠(.slice aC ar.length aD:Value).ownBlock∧k_≠aj∧k_≠ak∧k_≠af)) (aZ.o) (fun k_ hk=>⟨hk.1,⟨hk.2.1,⟨hk.2.2.1,⟨hk.2.2.2.1,hk.2.2.2.2⟩⟩⟩⟩))))) (qK.none _ _)));intro cQ jB bT hb fV eu;have ic:=(hb.cell (World.block_lt_of_cell? _ _ (av.2.2.2))).trans (av.2.2.2);clear fV eu
  (rw[←cZ.o]at bT)
  replace ae:=A_ (Kd.yB ae.o (Kd.Gm bT) hb);replace aE:=A_ (Kd.nX aE.o hb);replace aZ:=A_ (Kd.yB aZ.o (Kd.Gm bT) hb);have bv:=A_ (Kd.yf bT (mK HB.o));replace aa:=bb_ aa hb;replace ab:=bb_ ab hb;replace ai:=bb_ ai hb;replace bq:=A_ (Kd.mO (by repeat (first|(with_reducible exact bq.o)|(with_reducible refine Kd.C_alloc ?_ _)|(with_reducible refine Kd.oH ?_ _)|(with_reducible refine Kd.pG ?_)|exact bq.o)) hb);replace HB:=bs_ HB hb;clear hb bT;refine hK.out _ _ ⟨bz0 aa.o,bz1 aa.o,bz2 aa.o,ic⟩ (fun av=>?_);clear hK K;refine nm_ 38 ?_;refine vI (i:=7) (N:=some 41) (mk_ 10 767) rfl rfl (xJ a7.o K_) d_ (fun K hK=>?_);refine Kd.Ao (Kd.slice 3 (Kd.int .i64)) (w0:=w) w.heap.size rf (.tmp 38) (.tmp 40) 24 25 (.slice none 0 0) 24 rfl Try.underlying24 uO rfl d_ om cQ bi am _ _ _ (fun k_=>(J k_∨w.heap.size≤k_)∧some k_≠(.slice aC ar.length aD:Value).ownBlock∧k_≠aj∧k_≠ak∧k_≠af) (fun k_=>((fun k_=>(J k_∨w.heap.size≤k_)∧some k_≠(.slice aC ar.length aD:Value).ownBlock∧k_≠aj∧k_≠ak∧k_≠af)) k_∧some k_≠(cQ:Value).ownBlock) rfl rfl ?aO ?aR (fun _ hk=>hk) ?aF ?aB ?aS ?aL ?_
  (case aR=>exact(by skip;exact Kd.V_F (Kd.tq (ok':=(fun k_=>((fun k_=>(J k_∨w.heap.size≤k_)∧some k_≠(.slice aC ar.length aD:Value).ownBlock∧k_≠aj∧k_≠ak∧k_≠af)) k_∧some k_≠(cQ:Value).ownBlock)) (ae.o) (fun k_ hk=>⟨⟨hk.1.1,⟨hk.1.2.1,⟨hk.1.2.2.1,⟨hk.1.2.2.2.1,hk.1.2.2.2.2⟩⟩⟩⟩,hk.2⟩))))
  (case aB=>exact HB.o)
  (case aF=>exact(fun k_ hk=>⟨(.inr (Nat.le_trans (mK HB.o) hk)),Kd.fresh' (Kd.oV aE.o) k_ hk,Kd.uB aa.o k_ hk,Kd.uB ab.o k_ hk,Kd.uB ai.o k_ hk⟩))
  (case aO=>exact bv.o)
  (case aS=>exact(mK HB.o))
  (case aL=>have:=cW.o;omega)
  intro eS jC ho hb hg hat;rw[←da.o]at ho;replace ae:=A_ (Kd.wY (ok:=(fun k_=>(J k_∨w.heap.size≤k_)∧some k_≠(.slice aC ar.length aD:Value).ownBlock∧k_≠aj∧k_≠ak∧k_≠af)) ae.o hg hat);replace aa:=A_ (qE (g:=aj) (o:=.cells #[.int .i64 ax,.slice (some br) am.length aU,.slice (some aY) aq.length bf] 27 (0,0)) aa.o hg (Kd.OC bv.o aa.o d_));replace ab:=A_ (qE (g:=ak) (o:=.cells #[.int .i64 0,.slice none 0 0,.slice none 0 0] 27 (0,0)) ab.o hg (Kd.OC bv.o ab.o d_));replace aE:=A_ (Kd.qH aE.o (Kd.FY bv.o) d_ hg);replace ai:=A_ (qE (g:=af) (o:=.cells #[.int .i64 ax,.slice none 0 0,.slice aC ar.length aD] 27 (0,0)) ai.o hg (Kd.OC bv.o ai.o d_));replace aZ:=A_ (Kd.wY (ok:=(fun k_=>(J k_∨w.heap.size≤k_)∧some k_≠(.slice aC ar.length aD:Value).ownBlock∧k_≠aj∧k_≠ak∧k_≠af)) aZ.o hg hat);replace HB:=A_ (hb);have cg:=A_ (ho);clear bv ho hb hg hat;obtain⟨cD,bm,dn⟩:=Kd.wP cg.o
  (first|subst dn|(injection dn with fe fE fo;have fF:=fe.symm;have fG:=fo.symm;clear fe fE fo;subst fF;subst fG))
  refine hK.out _ _ ?_;clear hK K;refine nm_ 41 ?_;refine pw_ 8 42 (mk_ 10 1023) a7 ?_;refine sZ (sP a7.o K_) ?_
  try go_wp2
  go_loopg [43] k (fun kq eY w'=>∃ (aw:Int) (au:List (List Int)) (aG:Value),eY=.int .i64 aw∧Aside0 (nA.l0 kq ao (ao.length:Int) aw ax au ar=some (r1,r2,r3,r4))∧Aside0 (kq≤k)∧Aside0 (Kd.N (Kd.slice 3 (Kd.int .i64)) 25 w' w.heap.size (fun k_=>(J k_∨w.heap.size≤k_)∧some k_≠(aG:Value).ownBlock∧some k_≠((.slice aC ar.length aD):Value).ownBlock∧k_≠aj∧k_≠ak∧k_≠af) (.slice cD ao.length bm) ao)∧Aside0 (Kd.V (Kd.slice 3 (Kd.int .i64)) 25 w' w.heap.size (fun k_=>(J k_∨w.heap.size≤k_)∧some k_≠((.slice cD ao.length bm):Value).ownBlock∧some k_≠(aG:Value).ownBlock∧some k_≠((.slice aC ar.length aD):Value).ownBlock∧k_≠aj∧k_≠ak∧k_≠af) (.slice (some br) am.length aU) am)∧Aside0 (Kd.S (Kd.slice 3 (Kd.int .i64)) 25 w' w.heap.size (fun k_=>(J k_∨w.heap.size≤k_)∧some k_≠((.slice cD ao.length bm):Value).ownBlock∧some k_≠((.slice aC ar.length aD):Value).ownBlock∧k_≠aj∧k_≠ak∧k_≠af) aG au)∧Aside0 (Kd.R (Kd.int .i64) 3 w' w.heap.size (fun k_=>(w.heap.size≤k_)) (.slice aC ar.length aD) ar)∧Aside0 (w'.heap[aj]? =some (.cells #[.int .i64 ax,(.slice (some br) am.length aU),(.slice (some aY) aq.length bf)] 27 (0,0)))∧Aside0 (w'.heap[ak]? =some (.cells #[.int .i64 0,(.slice none 0 0),(.slice none 0 0)] 27 (0,0)))∧Aside0 (w'.heap[af]? =some (.cells #[.int .i64 ax,aG,(.slice aC ar.length aD)] 27 (0,0)))∧Aside0 (Below w.heap.size w w'))
  case atStart=>exact⟨(0),(([]:List (List Int))),(.slice none 0 0),rf,H',⟨Nat.le_refl _⟩,⟨by exact Kd.rP cg.o (fun _ hk=>⟨hk.1,⟨(by simp[Value.ownBlock]),⟨hk.2.1,⟨hk.2.2.1,⟨hk.2.2.2.1,hk.2.2.2.2⟩⟩⟩⟩⟩)⟩,⟨by exact Kd.tq ae.o (fun _ hk=>⟨hk.1.1,⟨hk.2,⟨(by simp[Value.ownBlock]),⟨hk.1.2.1,⟨hk.1.2.2.1,⟨hk.1.2.2.2.1,hk.1.2.2.2.2⟩⟩⟩⟩⟩⟩)⟩,⟨by exact Kd.za _ _ _ _ _⟩,aE,aa,ab,ai,HB⟩
  case round=>
   clear H'
   clear aX b2 b4
   obtain⟨aw,au,aG,rfl,HA,dA,aQ,aA,al,an,aa,ab,ai,HB⟩:=hrel
   cases gk with
   |zero=>exact nz_ HA.o
   |succ k1=>
    have H:=HA.o;clear HA;simp only[nA.l0]at H
    replace H:=Hi_ H;rcases H with⟨co,H⟩|⟨co,H⟩
    ·replace ⟨dh,H⟩:=Hd_ H
     replace ⟨di,H⟩:=Hd_ H
     obtain⟨dw,bY⟩:=ex_ ((([]:List Int)):List Int);rw[←bY]at H;have db:=A_ bY;clear bY
     have H':=A_ H
     clear H
     have b3:0≤(aw:Int):=oa_
     have b5:aw<(ao.length:Int):=oa_
     obtain⟨be,cB,cE,d5,bK,bJ,bH⟩:=qM (Kd.wX aQ.o).2.2 aw b3 b5
     cases d5
     obtain⟨iJ,fM,fO,fC⟩:=Kd.Px aQ.o [] aw b3 (by exact b5);obtain⟨gL,gM,rfl,b_,cu⟩:=Kd.zU fO;have bU:=fC 0 _ rfl;rw[Nat.add_zero,show((Kd.slice 3 (Kd.int .i64))).sz=1 from rfl,Nat.mul_one]at bU;replace bU:=Option.some.inj (bU.symm.trans bK)
     injection bU with fA fK fB
     rw[fA]at cu;rw[fB]at b_;have aK:=A_ (show Kd.V (Kd.int .i64) 3 _ w.heap.size _ _ (f_ ao aw)from Kd.ML b_ cu);clear fA fK fB cu b_ fC fM;have bc:=A_ bH;have dz:=A_ bJ;clear bH bJ;replace b3:=eq_true b3;replace b5:=eq_true b5
     go_wp2_with (first|((with_reducible refine gd_ 47 rfl ?_);refine RL_ 47 3 [] [] rfl rfl (by go_simp;done) rfl rfl ?_;rintro eU jD bz hb - -;(rw[←db.o]at bz);replace aQ:=A_ (Kd.Mt aQ.o (Kd.nW bz) hb);replace aA:=A_ (Kd.yB aA.o (Kd.nW bz) hb);replace al:=A_ (Kd.rz al.o (Kd.nW bz) hb);replace aK:=A_ (Kd.yB aK.o (Kd.nW bz) hb);have cU:=A_ (Kd.nE (Kd.qF (Kd.Af (M:=fun k_=>(w.heap.size≤k_)) bz (mK HB.o) (fun k_ h_=>h_)) (Kd.oV an.o)) (mK HB.o));replace an:=A_ (Kd.oz an.o (Kd.nW bz) hb);replace aa:=bb_ aa hb;replace ab:=bb_ ab hb;replace ai:=bb_ ai hb;replace bc:=A_ (Kd.mO (by repeat (first|(with_reducible exact bc.o)|(with_reducible refine Kd.C_alloc ?_ _)|(with_reducible refine Kd.oH ?_ _)|(with_reducible refine Kd.pG ?_)|exact bc.o)) hb);replace HB:=bs_ HB hb;clear hb bz))
     go_loopg [7,50] k1 (fun kq v7 eZ w'=>∃ (bn:List Int) (aT:Int),eZ=.int .i64 aT∧Aside0 (nA.l1 kq bn ao (ao.length:Int) aw (f_ ao aw) ((f_ ao aw).length:Int) aT ax au ar=some (r1,r2,r3,r4))∧Aside0 (kq≤k1)∧Aside0 (Kd.R (Kd.int .i64) 3 w' w.heap.size (fun k_=>(w.heap.size≤k_)∧some k_≠((.slice aC ar.length aD):Value).ownBlock) v7 bn)∧Aside0 (Kd.N (Kd.slice 3 (Kd.int .i64)) 25 w' w.heap.size (fun k_=>(J k_∨w.heap.size≤k_)∧some k_≠(v7:Value).ownBlock∧some k_≠(aG:Value).ownBlock∧some k_≠((.slice aC ar.length aD):Value).ownBlock∧k_≠aj∧k_≠ak∧k_≠af) (.slice (some be) ao.length bm) ao)∧Aside0 (Kd.V (Kd.slice 3 (Kd.int .i64)) 25 w' w.heap.size (fun k_=>(J k_∨w.heap.size≤k_)∧some k_≠(v7:Value).ownBlock∧some k_≠((.slice (some be) ao.length bm):Value).ownBlock∧some k_≠(aG:Value).ownBlock∧some k_≠((.slice aC ar.length aD):Value).ownBlock∧k_≠aj∧k_≠ak∧k_≠af) (.slice (some br) am.length aU) am)∧Aside0 (Kd.S (Kd.slice 3 (Kd.int .i64)) 25 w' w.heap.size (fun k_=>(J k_∨w.heap.size≤k_)∧some k_≠(v7:Value).ownBlock∧some k_≠((.slice (some be) ao.length bm):Value).ownBlock∧some k_≠((.slice aC ar.length aD):Value).ownBlock∧k_≠aj∧k_≠ak∧k_≠af) aG au)∧Aside0 (Kd.R (Kd.int .i64) 3 w' w.heap.size (fun k_=>(w.heap.size≤k_)∧some k_≠(v7:Value).ownBlock) (.slice aC ar.length aD) ar)∧Aside0 (w'.heap[aj]? =some (.cells #[.int .i64 ax,(.slice (some br) am.length aU),(.slice (some aY) aq.length bf)] 27 (0,0)))∧Aside0 (w'.heap[ak]? =some (.cells #[.int .i64 0,(.slice none 0 0),(.slice none 0 0)] 27 (0,0)))∧Aside0 (w'.heap[af]? =some (.cells #[.int .i64 ax,aG,(.slice aC ar.length aD)] 27 (0,0)))∧Aside0 (Below w.heap.size w w')∧Aside0 (Kd.V (Kd.int .i64) 3 w' w.heap.size (fun k_=>True∧some k_≠(v7:Value).ownBlock) (.slice cB (f_ ao aw).length cE) (f_ ao aw)))
     case atStart=>exact⟨(dw),(0),rf,H',⟨Nat.le_refl _⟩,⟨by exact Kd.mM cU.o (fun _ hk=>⟨hk.1.1,hk.2⟩)⟩,⟨by exact Kd.rP aQ.o (fun _ hk=>⟨hk.1.1,⟨hk.2,⟨hk.1.2.1,⟨hk.1.2.2.1,⟨hk.1.2.2.2.1,⟨hk.1.2.2.2.2.1,hk.1.2.2.2.2.2⟩⟩⟩⟩⟩⟩)⟩,⟨by exact Kd.tq aA.o (fun _ hk=>⟨hk.1.1,⟨hk.2,⟨hk.1.2.1,⟨hk.1.2.2.1,⟨hk.1.2.2.2.1,⟨hk.1.2.2.2.2.1,⟨hk.1.2.2.2.2.2.1,hk.1.2.2.2.2.2.2⟩⟩⟩⟩⟩⟩⟩)⟩,⟨by exact Kd.nV al.o (fun _ hk=>⟨hk.1.1,⟨hk.2,⟨hk.1.2.1,⟨hk.1.2.2.1,⟨hk.1.2.2.2.1,⟨hk.1.2.2.2.2.1,hk.1.2.2.2.2.2⟩⟩⟩⟩⟩⟩)⟩,an,aa,ab,ai,HB,⟨by exact Kd.tq aK.o (fun _ hk=>⟨trivial,hk.2⟩)⟩⟩
     case round=>
      clear H'
      clear co dh di bK b3 b5
      obtain⟨bn,aT,rfl,HA,dB,bw,aQ,aA,al,an,aa,ab,ai,HB,aK⟩:=hrel;have bc:=A_ (Kd.sJ aK.o).2.2
      cases gk with
      |zero=>exact nz_ HA.o
      |succ k2=>
       have H:=HA.o;clear HA;simp only[nA.l1]at H
       replace H:=Hi_ H;rcases H with⟨dj,H⟩|⟨dj,H⟩
       ·replace ⟨el,H⟩:=Hd_ H
        replace ⟨em,H⟩:=Hd_ H
        replace ⟨cX,H⟩:=Ha_ H
        obtain⟨dx,bZ⟩:=ex_ ((bn++[wrap64 ((rd (f_ ao aw) aT)+1)]):List Int);rw[←bZ]at H;have dd:=A_ bZ;clear bZ
        have H':=A_ H
        clear H
        have cJ:0≤(aT:Int):=oa_
        have cL:aT<((f_ ao aw).length:Int):=oa_
        obtain⟨eg,d6,dR⟩:=Kd.nM bc.o aT cJ cL
        cases d6
        replace cJ:=eq_true cJ;replace cL:=eq_true cL
        go_wp2_with (first|((with_reducible refine nG (b:=.append) (xs:= #[.tmp 54,.tmp 57]) rfl ?_);at_builtin;refine Kd.qG (Kd.int .i64) (w0:=w) w.heap.size rfl (.tmp 54) (.tmp 57) 25 3 (.int .i64 0) 8 rfl Try.underlying25 info3 rfl d_ om u7 bn (wrap64 ((rd (f_ ao aw) aT)+1)) [.int .i64 (wrap64 ((rd (f_ ao aw) aT)+1))] (fun k_=>(w.heap.size≤k_)∧some k_≠(.slice aC ar.length aD:Value).ownBlock) (fun _=>False) rfl rfl ?aP (fun _ hk=>hk.elim) ?aF ?aO ?aB ?aS ?aL ?_;(case aP=>exact rfl);(case aB=>exact HB.o);(case aF=>exact(fun k_ hk=>⟨(Nat.le_trans (mK HB.o) hk),Kd.fresh' (Kd.oV an.o) k_ hk⟩));(case aO=>exact bw.o);(case aS=>exact(mK HB.o));(case aL=>have:=cX.o;omega);intro eV jE ho hb hg hat;rw[←dd.o]at ho;have iK:=A_ (Kd.wY (ok:=(fun k_=>True)) aK.o hg hat);clear aK;have aK:=iK;clear iK;replace aQ:=A_ (Kd.Ih (ok:=(fun k_=>(J k_∨w.heap.size≤k_)∧some k_≠(aG:Value).ownBlock∧some k_≠(.slice aC ar.length aD:Value).ownBlock∧k_≠aj∧k_≠ak∧k_≠af)) (by exact Kd.rP aQ.o (fun _ hk=>⟨⟨hk.1,⟨hk.2.2.1,⟨hk.2.2.2.1,⟨hk.2.2.2.2.1,⟨hk.2.2.2.2.2.1,hk.2.2.2.2.2.2⟩⟩⟩⟩⟩,hk.2.1⟩)) hg hat);replace aA:=A_ (Kd.wY (ok:=(fun k_=>(J k_∨w.heap.size≤k_)∧some k_≠(.slice (some be) ao.length bm:Value).ownBlock∧some k_≠(aG:Value).ownBlock∧some k_≠(.slice aC ar.length aD:Value).ownBlock∧k_≠aj∧k_≠ak∧k_≠af)) (by exact Kd.tq aA.o (fun _ hk=>⟨⟨hk.1,⟨hk.2.2.1,⟨hk.2.2.2.1,⟨hk.2.2.2.2.1,⟨hk.2.2.2.2.2.1,⟨hk.2.2.2.2.2.2.1,hk.2.2.2.2.2.2.2⟩⟩⟩⟩⟩⟩,hk.2.1⟩)) hg hat);replace al:=A_ (Kd.sF (ok:=(fun k_=>(J k_∨w.heap.size≤k_)∧some k_≠(.slice (some be) ao.length bm:Value).ownBlock∧some k_≠(.slice aC ar.length aD:Value).ownBlock∧k_≠aj∧k_≠ak∧k_≠af)) (by exact Kd.nV al.o (fun _ hk=>⟨⟨hk.1,⟨hk.2.2.1,⟨hk.2.2.2.1,⟨hk.2.2.2.2.1,⟨hk.2.2.2.2.2.1,hk.2.2.2.2.2.2⟩⟩⟩⟩⟩,hk.2.1⟩)) hg hat);replace an:=A_ (Kd.pq (ok:=(fun k_=>(w.heap.size≤k_))) an.o hg hat);replace aa:=gR_ bw aa hg;replace ab:=gR_ bw ab hg;replace ai:=gR_ bw ai hg;replace HB:=A_ (hb);have cV:=A_ (ho);clear bw;clear ho hb hg hat))
        go_roundg k2
        case measure=>have:=dA.o;have:=dB.o;omega
        case rel=>exact⟨(dx),(wrap64 (aT+1)),rf,H',⟨by have:=dA.o;have:=dB.o;omega⟩,cV,⟨by exact Kd.rP aQ.o (fun _ hk=>⟨hk.1.1,⟨hk.2,⟨hk.1.2.1,⟨hk.1.2.2.1,⟨hk.1.2.2.2.1,⟨hk.1.2.2.2.2.1,hk.1.2.2.2.2.2⟩⟩⟩⟩⟩⟩)⟩,⟨by exact Kd.tq aA.o (fun _ hk=>⟨hk.1.1,⟨hk.2,⟨hk.1.2.1,⟨hk.1.2.2.1,⟨hk.1.2.2.2.1,⟨hk.1.2.2.2.2.1,⟨hk.1.2.2.2.2.2.1,hk.1.2.2.2.2.2.2⟩⟩⟩⟩⟩⟩⟩)⟩,⟨by exact Kd.nV al.o (fun _ hk=>⟨hk.1.1,⟨hk.2,⟨hk.1.2.1,⟨hk.1.2.2.1,⟨hk.1.2.2.2.1,⟨hk.1.2.2.2.2.1,hk.1.2.2.2.2.2⟩⟩⟩⟩⟩⟩)⟩,an,aa,ab,ai,HB,aK⟩
       replace ⟨cY,H⟩:=Ha_ H
       obtain⟨bD,b1⟩:=ex_ ((au++[bn]):List (List Int));rw[←b1]at H;have de:=A_ b1;clear b1
       have H':=A_ H
       clear H;have ep:=ay.o;have eF:=ag.o;have eq:=az.o;have eG:=ap.o;have dN:=bq3 ai.o;obtain⟨b6,b7,d9⟩:=Kd.mU bw.o;subst d9
       go_wp2_with (first|((with_reducible refine nG (b:=.append) (xs:= #[.tmp 61,.tmp 63]) rfl ?_);at_builtin;refine Kd.uq (Kd.slice 3 (Kd.int .i64)) (w0:=w) w.heap.size rfl (.tmp 61) (.tmp 63) 24 25 (.slice none 0 0) 24 rfl Try.underlying24 uO rfl d_ om aG au bn [.slice b6 bn.length b7] (fun k_=>(J k_∨w.heap.size≤k_)∧some k_≠(.slice (some be) ao.length bm:Value).ownBlock∧some k_≠(.slice aC ar.length aD:Value).ownBlock∧k_≠aj∧k_≠ak∧k_≠af) (fun k_=>some k_=(.slice b6 bn.length b7:Value).ownBlock) rfl rfl ?aP (fun k_ fT=>((Kd.mM (ok':=(fun k_=>((fun k_=>(J k_∨w.heap.size≤k_)∧some k_≠(.slice (some be) ao.length bm:Value).ownBlock∧some k_≠(.slice aC ar.length aD:Value).ownBlock∧k_≠aj∧k_≠ak∧k_≠af)) k_∧some k_≠(aG:Value).ownBlock)) (Kd.qi (Kd.qi (Kd.qi (Kd.pE (Kd.pE (bw.o) (Kd.FY aQ.o) d_) (Kd.oL al.o) d_) aa.o d_) ab.o d_) ai.o d_) (fun k_ hk=>⟨⟨(.inr (hk.1.1.1.1.1.1)),⟨hk.1.1.1.1.2,⟨hk.1.1.1.1.1.2,⟨hk.1.1.2,⟨hk.1.2,hk.2⟩⟩⟩⟩⟩,hk.1.1.1.2⟩))).1 k_ fT.symm) ?aF ?aO ?aB ?aS ?aL ?_;(case aP=>exact Kd.uR (Kd.mM (Kd.sD rfl (Kd.mM (ok':=(fun k_=>((fun k_=>(J k_∨w.heap.size≤k_)∧some k_≠(.slice (some be) ao.length bm:Value).ownBlock∧some k_≠(.slice aC ar.length aD:Value).ownBlock∧k_≠aj∧k_≠ak∧k_≠af)) k_∧some k_≠(aG:Value).ownBlock)) (Kd.qi (Kd.qi (Kd.qi (Kd.pE (Kd.pE (bw.o) (Kd.FY aQ.o) d_) (Kd.oL al.o) d_) aa.o d_) ab.o d_) ai.o d_) (fun k_ hk=>⟨⟨(.inr (hk.1.1.1.1.1.1)),⟨hk.1.1.1.1.2,⟨hk.1.1.1.1.1.2,⟨hk.1.1.2,⟨hk.1.2,hk.2⟩⟩⟩⟩⟩,hk.1.1.1.2⟩))) (fun _ h_=>h_)));(case aB=>exact HB.o);(case aF=>exact(fun k_ hk=>⟨(.inr (Nat.le_trans (mK HB.o) hk)),Kd.fresh' (Kd.Oi aQ.o) k_ hk,Kd.fresh' (Kd.oV an.o) k_ hk,Kd.uB aa.o k_ hk,Kd.uB ab.o k_ hk,Kd.uB ai.o k_ hk⟩));(case aO=>exact(by exact Kd.nV al.o (fun k_ hk=>⟨⟨hk.1,⟨hk.2.2.1,⟨hk.2.2.2.1,⟨hk.2.2.2.2.1,⟨hk.2.2.2.2.2.1,hk.2.2.2.2.2.2⟩⟩⟩⟩⟩,fun e_=>hk.2.1 e_⟩)));(case aS=>exact(mK HB.o));(case aL=>have:=cY.o;omega);intro eX jF ho hb hg hat;rw[←de.o]at ho;replace aQ:=A_ (Kd.Ih (ok:=(fun k_=>(J k_∨w.heap.size≤k_)∧some k_≠(.slice b6 bn.length b7:Value).ownBlock∧some k_≠(.slice aC ar.length aD:Value).ownBlock∧k_≠aj∧k_≠ak∧k_≠af)) (by exact Kd.rP aQ.o (fun _ hk=>⟨⟨hk.1,⟨hk.2.1,⟨hk.2.2.2.1,⟨hk.2.2.2.2.1,⟨hk.2.2.2.2.2.1,hk.2.2.2.2.2.2⟩⟩⟩⟩⟩,hk.2.2.1⟩)) hg hat);replace aA:=A_ (Kd.wY (ok:=(fun k_=>(J k_∨w.heap.size≤k_)∧some k_≠(.slice b6 bn.length b7:Value).ownBlock∧some k_≠(.slice (some be) ao.length bm:Value).ownBlock∧some k_≠(.slice aC ar.length aD:Value).ownBlock∧k_≠aj∧k_≠ak∧k_≠af)) (by exact Kd.tq aA.o (fun _ hk=>⟨⟨hk.1,⟨hk.2.1,⟨hk.2.2.1,⟨hk.2.2.2.2.1,⟨hk.2.2.2.2.2.1,⟨hk.2.2.2.2.2.2.1,hk.2.2.2.2.2.2.2⟩⟩⟩⟩⟩⟩,hk.2.2.2.1⟩)) hg hat);replace an:=A_ (Kd.qH an.o (Kd.oL al.o) d_ hg);replace aa:=gS_ al aa hg;replace ab:=gS_ al ab hg;replace ai:=gS_ al ai hg;replace HB:=A_ (hb);have ch:=A_ (ho);clear al bw;clear ho hb hg hat;obtain⟨bM,bR,eb⟩:=Kd.rO ch.o;subst eb;have dO:=bq3 ai.o))
       go_roundg k2
       case measure=>have:=dA.o;have:=dB.o;omega
       case rel=>exact⟨(wrap64 (aw+1)),(bD),(.slice bM bD.length bR),rf,H',⟨by have:=dA.o;have:=dB.o;omega⟩,⟨by exact Kd.rP (Kd.zY (p:=⟨af,1,none⟩) (Kd.rP aQ.o (fun k_ hk=>(⟨hk,hk.1.2.2.2.2.2⟩:_∧k_≠af))) (fun _ hk=>hk.2) (.slice bM bD.length bR)) (fun _ hk=>⟨hk.1.1.1,⟨hk.1.2,⟨hk.1.1.2.2.1,⟨hk.1.1.2.2.2.1,⟨hk.1.1.2.2.2.2.1,hk.1.1.2.2.2.2.2⟩⟩⟩⟩⟩)⟩,⟨by exact Kd.tq (Kd.D_ (p:=⟨af,1,none⟩) (Kd.tq aA.o (fun k_ hk=>(⟨hk,hk.1.2.2.2.2.2.2⟩:_∧k_≠af))) (fun _ hk=>hk.2) (.slice bM bD.length bR)) (fun _ hk=>⟨hk.1.1.1,⟨hk.1.1.2.2.1,⟨hk.1.2,⟨hk.1.1.2.2.2.1,⟨hk.1.1.2.2.2.2.1,⟨hk.1.1.2.2.2.2.2.1,hk.1.1.2.2.2.2.2.2⟩⟩⟩⟩⟩⟩)⟩,⟨by exact Kd.nV (Kd.vW (p:=⟨af,1,none⟩) (Kd.nV ch.o (fun k_ hk=>(⟨hk,hk.2.2.2.2.2⟩:_∧k_≠af))) (fun _ hk=>hk.2) (.slice bM bD.length bR)) (fun _ hk=>⟨hk.1.1,⟨hk.1.2.1,⟨hk.1.2.2.1,⟨hk.1.2.2.2.1,⟨hk.1.2.2.2.2.1,hk.1.2.2.2.2.2⟩⟩⟩⟩⟩)⟩,⟨by exact Kd.mM (Kd.sM (p:=⟨af,1,none⟩) (Kd.qi an.o ai.o d_) (fun _ hk=>hk.2) (.slice bM bD.length bR)) (fun _ hk=>hk.1.1)⟩,⟨by exact fa_ ag aa.o⟩,⟨by exact fa_ ap ab.o⟩,⟨by exact pu_ 1 ai.o rfl⟩,⟨wb_⟩⟩
    by_cases fP:0<au.length
    case neg=>rw[if_neg fP]at H;cases H
    rw[if_pos fP]at H
    by_cases fQ:0<(au.getD 0 []).length
    case neg=>rw[if_neg fQ]at H;cases H
    rw[if_pos fQ]at H;simp only[Option.some.injEq,Prod.mk.injEq]at H;obtain⟨rfl,rfl,rfl,rfl⟩:=H;have ew:=ay.o;have eH:=ag.o;have ez:=az.o;have eI:=ap.o;have bE:=bq3 ai.o;have eB:=aI.o;have eJ:=aH.o;have bF:=bq3 ab.o;obtain⟨eO,dY,ec⟩:=Kd.rO al.o;subst ec;obtain⟨gr,g0,mz,cz,eA,hmz,hcr,⟨uz,hce⟩,hfe,hfr,hok0,ig,hS,fD⟩:=NJ al.o fP fQ 0;subst eA;have iL:=A_ hce;have iM:=A_ hfe;clear hce hfe
    go_wp2_with (first|((with_reducible refine qz (t:=3) (p:=71) rfl ?_);refine qa ?hg ?ho ?hN (t:=3) (p:=71) (v:=?vo) (w1:=?w1) ?hr ?_;(case ho=>rfl);(case hg=>rfl);(case hN=>rfl);(case hr=>(have iY:=iL.o;have iZ:=iM.o;(go_simp;rfl)));intro jG eT;clear bE bF;have ik:=(Kd.S_N hS);rw[←eT]at ik;have ja:=A_ ik;clear ik;have il:=(Kd.mM (Kd.Bn (Kd.Eb rfl an.o) fD (fun k hk he=>hok0.2.2.1 (he.symm.trans hk.1))) (fun _ h=>h.2));rw[←eT]at il;have jb:=A_ il;clear il;have iq:=(pQ (p:=⟨g0,0,none⟩) aa.o (Ne.symm hok0.2.2.2.1) (.int .i64 0));rw[←eT]at iq;have jc:=A_ iq;clear iq;have iw:=(pQ (p:=⟨g0,0,none⟩) ab.o (Ne.symm hok0.2.2.2.2.1) (.int .i64 0));rw[←eT]at iw;have jd:=A_ iw;clear iw;have iy:=(pQ (p:=⟨g0,0,none⟩) ai.o (Ne.symm hok0.2.2.2.2.2) (.int .i64 0));rw[←eT]at iy;have je:=A_ iy;clear iy;have iA:=(mY (g:=g0) (j:=0) (v:=.int .i64 0) HB.o ig);rw[←eT]at iA;have jf:=A_ iA;clear iA al an aa ab ai HB;revert ja jb jc jd je jf;intro al an aa ab ai HB;clear eT hcr hfr iL iM hS fD;have bE:=bq3 ai.o;have bF:=bq3 ab.o))
    refine rt_ #[.int .i64 ax,.slice (some ⟨gr,0,none⟩) au.length dY,.slice aC ar.length aD] (by exact pu_ 2 (pu_ 1 (pu_ 0 ab.o rfl) rfl) rfl) Try.underlying27 ?_;exact⟨_,_,rf,by exact Kd.rP (KG (Kd.rP al.o (fun k_ hk=>(⟨hk,hk.2.2.2.2.1⟩:_∧k_≠ak)))) (fun _ hk=>⟨hk.1.1,hk.1.2.2.1⟩),by exact Kd.mM (xe (tR_ an ab)) (fun _ hk=>hk.1),wb_⟩
 simp only[Option.some.injEq,Prod.mk.injEq]at H;obtain⟨rfl,rfl,rfl,rfl⟩:=H;go_enter Try.func56,Try.ntmps56
 go_wp2_with (first|((with_reducible refine gt_ 1 ?_);refine be_ 1 #[.int .i64 ax,.slice bj am.length aU,.slice bL aq.length bf] 27 ?_;intro aj hg jH U hb;replace ae:=A_ (Kd.rX (Kd.sU ae.o aj (Nat.le_of_eq hg.symm)) hb);have aa:=A_ (U);have bN:=lh_ HB hg;have a8:=lh_ HB hg;replace HB:=bs_ HB hb;clear hb U hg)|((with_reducible refine gt_ 2 ?_);refine be_ 2 #[.int .i64 0,.slice none 0 0,.slice none 0 0] 27 ?_;intro ak hg jI U hb;replace ae:=A_ (Kd.rX (Kd.sU ae.o ak (Nat.le_of_eq hg.symm)) hb);have ab:=A_ (U);have bO:=lh_ HB hg;have a9:=lh_ HB hg;replace HB:=bs_ HB hb;have aH:=nl_ aa hg;have aI:=ng_ aa hg;replace aa:=bb_ aa hb;clear hb U hg;have eC:=aH.o;have eK:=aI.o;have dP:=bq3 aa.o)|((with_reducible refine gc_ 30 rfl ?_);refine cM_ E30 11 (ng.calls k ax _ _ am _ _ aq false _ ((Kd.sJ ae.o).2.2) ((Kd.sJ ae.o).2.1) (Kd.mO aW.o HB.o) bk.o A2.o) ?_;rintro e jJ ⟨rfl,hb⟩;refine⟨_,rfl,?_⟩;replace ae:=A_ (Kd.rX ae.o hb);replace aa:=bb_ aa hb;replace ab:=bb_ ab hb;replace HB:=bs_ HB hb;clear hb;have dQ:=bq3 ab.o))
 refine rt_ #[.int .i64 0,.slice none 0 0,.slice none 0 0] (by exact pu_ 2 (pu_ 1 (pu_ 0 ab.o rfl) rfl) rfl) Try.underlying27 ?_;exact⟨_,_,rf,by exact Kd.Lf _ _ _ _ _,by exact Kd.sI _ _ _ _ _,wb_⟩
set_option maxHeartbeats 8000000
set_option maxRecDepth 100000
open Go.Maps in
section
def xy (k:List UInt8):List (List UInt8)→Option Nat
 |[]=>none
 |x::S=>if x=k then some S.length else xy k S
def u_ (acc:List Int×List (List UInt8)) (k:List UInt8):List Int×List (List UInt8):=match xy k acc.2 with|some i=>(acc.1++[(i:Int)],acc.2)|none=>(acc.1++[(acc.2.length:Int)],k::acc.2)
def si (ks:List (List UInt8)):List Int×List (List UInt8):=ks.foldl u_ ([],[])
def AY:List Int→List Int
 |[]=>[]
 |x::l=>(x % 256)::((x / 256) % 256)::AY l
def wD (row:List Int):List UInt8:=(AY row).map fun n=>UInt8.ofNat n.toNat
def DSr {H:Type}:List (List UInt8)→DataW H
 |[]=>.map []
 |k::S=>(DSr S).put (.string k) (.lit (.int .i64 (S.length:Int)))
theorem Cj {k:List UInt8}:∀{S:List (List UInt8)},xy k S=none↔k∉S
 |[]=>by simp[xy]
 |x::S=>by
  unfold xy;split
  ·rename_i e;simp[e]
  rename_i e;rw[Cj];simp[Ne.symm e]
theorem MQ {k:List UInt8}:∀{S:List (List UInt8)} {i:Nat},xy k S=some i→i<S.length
 |[],i,h=>by simp[xy]at h
 |x::S,i,h=>by
  unfold xy at h;split at h
  ·cases h;simp
  have:=MQ h;simp;omega
theorem JE (b:List UInt8):WideAt.IsKeyLit (.string b):=trivial
theorem Cb {H:Type}:∀S:List (List UInt8),IsMap (DSr (H:=H) S)
 |[]=>isMap_empty
 |k::S=>(Cb S).put _ _
theorem MH {a b:List UInt8} (h:a≠b):Lit.string b≠Lit.string a:=fun e=>h (by injection e with e;exact e.symm)
theorem Dg {H:Type} (k:List UInt8):∀S:List (List UInt8),Maps.has (DSr (H:=H) S) (.string k)=(xy k S).isSome
 |[]=>rfl
 |x::S=>by
  unfold DSr xy
  by_cases e:x=k
  ·subst e;rw[if_pos rfl,has_put_same (Cb S) (JE _)];rfl
  rw[if_neg e,has_put_other (MH e),Dg k S]
theorem I9 {H:Type} (k:List UInt8):∀ (S:List (List UInt8)) (i:Nat),xy k S=some i→(DSr (H:=H) S).atKey (.string k) (.lit (.int .i64 0))=.lit (.int .i64 (i:Int))
 |[],i,hi=>by simp[xy]at hi
 |x::S,i,hi=>by
  unfold xy at hi;unfold DSr
  by_cases e:x=k
  ·subst e;rw[if_pos rfl]at hi;cases hi;rw[atKey_put_same (Cb S) (JE _)]
  rw[if_neg e]at hi;rw[atKey_put_other (MH e)];exact I9 k S i hi
theorem Ia {H:Type}:∀S:List (List UInt8),Tidy (DSr (H:=H) S)
 |[]=>tidy_empty
 |x::S=>(Ia S).put (JE _) _
theorem Ed {H:Type}:∀S:List (List UInt8),S.Nodup→Maps.size (DSr (H:=H) S)=S.length
 |[],_=>rfl
 |x::S,hn=>by
  have hn':=List.nodup_cons.1 hn
  unfold DSr;rw[size_put (Ia S),Dg x S,Cj.2 hn'.1,Ed S hn'.2];rfl
theorem yO (ks:List (List UInt8)) (k:List UInt8):si (ks++[k])=u_ (si ks) k:=by simp[si,List.foldl_append]
theorem CQ (ks:List (List UInt8)):(si ks).2.Nodup:=by
 have:∀ (ks:List (List UInt8)) (acc:List Int×List (List UInt8)),acc.2.Nodup→(ks.foldl u_ acc).2.Nodup:=by
  intro ks
  induction ks with
  |nil=>intro acc h;exact h
  |cons k ks ih=>
   intro acc h;refine ih _ ?_;unfold u_
   split
   ·exact h
   rename_i e;exact List.nodup_cons.2 ⟨Cj.1 e,h⟩
 exact this ks _ List.nodup_nil
theorem KV (acc:List Int×List (List UInt8)) (k:List UInt8):(u_ acc k).1.length=acc.1.length+1∧(u_ acc k).2.length≤acc.2.length+1:=by
 unfold u_
 split<;>simp
theorem Fs (ks:List (List UInt8)):(si ks).1.length=ks.length∧(si ks).2.length≤ks.length:=by
 have:∀ (ks:List (List UInt8)) (acc:List Int×List (List UInt8)),(ks.foldl u_ acc).1.length=acc.1.length+ks.length∧(ks.foldl u_ acc).2.length≤acc.2.length+ks.length:=by
  intro ks
  induction ks with
  |nil=>intro acc;simp
  |cons k ks ih=>intro acc;have h1:=ih (u_ acc k);have h2:=KV acc k;simp only[List.foldl_cons,List.length_cons];omega
 have h:=this ks ([],[]);simp only[List.length_nil]at h;exact⟨by have:=h.1;unfold si;omega,by have:=h.2;unfold si;omega⟩
theorem yg:∀row:List Int,(AY row).length=2*row.length
 |[]=>rfl
 |x::l=>by simp[AY,yg l];omega
theorem Fp:∀ (l:List Int) (x:Int),AY (l++[x])=AY l++[x % 256,(x / 256) % 256]
 |[],x=>rfl
 |y::l,x=>by simp[AY,Fp l x]
end
def r_.l0:Nat→List Int→List Int→Int→Int→Option (List Int)
 |0,_,_,_,_=>none
 |k+1,x8,cQ,dL,bI=>if bI<dL then(if 0≤bI then(if bI<(cQ.length:Int)then((some (([(rd cQ bI) % 256,((rd cQ bI) / 256) % 256]:List Int):List Int)).bind fun aw=>(if x8.length+aw.length<140737488355328 then(r_.l0 k (x8++aw) cQ dL (wrap64 (bI+1)))else(none)))else(none))else(none))else(some x8)
def r_.f (k:Nat) (l0:List Int):Option (List Int):=r_.l0 k (([]:List Int)) l0 (l0.length:Int) 0
theorem Jn (row:List Int) (hn:row.length≤64) (d:Nat):∀i:Nat,i+d=row.length→r_.l0 (d+1) (AY (row.take i)) row (row.length:Int) (i:Int)=some (AY row):=by
 have hw:∀i:Nat,i<100→wrap64 ((i:Int)+1)=((i+1:Nat):Int):=fun i h=>by unfold wrap64;omega
 induction d with
 |zero=>
  intro i hi;simp only[r_.l0];rw[if_neg om,List.take_of_length_le om]
 |succ d ih=>
  intro i hi;have hl:=yg (row.take i);rw[List.length_take]at hl;rw[r_.l0,if_pos om,if_pos om,if_pos om,Option.bind_some,if_pos (by simp only[List.length_cons,List.length_nil];omega),hw i om,←Fp]
  have:row.take i++[rd row (i:Int)]=row.take (i+1):=by
   have hr:rd row (i:Int)=row[i]'(om):=by simp[rd,List.getD_eq_getElem?_getD,List.getElem?_eq_getElem (show i<row.length by omega)]
   rw[hr,List.take_succ_eq_append_getElem om]
  rw[this];exact ih (i+1) om
theorem Gc (row:List Int) (hn:row.length≤64):r_.f (row.length+1) row=some (AY row):=by
 unfold r_.f;exact Jn row hn row.length 0 om
theorem xL {H:Type} {P:Program} {k:TypeId} {R:Value→Option (DataW H×List MemPlace)} {w w':World} {b n:Nat} {D:DataW H} (h:w.ownsMap P k R b n D) (hb:Below w.heap.size w w'):w'.ownsMap P k R b n D:=by
 have hlt:=h.lt;obtain⟨es,clock,hbk,F,hs,hD⟩:=h;exact⟨es,clock,(hb.block b hlt).trans hbk,F,hs,hD⟩
theorem xW {α:Type} {d:Kd α} {H:Type} {P:Program} {k:TypeId} {R:Value→Option (DataW H×List MemPlace)} {w:World} {b n e base:Nat} {D:DataW H} {ok:Nat→Prop} {v:Value} {xs:List α} (h:w.ownsMap P k R b n D) (hR:Kd.R d e w base ok v xs):some b≠v.ownBlock:=by
 intro he;obtain⟨cells,hc⟩:=Kd.tu hR b he.symm;obtain⟨es,clock,hbk,_⟩:=h;rw[hc]at hbk
 cases hbk
structure DK (w wr:World) (ks:List (List UInt8)) (v:Value):Prop where
 own:wr.ownsMap (H:=Unit) Try.prog 9 (plainElem Try.prog 3) w.heap.size ks.length (DSr (si ks).2)
 out:Kd.R (Kd.int .i64) 3 wr w.heap.size (fun _=>True) v (si ks).1
 below:Below w.heap.size w wr
theorem DK.move {w wr w1:World} {ks:List (List UInt8)} {v:Value} (h:DK w wr ks v) (hb:Below wr.heap.size wr w1):DK w w1 ks v:=
 ⟨xL h.own hb,Kd.nX h.out hb,nZ h.below hb⟩
theorem FU {w w1 w2:World} {b:Nat} (h:Below w.heap.size w w1) (hg:w1.grownBy w2 (some b)) (hb:w.heap.size≤b):Below w.heap.size w w2:=
 h.grown hg h.size (fun j hj=>by cases hj;exact hb)
theorem DK.new {w w1 w2 w3:World} {ks:List (List UInt8)} {k:List UInt8} {v v':Value} (h:DK w w1 ks v) (hp:xy k (si ks).2=none)
  (hown:w2.ownsMap (H:=Unit) Try.prog 9 (plainElem Try.prog 3) w.heap.size (ks.length+1) (DSr (k::(si ks).2))) (hg:w1.grownBy w2 (some w.heap.size))
  (ho:Kd.R (Kd.int .i64) 3 w3 w.heap.size (fun _=>True) v' ((si ks).1++[((si ks).2.length:Int)])) (hb:Below w.heap.size w w3) (hg3:w2.grownBy w3 v.ownBlock):DK w w3 (ks++[k]) v':=by
 have ho2:Kd.R (Kd.int .i64) 3 w2 w.heap.size (fun k=>some k=v.ownBlock) v (si ks).1:=Kd.Bn (Kd.sD rfl h.out) hg (fun j hj e=>xW h.own h.out (e.symm.trans hj))
 refine⟨?_,?_,hb⟩
 ·rw[yO,List.length_append]
  have:(u_ (si ks) k).2=k::(si ks).2:=by unfold u_;rw[hp]
  rw[this];exact hown.kept hg3 (xW hown ho2)
 rw[yO]
 have:(u_ (si ks) k).1=(si ks).1++[((si ks).2.length:Int)]:=by unfold u_;rw[hp]
 rw[this];exact ho
theorem DK.old {w w1 w3:World} {ks:List (List UInt8)} {k:List UInt8} {i:Nat} {v v':Value} (h:DK w w1 ks v) (hp:xy k (si ks).2=some i)
  (ho:Kd.R (Kd.int .i64) 3 w3 w.heap.size (fun _=>True) v' ((si ks).1++[(i:Int)])) (hb:Below w.heap.size w w3) (hg3:w1.grownBy w3 v.ownBlock):DK w w3 (ks++[k]) v':=by
 refine⟨?_,?_,hb⟩
 ·rw[yO,List.length_append]
  have:(u_ (si ks) k).2=(si ks).2:=by unfold u_;rw[hp]
  rw[this];exact(h.own.kept hg3 (xW h.own h.out)).mono (Nat.le_succ _)
 rw[yO]
 have:(u_ (si ks) k).1=(si ks).1++[(i:Int)]:=by unfold u_;rw[hp]
 rw[this];exact ho
theorem BH (w:World):(zeroValue 3).run Try.prog w=.ok (.int .i64 0) w:=K_
def rZ.f (l0:List (List Int)):Option (List Int×Int):=if l0.length≤64∧∀row∈l0,row.length≤64 then some ((si (l0.map wD)).1,((si (l0.map wD)).2.length:Int))else none
theorem EC {l0:List (List Int)} {r1:List Int} {r2:Int} (h:rZ.f l0=some (r1,r2)):l0.length≤64∧(∀row∈l0,row.length≤64)∧r1=(si (l0.map wD)).1∧r2=((si (l0.map wD)).2.length:Int):=by
 unfold rZ.f at h
 split at h
 ·rename_i hc
  injection h with h;injection h with h1 h2
  exact⟨hc.1,hc.2,h1.symm,h2.symm⟩
 cases h
theorem KW {l:List (List Int)} {j:Nat} (h:j<l.length):f_ l (j:Int)=l[j]:=by
 simp[f_,List.getD_eq_getElem?_getD,List.getElem?_eq_getElem h]
theorem rZ.calls (A0:Option Addr) (c0:Nat) (l0:List (List Int)) (r1:List Int) (r2:Int) (w:World) (hr0:Kd.C (Kd.slice 3 (Kd.int .i64)) w A0 l0.length l0) (hc0:l0.length≤c0) (h:rZ.f l0=some (r1,r2)):
  Calls Try.prog 76 #[.slice A0 l0.length c0] w fun e w'=>∃eH:Value,e=.returned (.tuple #[eH,.int .i64 r2])∧Kd.R (Kd.int .i64) 3 w' w.heap.size (fun _=>True) eH r1∧Below w.heap.size w w':=by
 obtain⟨hn,hrows,e1,e2⟩:=EC h;subst e1;subst e2;have eU:=A_ hr0;have eO:=A_ hrows;clear hr0 hc0 h hrows;have hmm:= @run_makeMap Try.prog;go_enter Try.func76,Try.ntmps76
 go_wp2_with (first|((with_reducible refine gd_ 14 rfl ?_);refine RL_ 14 3 [] [] rfl rfl (by go_simp;done) rfl rfl ?_;intro vO w0 hO hb fD eP;clear fD eP;have fu:=A_ (DK.mk (w:=w) (ks:=[]) (v:=vO) (xL (World.ownsMap_made w _ _ _) hb) (Kd.nE hO sp) (nZ (pI (Below.refl _ _) _) hb));clear hO hb))
 go_loopw [5,17] (fun v5 dW wr=>∃j:Nat,j≤l0.length∧dW=.int .i64 j∧Aside0 (DK w wr ((l0.take j).map wD) v5))
  (fun _ i _=>l0.length - (intOf i).toNat)
 case atStart=>exact⟨0,Nat.zero_le _,rfl,fu⟩
 case round=>
  obtain⟨j,hj,rfl,HN⟩:=hrel;clear fu
  by_cases hlt:j<l0.length
  rotate_left
  ·have fE:j=l0.length:=om
   subst fE;rw[List.take_length]at HN;have hsz:=Ed (H:=Unit) _ (CQ (l0.map wD));have hown1:=HN.o.own
   have eX:decide ((l0.length:Int)<(l0.length:Int))=false:=decide_eq_false om
   go_wp2_with ((with_reducible refine gt_ 61 ?_);at_len;refine wpList_len_own _ rfl _ 94 rfl 9 3 Try.underlying94 _ _ _ _ rfl hown1 ?_;rw[hsz])
   go_ret2
   exact⟨_,rfl,HN.o.out,HN.o.below⟩
  have bv:(0:Int)≤(j:Int):=om
  have bi:(j:Int)<(l0.length:Int):=om
  have eX:decide ((j:Int)<(l0.length:Int))=true:=decide_eq_true bi
  obtain⟨dF,AR,cR,dk,J,aM,aZ⟩:=qM eU.o (j:Int) bv bi
  cases dk
  replace J:=(HN.o.below.cell (World.block_lt_of_cell? w _ J)).trans J
  have hrw:f_ l0 (j:Int)=l0[j]:=KW hlt
  have hlen:=eO.o _ (List.getElem_mem hlt)
  have htk:(l0.take (j+1)).map wD=(l0.take j).map wD++[wD l0[j]]:=by rw[List.take_succ_eq_append_getElem hlt,List.map_append];rfl
  generalize hrow:l0[j]=row at hrw hlen htk
  have hkl:((l0.take j).map wD).length=j:=by simp;omega
  generalize hks:(l0.take j).map wD=ks at htk HN hkl
  clear hks;rw[hrw]at J aM aZ;rw[Int.toNat_natCast]at J;have fw:=A_ htk;have fF:=A_ (Kd.mO aZ HN.o.below);have fM:=A_ aM;clear aZ aM hrw htk hrow;replace bv:=eq_true bv;replace bi:=eq_true bi;obtain⟨wo,hwo⟩:∃wo,wo=wr:=⟨_,rfl⟩;subst hwo;obtain⟨fA,fG⟩:∃u,u=u5:=⟨_,rfl⟩;subst fG;obtain⟨rT,eY⟩:∃r,r=AY row:=⟨_,rfl⟩;have eZ:=A_ eY;obtain⟨kR,fB⟩:∃kR,kR=row.length+1:=⟨_,rfl⟩
  have hT:r_.f kR row=some rT:=by rw[fB,eY];exact Gc row hlen
  have fH:=A_ hlen;clear fB eY hlen;have U:=A_ (Below.refl wo.heap.size wo)
  have H:(r_.l0 kR (([]:List Int)) row (row.length:Int) 0)=some rT:=hT
  clear hT;obtain⟨cE,aJ⟩:=ex_ ((([]:List Int)):List Int);rw[←aJ]at H;have bW:=A_ aJ;clear aJ
  have H':=A_ H
  clear H
  go_wp2_with (first|((with_reducible refine gt_ 21 ?_);refine Kd.wF (Kd.int .u8) _ 5 ?hg (N:=21) ?hd (xs:=([]:List Int)) (inner:=[]) (ok:=fun _=>True) (okp:=fun _=>True) ?hr ?hp (fun _ hk=>hk) trivial (Below.refl _ _) (Nat.le_refl _) sp ?_;(case hd|hg=>rfl);(case hr=>go_simp;done);(case hp=>exact(qK.none _ _));rintro dX w2 ho3 hb - -;(rw[←bW.o]at ho3);have bL:=A_ (Kd.nE ho3 (mK U.o));replace U:=bs_ U hb;clear hb ho3))
  go_loopg [8,24] kR (fun kq v8 ec w'=>∃ (ao:List Int) (af:Int),ec=.int .i64 af∧Aside0 (r_.l0 kq ao row (row.length:Int) af=some rT)∧Aside0 (kq≤kR)∧Aside0 (Kd.R (Kd.int .u8) 5 w' wo.heap.size (fun _=>True) v8 ao)∧Aside0 (Below wo.heap.size wo w'))
  case atStart=>exact⟨(cE),(0),rf,H',⟨Nat.le_refl _⟩,bL,U⟩
  case round=>
   clear H';obtain⟨ao,af,rfl,HA,aG,ae,U⟩:=hrel
   cases gk with
   |zero=>exact nz_ HA.o
   |succ k1=>
    have H:=HA.o;clear HA;simp only[r_.l0]at H
    replace H:=Hi_ H;rcases H with⟨cZ,H⟩|⟨cZ,H⟩
    ·replace ⟨bm,H⟩:=Hd_ H
     replace ⟨da,H⟩:=Hd_ H
     replace ⟨aw,bX,H⟩:=Hs_ H
     replace ⟨cW,H⟩:=Ha_ H
     obtain⟨cF,aN⟩:=ex_ ((ao++aw):List Int);rw[←aN]at H;have bY:=A_ aN;clear aN
     have H':=A_ H
     clear H
     have bn:0≤(af:Int):=oa_
     have bw:af<(row.length:Int):=oa_
     obtain⟨dB,de,ar⟩:=Kd.nM fF.o af bn bw
     cases de
     replace ar:=cm_ U ar;replace bn:=eq_true bn;replace bw:=eq_true bw
     go_wp2_with (first|((with_reducible refine gt_ 34 ?_);refine Kd.wF (Kd.int .u8) _ 5 ?hg (N:=34) ?hd (xs:=([(rd row af) % 256,((rd row af) / 256) % 256]:List Int)) (inner:=[.int .u8 ((rd row af) % 256),.int .u8 (((rd row af) / 256) % 256)]) (ok:=fun _=>True) (okp:=fun _=>True) ?hr ?hp (fun _ hk=>hk) trivial (Below.refl _ _) (Nat.le_refl _) sp ?_;(case hd|hg=>rfl);(case hr=>go_simp;done);(case hp=>exact(qK.one (show Kd.M (Kd.int .u8) _ _ _ ((rd row af) % 256) [.int .u8 ((rd row af) % 256)]from rfl) (qK.one (show Kd.M (Kd.int .u8) _ _ _ (((rd row af) / 256) % 256) [.int .u8 (((rd row af) / 256) % 256)]from rfl) (qK.none _ _))));rintro dZ w8 eT hb - -;(rw[←bX.o]at eT);have ax:=A_ (Kd.nE (Kd.qF eT (Kd.oV ae.o)) (mK U.o));replace ae:=A_ (Kd.oz ae.o (Kd.nW eT) hb);replace U:=bs_ U hb;clear hb eT;obtain⟨cU,db,dm⟩:=Kd.mU ax.o;subst dm)|((with_reducible refine nG (b:=.append) (xs:= #[.tmp 28,.tmp 34]) rfl ?_);at_builtin;refine Kd.uU (Kd.int .u8) (w0:=wo) wo.heap.size rfl (.tmp 28) (.tmp 34) 22 5 (.int .u8 0) 1 rfl Try.underlying22 info5 rfl d_ om u8 ao aw _ _ _ (o1 (.slice cU aw.length db)) (fun _=>False) rfl rfl ?aO ?aR (fun _ _ hT=>hT) (fun _ hT=>hT.elim) ?aF ?aB ?aS ?aL ?_;(case aR=>exact(Kd.mX ax.o).2.2);(case aB=>exact U.o);(case aF=>exact(fun k_ hk=>Kd.fresh' (Kd.oV ax.o) k_ hk));(case aO=>exact(by exact Kd.mM ae.o (fun _ hk=>hk.2)));(case aS=>exact(mK U.o));(case aL=>have:=cW.o;omega);intro d4 fO ho hb hg hat;rw[←bY.o]at ho;replace ax:=A_ (Kd.pq (ok:=(fun _=>True)) ax.o hg hat);replace U:=A_ (hb);have bM:=A_ (ho);clear ae;clear ho hb hg hat))
     go_roundg k1
     case measure=>have:=aG.o;omega
     case rel=>exact⟨(cF),(wrap64 (af+1)),rf,H',⟨by have:=aG.o;omega⟩,⟨by exact Kd.mM bM.o (fun _ hk=>trivial)⟩,U⟩
    obtain rfl:=Option.some.inj H;clear aG;obtain⟨At,ct,et⟩:=Kd.mU ae.o;subst et;have a_:=A_ (HN.o.move U.o)
    have hBlt:w.heap.size<wo.heap.size:=HN.o.own.lt
    have hcv:=Kd.GM (P:=Try.prog) (src:=22) (dst:=9) (e:=5) (c:=ct) Try.underlying22 Try.underlying5 Try.underlying9 (Kd.mX ae.o).2.2
    have hkey:keyOf Try.prog 9 (.string (strOfNums ao))=some (.string (wD row)):=by
     have:=Go.WideMaps.keyOf_string_mk (P:=Try.prog) Try.underlying9 (s:=strOfNums ao) (by
      have h1:=(Kd.mX ae.o).1;rw[eZ.o,yg]at h1
      show(strOfNums ao).size≤9223372036854775807
      rw[eZ.o]
      simp[strOfNums,ByteArray.size,yg]
      have:=fH.o;omega)
     rw[this,eZ.o];rfl
    have hlo:=(Fs ks).1;rw[hkl]at hlo
    by_cases hp:xy (wD row) (si ks).2=none
    ·have hhas:Maps.has (DSr (H:=Unit) (si ks).2) (.string (wD row))=false:=by rw[Dg,hp];rfl
     have hsz:=Ed (H:=Unit) _ (CQ ks);have hown1:=a_.o.own
     go_wp2_with (first
      |((with_reducible refine gt_ 41 ?_);at_lookup;refine wpList_lookup_own_ok_int _ rfl _ _ 94 rfl 9 3 .i64 (Maps.string_keyed Try.underlying9) Try.underlying94 Try.underlying3 (BH _) w.heap.size _ _ rfl hown1 _ _ rfl hkey ?_;intro c1 eu eB;rw[hhas];clear eu eB)
      |((with_reducible refine gt_ 50 ?_);at_len;refine wpList_len_own _ rfl _ 94 rfl 9 3 Try.underlying94 _ _ _ _ rfl hown1 ?_;rw[hsz])
      |(at_mapUpdate;refine wpList_mapUpdate_own _ rfl _ _ _ 94 rfl 9 3 (Maps.string_keyed Try.underlying9) Try.underlying94 _ w.heap.size _ _ rfl hown1 (by rw[hkl];unfold maxLen;omega) _ _ _ rfl rfl hkey _ [] (plainElem_int Try.underlying3 (by have:=(Fs ks).2;exact WalkArith.wf_i64 om)) ?_;intro w2 hown2 hg2;have dR:=A_ (Kd.Bn (Kd.sD rfl a_.o.out) hg2 (fun k hk e=>xW a_.o.own a_.o.out (e.symm.trans hk)));have HB2:=A_ (FU a_.o.below hg2 (Nat.le_refl _));have fI:=Kd.GM (P:=Try.prog) (src:=22) (dst:=9) (e:=5) (c:=ct) Try.underlying22 Try.underlying5 Try.underlying9 (Kd.mX (Kd.Bn (Kd.sD rfl ae.o) hg2 (fun k hk e=>by have h1:=Kd.nW ae.o k hk.symm;have h2:k=w.heap.size:=(by simpa using e);omega))).2.2)
      |((with_reducible refine gt_ 55 ?_);at_lookup;refine wpList_lookup_own_int _ rfl _ _ 94 rfl 9 3 .i64 (Maps.string_keyed Try.underlying9) Try.underlying94 Try.underlying3 (BH _) w.heap.size _ _ rfl hown2 _ _ rfl hkey ?_;intro c2 b_ eD;obtain rfl:c2=((si ks).2.length:Int):=(by have h1:=I9 (H:=Unit) (wD row) (wD row::(si ks).2) _ (by unfold xy;rw[if_pos rfl]);have h2:=b_.symm.trans h1;injection h2 with h2;injection h2);clear b_ eD)
      |((with_reducible refine nG (b:=.append) (xs:= #[.tmp 51,.tmp 56]) rfl ?_);at_builtin;refine Kd.qG (Kd.int .i64) (w0:=w) w.heap.size rfl (.tmp 51) (.tmp 56) 25 3 (.int .i64 0) 8 rfl Try.underlying25 info3 rfl d_ om fA (si ks).1 ((si ks).2.length:Int) [.int .i64 ((si ks).2.length:Int)] (fun _=>True) (fun _=>False) rfl rfl ?aP (fun _ hk=>hk.elim) ?aF ?aO ?aB ?aS ?aL ?_;(case aP=>exact rfl);(case aB=>exact HB2.o);(case aF=>exact(fun _ _=>trivial));(case aO=>exact Kd.mM dR.o (fun _ _=>trivial));(case aS=>exact HB2.o.size);(case aL=>rw[hlo];omega);intro v3 w3 ho3 hb3 hg3 eF;have fe:=A_ (a_.o.new hp hown2 hg2 ho3 hb3 hg3);clear ho3 hb3 hg3 eF))
     go_roundw
     case rel=>exact⟨j+1,om,by go_num,by rw[fw.o];exact fe⟩
     case measure=>simp[intOf];omega
    obtain⟨i,hi⟩:=Option.ne_none_iff_exists'.1 hp
    have hhas:Maps.has (DSr (H:=Unit) (si ks).2) (.string (wD row))=true:=by rw[Dg,hi];rfl
    have hown1:=a_.o.own
    go_wp2_with (first
     |((with_reducible refine gt_ 41 ?_);at_lookup;refine wpList_lookup_own_ok_int _ rfl _ _ 94 rfl 9 3 .i64 (Maps.string_keyed Try.underlying9) Try.underlying94 Try.underlying3 (BH _) w.heap.size _ _ rfl hown1 _ _ rfl hkey ?_;intro c1 eu eB;rw[hhas];clear eu eB)
     |((with_reducible refine gt_ 55 ?_);at_lookup;refine wpList_lookup_own_int _ rfl _ _ 94 rfl 9 3 .i64 (Maps.string_keyed Try.underlying9) Try.underlying94 Try.underlying3 (BH _) w.heap.size _ _ rfl hown1 _ _ rfl hkey ?_;intro c2 b_ eD;obtain rfl:c2=(i:Int):=(by have h1:=I9 (H:=Unit) (wD row) _ i hi;have h2:=b_.symm.trans h1;injection h2 with h2;injection h2);clear b_ eD)
     |((with_reducible refine nG (b:=.append) (xs:= #[.tmp 51,.tmp 56]) rfl ?_);at_builtin;refine Kd.qG (Kd.int .i64) (w0:=w) w.heap.size rfl (.tmp 51) (.tmp 56) 25 3 (.int .i64 0) 8 rfl Try.underlying25 info3 rfl d_ om fA (si ks).1 (i:Int) [.int .i64 (i:Int)] (fun _=>True) (fun _=>False) rfl rfl ?aP (fun _ hk=>hk.elim) ?aF ?aO ?aB ?aS ?aL ?_;(case aP=>exact rfl);(case aB=>exact a_.o.below);(case aF=>exact(fun _ _=>trivial));(case aO=>exact a_.o.out);(case aS=>exact a_.o.below.size);(case aL=>rw[hlo];omega);intro v3 w3 ho3 hb3 hg3 eF;have fe:=A_ (a_.o.old hi ho3 hb3 hg3);clear ho3 hb3 hg3 eF))
    go_roundw
    case rel=>exact⟨j+1,om,by go_num,by rw[fw.o];exact fe⟩
    case measure=>simp[intOf];omega
mutual
def nS.l0:Nat→List (List Int)→List (List Int)→List Int→Int→Int→Option (List Int)
 |0,_,_,_,_,_=>none
 |k+1,x0,x5,dA,dK,cB=>if cB<dK then(if 0≤cB then(if cB<(dA.length:Int)then(if x5.length<5864062014805 then(nS.l0 k x0 (x5++[(([rd dA cB]:List Int))]) dA dK (wrap64 (cB+1)))else(none))else(none))else(none))else((rZ.f x5).bind fun cz=>(nS.l1 k x0 x5 cz.1 cz.2))
def nS.l1:Nat→List (List Int)→List (List Int)→List Int→Int→Option (List Int)
 |0,_,_,_,_=>none
 |k+1,x0,x5,x8,x9=>if 0≤(x5.length:Int)then(nS.l2 k x0 (x5.take (0:Int).toNat) x8 x9 x0 (x0.length:Int) 0)else(none)
def nS.l2:Nat→List (List Int)→List (List Int)→List Int→Int→List (List Int)→Int→Int→Option (List Int)
 |0,_,_,_,_,_,_,_=>none
 |k+1,x0,x5,x8,x9,bD,cC,a7=>if a7<cC then(if 0≤a7 then(if a7<(bD.length:Int)then(if a7<(x8.length:Int)then(nS.l3 k x0 x5 x8 x9 (([rd x8 a7]:List Int)) bD cC a7 (f_ bD a7) ((f_ bD a7).length:Int) 0)else(none))else(none))else(none))else((rZ.f x5).bind fun aK=>(if aK.2=x9 then(some aK.1)else(nS.l1 k x0 x5 aK.1 aK.2)))
def nS.l3:Nat→List (List Int)→List (List Int)→List Int→Int→List Int→List (List Int)→Int→Int→List Int→Int→Int→Option (List Int)
 |0,_,_,_,_,_,_,_,_,_,_,_=>none
 |k+1,x0,x5,x8,x9,dz,bD,cC,a7,cD,dM,bE=>if bE<dM then(if 0≤bE then(if bE<(cD.length:Int)then(if 0≤(rd cD bE)then(if(rd cD bE)<(x8.length:Int)then(if dz.length<17592186044416 then(nS.l3 k x0 x5 x8 x9 (dz++[rd x8 (rd cD bE)]) bD cC a7 cD dM (wrap64 (bE+1)))else(none))else(none))else(none))else(none))else(none))else(if x5.length<5864062014805 then(nS.l2 k x0 (x5++[dz]) x8 x9 bD cC (wrap64 (a7+1)))else(none))
end
def nS.f (k:Nat) (l0:List (List Int)) (l1:List Int):Option (List Int):=nS.l0 k l0 (([]:List (List Int))) l1 (l1.length:Int) 0
theorem nS.calls (k:Nat) (A0:Option Addr) (c0:Nat) (l0:List (List Int)) (A1:Option Addr) (c1:Nat) (l1:List Int) (r:List Int) (w:World) (hr0:Kd.C (Kd.slice 3 (Kd.int .i64)) w A0 l0.length l0) (hc0:l0.length≤c0) (hr1:Kd.C (Kd.int .i64) w A1 l1.length l1) (hc1:l1.length≤c1) (h:nS.f k l0 l1=some r):
  Calls Try.prog 68 #[.slice A0 l0.length c0,.slice A1 l1.length c1] w fun e w'=>∃eH:Value,e=.returned (eH)∧Kd.R (Kd.int .i64) 3 w' w.heap.size (fun _=>True) eH r∧Below w.heap.size w w':=by
 have eU:=A_ hr0;have fP:=A_ hc0;clear hr0 hc0;have HR1:=A_ hr1;have fQ:=A_ hc1;clear hr1 hc1;have HB:=A_ (Below.refl w.heap.size w);unfold nS.f at h;have H:=h;clear h;obtain⟨cG,aQ⟩:=ex_ ((([]:List (List Int))):List (List Int));rw[←aQ]at H;have bZ:=A_ aQ;clear aQ
 have H':=A_ H
 clear H;go_enter Try.func68,Try.ntmps68
 go_wp2_with (first|((with_reducible refine gt_ 17 ?_);refine Kd.CK (Kd.slice 3 (Kd.int .i64)) _ 25 ?hg (N:=17) ?hd (xs:=([]:List (List Int))) (inner:=[]) (ok:=fun _=>True) (okp:=fun _=>True) ?hr ?hp (fun _ hk=>hk) trivial (Below.refl _ _) (Nat.le_refl _) sp ?_;(case hd|hg=>rfl);(case hr=>go_simp;done);(case hp=>exact(qK.none _ _));rintro d5 w3 fo hb - -;(rw[←bZ.o]at fo);have bN:=A_ (Kd.uy fo (mK HB.o));replace HB:=bs_ HB hb;clear hb fo))
 go_loopg [5,20] k (fun kq v5 dY w'=>∃ (ap:List (List Int)) (ai:Int),dY=.int .i64 ai∧Aside0 (nS.l0 kq l0 ap l1 (l1.length:Int) ai=some r)∧Aside0 (kq≤k)∧Aside0 (Kd.S (Kd.slice 3 (Kd.int .i64)) 25 w' w.heap.size (fun _=>True) v5 ap)∧Aside0 (Below w.heap.size w w'))
 case atStart=>exact⟨(cG),(0),rf,H',⟨Nat.le_refl _⟩,bN,HB⟩
 case round=>
  clear H';obtain⟨ap,ai,rfl,HA,aG,ab,HB⟩:=hrel
  cases gk with
  |zero=>exact nz_ HA.o
  |succ k1=>
   have H:=HA.o;clear HA;simp only[nS.l0]at H
   replace H:=Hi_ H;rcases H with⟨bm,H⟩|⟨bm,H⟩
   ·replace ⟨da,H⟩:=Hd_ H
    replace ⟨dS,H⟩:=Hd_ H
    obtain⟨a8,aT⟩:=ex_ ((([rd l1 ai]:List Int)):List Int);rw[←aT]at H;have b1:=A_ aT;clear aT
    replace ⟨cX,H⟩:=Ha_ H
    obtain⟨cH,aU⟩:=ex_ ((ap++[a8]):List (List Int));rw[←aU]at H;have b2:=A_ aU;clear aU
    have H':=A_ H
    clear H
    have bq:0≤(ai:Int):=oa_
    have bz:ai<(l1.length:Int):=oa_
    obtain⟨dC,df,au⟩:=Kd.nM HR1.o ai bq bz
    cases df
    replace au:=cm_ HB au;replace bq:=eq_true bq;replace bz:=eq_true bz
    go_wp2_with (first|((with_reducible refine gt_ 26 ?_);refine Kd.wF (Kd.int .i64) _ 3 ?hg (N:=26) ?hd (xs:=([rd l1 ai]:List Int)) (inner:=[.int .i64 (rd l1 ai)]) (ok:=fun _=>True) (okp:=fun _=>True) ?hr ?hp (fun _ hk=>hk) trivial (Below.refl _ _) (Nat.le_refl _) sp ?_;(case hd|hg=>rfl);(case hr=>go_simp;done);(case hp=>exact(qK.one (show Kd.M (Kd.int .i64) _ _ _ (rd l1 ai) [.int .i64 (rd l1 ai)]from rfl) (qK.none _ _)));rintro d6 w9 ba hb - -;(rw[←b1.o]at ba);replace ab:=A_ (Kd.rz ab.o (Kd.nW ba) hb);have aC:=A_ (Kd.nE ba (mK HB.o));replace HB:=bs_ HB hb;clear hb ba;obtain⟨bJ,ci,dn⟩:=Kd.mU aC.o;subst dn)|((with_reducible refine nG (b:=.append) (xs:= #[.tmp 24,.tmp 27]) rfl ?_);at_builtin;refine Kd.uq (Kd.slice 3 (Kd.int .i64)) (w0:=w) w.heap.size rfl (.tmp 24) (.tmp 27) 24 25 (.slice none 0 0) 24 rfl Try.underlying24 uO rfl d_ om u5 ap a8 [.slice bJ a8.length ci] (fun _=>True) (fun k_=>some k_=(.slice bJ a8.length ci:Value).ownBlock) rfl rfl ?aP (fun k_ fq=>((Kd.mM (ok':=fun k_=>((fun _=>True)) k_∧some k_≠(u5:Value).ownBlock) (Kd.pE (aC.o) (Kd.oL ab.o) d_) (fun k_ hk=>⟨trivial,hk.2⟩))).1 k_ fq.symm) ?aF ?aO ?aB ?aS ?aL ?_;(case aP=>exact Kd.uR (Kd.mM (Kd.sD rfl (Kd.mM (ok':=fun k_=>((fun _=>True)) k_∧some k_≠(u5:Value).ownBlock) (Kd.pE (aC.o) (Kd.oL ab.o) d_) (fun k_ hk=>⟨trivial,hk.2⟩))) (fun _ h_=>h_)));(case aB=>exact HB.o);(case aF=>exact(fun _ _=>trivial));(case aO=>exact(by exact Kd.nV ab.o (fun k_ hk=>⟨trivial,fun e_=>hk.2 e_⟩)));(case aS=>exact(mK HB.o));(case aL=>have:=cX.o;omega);intro d7 fT ho hb hg hat;rw[←b2.o]at ho;replace HB:=A_ (hb);have bO:=A_ (ho);clear ab aC;clear ho hb hg hat))
    go_roundg k1
    case measure=>have:=aG.o;omega
    case rel=>exact⟨(cH),(wrap64 (ai+1)),rf,H',⟨by have:=aG.o;omega⟩,bO,HB⟩
   replace ⟨⟨cw,cA⟩,fJ,H⟩:=bA_ H;dsimp only at H
   have H':=A_ H
   clear H;obtain⟨dN,dT,dp⟩:=Kd.rO ab.o;subst dp
   go_wp2_with (first|((with_reducible refine gc_ 76 rfl ?_);refine cM_ E76 32 (rZ.calls _ _ ap cw cA _ ((Kd.rq ab.o).2.2) ((Kd.rq ab.o).2.1) fJ.o) ?_;rintro e fU ⟨d8,rfl,ho0,hb⟩;refine⟨_,rfl,?_⟩;replace ab:=A_ (Kd.rz ab.o (Kd.nW ho0) hb);have bP:=A_ (Kd.nE ho0 (mK HB.o));replace HB:=bs_ HB hb;clear hb;(try clear ho0)))
   go_loopg [5,8,9] k1 (fun kq v5 v8 v9 w'=>∃ (aA:List (List Int)) (ag:List Int) (al:Int),v9=.int .i64 al∧Aside0 (nS.l1 kq l0 aA ag al=some r)∧Aside0 (kq≤k1)∧Aside0 (Kd.S (Kd.slice 3 (Kd.int .i64)) 25 w' w.heap.size (o1 v8) v5 aA)∧Aside0 (Kd.R (Kd.int .i64) 3 w' w.heap.size (fun _=>True) v8 ag)∧Aside0 (Below w.heap.size w w'))
   case atStart=>exact⟨(ap),(cw),(cA),rf,H',⟨Nat.le_refl _⟩,⟨by exact Kd.nV ab.o (fun _ hk=>hk.2)⟩,bP,HB⟩
   case round=>
    clear H'
    try clear bm
    obtain⟨aA,ag,al,rfl,HA,bG,ab,ae,HB⟩:=hrel
    cases gk with
    |zero=>exact nz_ HA.o
    |succ k2=>
     have H:=HA.o;clear HA;simp only[nS.l1]at H
     replace ⟨c16,H⟩:=Hp_ H
     have b7:=eq_true c16;have b8:=decide_eq_true c16;clear c16;obtain⟨bF,aV⟩:=ex_ ((aA.take (0:Int).toNat):List (List Int));rw[←aV]at H;have bj:=A_ aV;clear aV
     have H':=A_ H
     clear H;obtain⟨cV,dd,dq⟩:=Kd.rO ab.o;subst dq
     have cP:(0:Int)≤((aA.length:Int):Int):=oa_
     obtain⟨fK,ek,_,eQ,_⟩:=info_parts uO;have eG:=NK (P:=Try.prog) 24 25 .i64 Try.underlying24 ek cV aA.length dd 0 om cP (Kd.rq ab.o).2.1;have cu:=Kd.NN (m:=(0:Int).toNat) ab.o om
     have co:bF.length=(0:Int).toNat:=(by rw[bj.o,List.length_take];omega)
     rw[←bj.o]at cu;rw[←co]at cu eG;clear co ek eQ ab;have bQ:=A_ cu;clear cu;replace cP:=eq_true cP
     go_wp2
     go_loopg [5,39] k2 (fun kq v5 ef w'=>∃ (am:List (List Int)) (aa:Int),ef=.int .i64 aa∧Aside0 (nS.l2 kq l0 am ag al l0 (l0.length:Int) aa=some r)∧Aside0 (kq≤k2)∧Aside0 (Kd.S (Kd.slice 3 (Kd.int .i64)) 25 w' w.heap.size (o1 u8) v5 am)∧Aside0 (Kd.R (Kd.int .i64) 3 w' w.heap.size (fun _=>True) u8 ag)∧Aside0 (Below w.heap.size w w'))
     case atStart=>exact⟨(bF),(0),rf,H',⟨Nat.le_refl _⟩,bQ,ae,HB⟩
     case round=>
      clear H'
      clear b7 b8 cP
      obtain⟨am,aa,rfl,HA,bH,ab,ae,HB⟩:=hrel
      cases gk with
      |zero=>exact nz_ HA.o
      |succ k3=>
       have H:=HA.o;clear HA;simp only[nS.l2]at H
       replace H:=Hi_ H;rcases H with⟨bk,H⟩|⟨bk,H⟩
       ·replace ⟨b9,H⟩:=Hd_ H
        replace ⟨cc,H⟩:=Hd_ H
        replace ⟨cd,H⟩:=Hd_ H
        obtain⟨cI,aW⟩:=ex_ ((([rd ag aa]:List Int)):List Int);rw[←aW]at H;have b3:=A_ aW;clear aW
        have H':=A_ H
        clear H
        have be:0≤(aa:Int):=oa_
        have bg:aa<(l0.length:Int):=oa_
        obtain⟨dD,cS,cY,dg,an,aE,aD⟩:=qM eU.o aa be bg
        cases dg
        replace an:=cm_ HB an;have a9:=A_ aD;have cL:=A_ aE;clear aD aE;replace be:=eq_true be;replace bg:=eq_true bg;obtain⟨dO,ay,dt⟩:=Kd.mU ae.o;subst dt
        have bf:0≤(aa:Int):=oa_
        have bh:aa<(ag.length:Int):=oa_
        obtain⟨ak,dh,bc⟩:=Kd.nM (Kd.mX ae.o).2.2 aa bf bh
        cases dh
        replace bf:=eq_true bf;replace bh:=eq_true bh
        go_wp2_with (first|((with_reducible refine gt_ 48 ?_);refine Kd.wF (Kd.int .i64) _ 3 ?hg (N:=48) ?hd (xs:=([rd ag aa]:List Int)) (inner:=[.int .i64 (rd ag aa)]) (ok:=fun _=>True) (okp:=fun _=>True) ?hr ?hp (fun _ hk=>hk) trivial (Below.refl _ _) (Nat.le_refl _) sp ?_;(case hd|hg=>rfl);(case hr=>go_simp;done);(case hp=>exact(qK.one (show Kd.M (Kd.int .i64) _ _ _ (rd ag aa) [.int .i64 (rd ag aa)]from rfl) (qK.none _ _)));rintro d9 fV aI hb - -;(rw[←b3.o]at aI);replace ab:=A_ (Kd.rz ab.o (Kd.nW aI) hb);have bR:=A_ (Kd.nE (Kd.qF aI (Kd.oV ae.o)) (mK HB.o));replace ae:=A_ (Kd.oz ae.o (Kd.nW aI) hb);replace HB:=bs_ HB hb;clear hb aI))
        go_loopg [12,51] k3 (fun kq dx eg w'=>∃ (aj:List Int) (ah:Int),eg=.int .i64 ah∧Aside0 (nS.l3 kq l0 am ag al aj l0 (l0.length:Int) aa (f_ l0 aa) ((f_ l0 aa).length:Int) ah=some r)∧Aside0 (kq≤k3)∧Aside0 (Kd.S (Kd.slice 3 (Kd.int .i64)) 25 w' w.heap.size (o2 (.slice (some ak) ag.length ay) dx) u5 am)∧Aside0 (Kd.R (Kd.int .i64) 3 w' w.heap.size (o1 dx) (.slice (some ak) ag.length ay) ag)∧Aside0 (Kd.R (Kd.int .i64) 3 w' w.heap.size (o1 (.slice (some ak) ag.length ay)) dx aj)∧Aside0 (Below w.heap.size w w'))
        case atStart=>exact⟨(cI),(0),rf,H',⟨Nat.le_refl _⟩,ab,⟨by exact Kd.mM ae.o (fun _ hk=>hk.2)⟩,⟨by exact Kd.mM bR.o (fun _ hk=>hk.2)⟩,HB⟩
        case round=>
         clear H'
         clear bk b9 cc cd an bc be bf bg bh
         obtain⟨aj,ah,rfl,HA,cN,ab,ae,aq,HB⟩:=hrel
         cases gk with
         |zero=>exact nz_ HA.o
         |succ k4=>
          have H:=HA.o;clear HA;simp only[nS.l3]at H
          replace H:=Hi_ H;rcases H with⟨cf,H⟩|⟨cf,H⟩
          ·replace ⟨dG,H⟩:=Hd_ H
           replace ⟨dH,H⟩:=Hd_ H
           replace ⟨dI,H⟩:=Hd_ H
           replace ⟨dJ,H⟩:=Hd_ H
           replace ⟨bU,H⟩:=Ha_ H
           obtain⟨cJ,aX⟩:=ex_ ((aj++[rd ag (rd (f_ l0 aa) ah)]):List Int);rw[←aX]at H;have b4:=A_ aX;clear aX
           have H':=A_ H
           clear H
           have br:0≤(ah:Int):=oa_
           have bA:ah<((f_ l0 aa).length:Int):=oa_
           obtain⟨dE,di,av⟩:=Kd.nM a9.o ah br bA
           cases di
           replace av:=cm_ HB av;replace br:=eq_true br;replace bA:=eq_true bA
           have bu:0≤((rd (f_ l0 aa) ah):Int):=oa_
           have bB:(rd (f_ l0 aa) ah)<(ag.length:Int):=oa_
           obtain⟨b6,dj,cO⟩:=Kd.nM (Kd.mX ae.o).2.2 (rd (f_ l0 aa) ah) bu bB;obtain rfl:ak=b6:=(by injection dj);replace bu:=eq_true bu;replace bB:=eq_true bB
           go_wp2_with (first|((with_reducible refine nG (b:=.append) (xs:= #[.tmp 55,.tmp 60]) rfl ?_);at_builtin;refine Kd.qG (Kd.int .i64) (w0:=w) w.heap.size rfl (.tmp 55) (.tmp 60) 25 3 (.int .i64 0) 8 rfl Try.underlying25 info3 rfl d_ om u12 aj (rd ag (rd (f_ l0 aa) ah)) [.int .i64 (rd ag (rd (f_ l0 aa) ah))] (o1 (.slice (some ak) ag.length ay)) (fun _=>False) rfl rfl ?aP (fun _ hk=>hk.elim) ?aF ?aO ?aB ?aS ?aL ?_;(case aP=>exact rfl);(case aB=>exact HB.o);(case aF=>exact(fun k_ hk=>Kd.fresh' (Kd.oV ae.o) k_ hk));(case aO=>exact aq.o);(case aS=>exact(mK HB.o));(case aL=>have:=bU.o;omega);intro eb w32 ho hb hg hat;rw[←b4.o]at ho;replace ab:=A_ (Kd.sF (ok:=(o1 (.slice (some ak) ag.length ay))) ab.o hg hat);replace ae:=A_ (Kd.pq (ok:=(fun _=>True)) (by exact Kd.mM ae.o (fun _ hk=>⟨trivial,hk⟩)) hg hat);replace HB:=A_ (hb);have bS:=A_ (ho);clear aq;clear ho hb hg hat))
           go_roundg k4
           case measure=>have:=aG.o;have:=bG.o;have:=bH.o;have:=cN.o;omega
           case rel=>exact⟨(cJ),(wrap64 (ah+1)),rf,H',⟨by have:=aG.o;have:=bG.o;have:=bH.o;have:=cN.o;omega⟩,ab,⟨by exact Kd.mM ae.o (fun _ hk=>hk.2)⟩,bS,HB⟩
          replace ⟨bV,H⟩:=Ha_ H
          obtain⟨cK,aY⟩:=ex_ ((am++[aj]):List (List Int));rw[←aY]at H;have b5:=A_ aY;clear aY
          have H':=A_ H
          clear H;obtain⟨bK,ck,du⟩:=Kd.mU aq.o;subst du
          go_wp2_with (first|((with_reducible refine nG (b:=.append) (xs:= #[.tmp 63,.tmp 65]) rfl ?_);at_builtin;refine Kd.uq (Kd.slice 3 (Kd.int .i64)) (w0:=w) w.heap.size rfl (.tmp 63) (.tmp 65) 24 25 (.slice none 0 0) 24 rfl Try.underlying24 uO rfl d_ om u5 am aj [.slice bK aj.length ck] (o1 (.slice (some ak) ag.length ay)) (fun k_=>some k_=(.slice bK aj.length ck:Value).ownBlock) rfl rfl ?aP (fun k_ fq=>((Kd.mM (ok':=fun k_=>((o1 (.slice (some ak) ag.length ay))) k_∧some k_≠(u5:Value).ownBlock) (Kd.pE (aq.o) (Kd.oL ab.o) d_) (fun k_ hk=>⟨hk.1,hk.2⟩))).1 k_ fq.symm) ?aF ?aO ?aB ?aS ?aL ?_;(case aP=>exact Kd.uR (Kd.mM (Kd.sD rfl (Kd.mM (ok':=fun k_=>((o1 (.slice (some ak) ag.length ay))) k_∧some k_≠(u5:Value).ownBlock) (Kd.pE (aq.o) (Kd.oL ab.o) d_) (fun k_ hk=>⟨hk.1,hk.2⟩))) (fun _ h_=>h_)));(case aB=>exact HB.o);(case aF=>exact(fun k_ hk=>Kd.fresh' (Kd.oV ae.o) k_ hk));(case aO=>exact(by exact Kd.nV ab.o (fun k_ hk=>⟨hk.1,fun e_=>hk.2 e_⟩)));(case aS=>exact(mK HB.o));(case aL=>have:=bV.o;omega);intro ed fZ ho hb hg hat;rw[←b5.o]at ho;replace ae:=A_ (Kd.qH ae.o (Kd.oL ab.o) d_ hg);replace HB:=A_ (hb);have bT:=A_ (ho);clear ab aq;clear ho hb hg hat))
          go_roundg k4
          case measure=>have:=aG.o;have:=bG.o;have:=bH.o;have:=cN.o;omega
          case rel=>exact⟨(cK),(wrap64 (aa+1)),rf,H',⟨by have:=aG.o;have:=bG.o;have:=bH.o;have:=cN.o;omega⟩,bT,⟨by exact Kd.mM ae.o (fun _ hk=>trivial)⟩,HB⟩
       replace ⟨⟨bC,az⟩,fC,H⟩:=bA_ H;dsimp only at H
       replace H:=Hj_ H;rcases H with⟨c37,H⟩|⟨c37,H⟩
       ·have cg:(az==al)=true:=beq_iff_eq.mpr c37
        have ch:(az !=al)=false:=bne_eq_false_iff_eq.mpr c37
        clear c37;obtain rfl:=Option.some.inj H;obtain⟨dP,dU,dv⟩:=Kd.rO ab.o;subst dv
        go_wp2_with (first|((with_reducible refine gc_ 76 rfl ?_);refine cM_ E76 70 (rZ.calls _ _ am bC az _ ((Kd.rq ab.o).2.2) ((Kd.rq ab.o).2.1) fC.o) ?_;rintro e gm ⟨dy,rfl,ho0,hb⟩;refine⟨_,rfl,?_⟩;replace ab:=A_ (Kd.rz ab.o (Kd.nW ho0) hb);have aH:=A_ (Kd.nE (Kd.qF ho0 (Kd.oV ae.o)) (mK HB.o));replace ae:=A_ (Kd.oz ae.o (Kd.nW ho0) hb);replace HB:=bs_ HB hb;clear hb;(try clear ho0)))
        go_ret
        exact⟨_,rf,by exact Kd.mM aH.o (fun _ hk=>trivial),HB.o⟩
       have cg:(az==al)=false:=beq_eq_false_iff_ne.mpr c37
       have ch:(az !=al)=true:=bne_iff_ne.mpr c37
       have H':=A_ H
       clear H;obtain⟨dQ,dV,dw⟩:=Kd.rO ab.o;subst dw
       go_wp2_with (first|((with_reducible refine gc_ 76 rfl ?_);refine cM_ E76 70 (rZ.calls _ _ am bC az _ ((Kd.rq ab.o).2.2) ((Kd.rq ab.o).2.1) fC.o) ?_;rintro e gp ⟨dy,rfl,ho0,hb⟩;refine⟨_,rfl,?_⟩;replace ab:=A_ (Kd.rz ab.o (Kd.nW ho0) hb);have aH:=A_ (Kd.nE (Kd.qF ho0 (Kd.oV ae.o)) (mK HB.o));replace ae:=A_ (Kd.oz ae.o (Kd.nW ho0) hb);replace HB:=bs_ HB hb;clear hb;(try clear ho0)))
       go_roundg k3
       case measure=>have:=aG.o;have:=bG.o;have:=bH.o;omega
       case rel=>exact⟨(am),(bC),(az),rf,H',⟨by have:=aG.o;have:=bG.o;have:=bH.o;omega⟩,⟨by exact Kd.nV ab.o (fun _ hk=>hk.2)⟩,⟨by exact Kd.mM aH.o (fun _ hk=>trivial)⟩,HB⟩
set_option maxHeartbeats 8000000
set_option maxRecDepth 100000
mutual
def oJ.l0:Nat→List (List Int)→List Bool→List Int→Int→Option (List Int)
 |0,_,_,_,_=>none
 |k+1,x0,x3,x4,x5=>if x5<(x4.length:Int)then(if 0≤x5 then(if 0≤(rd x4 x5)then(if(rd x4 x5)<(x0.length:Int)then(oJ.l1 k x0 x3 x4 x5 (f_ x0 (rd x4 x5)) ((f_ x0 (rd x4 x5)).length:Int) 0)else(none))else(none))else(none))else(some x4)
def oJ.l1:Nat→List (List Int)→List Bool→List Int→Int→List Int→Int→Int→Option (List Int)
 |0,_,_,_,_,_,_,_=>none
 |k+1,x0,x3,x4,x5,a8,bW,aN=>if aN<bW then(if 0≤aN then(if aN<(a8.length:Int)then(if 0≤(rd a8 aN)then(if(rd a8 aN)<(x3.length:Int)then(if(Ai false x3 (rd a8 aN)=true)then(oJ.l1 k x0 x3 x4 x5 a8 bW (wrap64 (aN+1)))else(if x4.length<17592186044416 then(oJ.l1 k x0 (x3.set ((rd a8 aN):Int).toNat true) (x4++[rd a8 aN]) x5 a8 bW (wrap64 (aN+1)))else(none)))else(none))else(none))else(none))else(none))else(oJ.l0 k x0 x3 x4 (wrap64 (x5+1)))
end
def oJ.f (k:Nat) (l0:List (List Int)):Option (List Int):=if 0≤(l0.length:Int)then(if((l0.length:Int):Int).toNat≤281474976710656 then((some (List.replicate ((l0.length:Int):Int).toNat false:List Bool)).bind fun ao=>(if 0<(ao.length:Int)then(oJ.l0 k l0 (ao.set (0:Int).toNat true) (([0]:List Int)) 0)else(none)))else(none))else(none)
theorem oJ.calls (k:Nat) (A0:Option Addr) (c0:Nat) (l0:List (List Int)) (r:List Int) (w:World) (hr0:Kd.C (Kd.slice 3 (Kd.int .i64)) w A0 l0.length l0) (hc0:l0.length≤c0) (h:oJ.f k l0=some r):
  Calls Try.prog 69 #[.slice A0 l0.length c0] w fun e w'=>∃cO:Value,e=.returned (cO)∧Kd.R (Kd.int .i64) 3 w' w.heap.size (fun _=>True) cO r∧Below w.heap.size w w':=by
 have di:=A_ hr0;have dz:=A_ hc0;clear hr0 hc0;have HB:=A_ (Below.refl w.heap.size w);unfold oJ.f at h;have H:=h;clear h
 replace ⟨c2,H⟩:=Hp_ H
 have bI:=eq_true c2;have bJ:=decide_eq_true c2;clear c2
 replace ⟨c3,H⟩:=Hp_ H
 have bK:=eq_true c3;have bL:=decide_eq_true c3;clear c3;replace ⟨ao,bk,H⟩:=Hs_ H
 replace ⟨c4,H⟩:=Hp_ H
 have bM:=decide_eq_true c4
 have bN:decide (0<ao.length)=true:=decide_eq_true om
 clear c4;obtain⟨aX,aG⟩:=ex_ ((ao.set (0:Int).toNat true):List Bool);rw[←aG]at H;have bm:=A_ aG;clear aG;obtain⟨bC,aH⟩:=ex_ ((([0]:List Int)):List Int);rw[←aH]at H;have bn:=A_ aH;clear aH
 have H':=A_ H
 clear H;go_enter Try.func69,Try.ntmps69
 go_wp2_with (first|((with_reducible refine gt_ 10 ?_);refine Kd.Ce Kd.bool _ 4 rfl (N:=10) rfl 93 _ _ rfl (l0.length:Int) rfl rfl Try.underlying93 (.bool false) 1 Ph rfl d_ om false (ok:=fun _=>True) (okp:=fun _=>True) rfl (fun _ hk=>hk) trivial oa_ (Nat.le_trans (Nat.mul_le_mul_right _ (oa_:(l0.length:Int).toNat≤281474976710656)) om) (Below.refl _ _) (Nat.le_refl _) ?_;rintro cc w6 cz hb - -;(rw[←bk.o]at cz);have ak:=A_ (Kd.nE cz (mK HB.o));replace HB:=bs_ HB hb;clear hb cz;have p5:0≤(0:Int):=om;have q5:(0:Int)<((ao.length:Int):Int):=oa_;have dm:(0<ao.length)=True:=eq_true om;obtain⟨aC,bB,b4,b5,dn,dA,cZ⟩:=Kd.sj ak.o om;(first|cases b4|(injection b4 with cu dw dx;(first|subst cu|(injection cu with cu;subst cu));subst dx;clear dw));have df:=A_ b5;have dB:=A_ cZ;clear b5 dn cZ;obtain⟨aD,a7⟩:=Kd.rF false ak.o (0:Int) p5 q5;(try rw[show((0:Int)).toNat=0 from rfl]at aD);(try simp only[Nat.reduceMul,Nat.zero_mul,Nat.zero_add,Nat.reduceAdd]at aD);(try rw[show((0:Int)).toNat=0 from rfl]at a7);(try simp only[Nat.reduceMul,Nat.zero_mul,Nat.zero_add,Nat.reduceAdd]at a7);replace p5:=eq_true p5;replace q5:=eq_true q5;obtain⟨aR,aZ⟩:=Kd.rF false ak.o (0:Int) om oa_;(try simp only[Int.reduceToNat,Int.toNat_zero,Int.toNat_ofNat,Nat.reduceMul,Nat.zero_mul,Nat.zero_add]at aR aZ);(try rw[show((0:Int)).toNat=0 from rfl]at aR);(try rw[show((0:Int)).toNat=0 from rfl]at aZ);have bG:=Kd.uo ak.o (0:Int) true)|((with_reducible refine qz (t:=4) (p:=12) rfl ?_);refine qa (t:=4) (p:=12) (v:=?dh) (w1:=(w6.setCell ⟨aC,(0:Int).toNat,none⟩ (.bool true))) ?hg ?ho ?hn ?hr ?_;(case ho=>rfl);(case hg=>rfl);(case hn=>rfl);(case hr=>first|(go_simp;done)|(go_simp;rfl)|(obtain⟨_,_,rfl⟩:=Kd.mU ak.o;go_simp;first|done|rfl)|(obtain⟨_,_,rfl⟩:=Kd.mU (Kd.S_R ak.o);go_simp;first|done|rfl));intro w9 hw;have hg:w6.grownBy w9 (some aC):=(by rw[hw];exact bG.2);have a_:Kd.R Kd.bool 4 w9 w.heap.size (fun _=>True) (.slice (some ⟨aC,0,none⟩) ao.length bB) aX:=(by rw[hw,bm.o];exact bG.1);clear bG;replace ak:=A_ (a_);replace HB:=A_ ((by rw[hw];exact mY (HB.o) df.o:Below w.heap.size w w9));clear hg hw a_)|((with_reducible refine gd_ 13 rfl ?_);refine RL_ 13 3 [0] [.int .i64 0] rfl rfl (by go_simp;done) rfl rfl ?_;rintro cd dC be hb - -;(rw[←bn.o]at be);replace ak:=A_ (Kd.nX ak.o hb);have bh:=A_ (Kd.nE be (mK HB.o));replace HB:=bs_ HB hb;clear hb be))
 go_loopg [4,5] k (fun kq v4 v5 w'=>∃ (aM:List Bool) (ae:List Int) (ab:Int),v5=.int .i64 ab∧Aside0 (oJ.l0 kq l0 aM ae ab=some r)∧Aside0 (kq≤k)∧Aside0 (Kd.R Kd.bool 4 w' w.heap.size (fun _=>True) (.slice (some ⟨aC,0,none⟩) ao.length bB) aM)∧Aside0 (Kd.R (Kd.int .i64) 3 w' w.heap.size (fun _=>True) v4 ae)∧Aside0 (Below w.heap.size w w'))
 case atStart=>exact⟨(aX),(bC),(0),rf,H',⟨Nat.le_refl _⟩,ak,bh,HB⟩
 case round=>
  clear H'
  clear bI bJ bK bL bM bN p5 q5 dm aD
  obtain⟨aM,ae,ab,rfl,HA,bf,aj,al,HB⟩:=hrel;have ag:=(Kd.mX aj.o).1;rw[ag]at aj
  (try simp only[ag])
  (try simp only[ag]at al)
  cases gk with
  |zero=>exact nz_ HA.o
  |succ k1=>
   have H:=HA.o;clear HA;simp only[oJ.l0]at H
   replace H:=Hj_ H;rcases H with⟨c12,H⟩|⟨c12,H⟩
   ·have aA:=decide_eq_true c12;clear c12
    replace ⟨bv,H⟩:=Hd_ H
    replace ⟨bw,H⟩:=Hd_ H
    replace ⟨bz,H⟩:=Hd_ H
    have H':=A_ H
    clear H;obtain⟨b6,b8,bQ⟩:=Kd.mU al.o;subst bQ
    have aT:0≤(ab:Int):=oa_
    have aV:ab<(ae.length:Int):=oa_
    obtain⟨bX,bO,aQ⟩:=Kd.nM (Kd.mX al.o).2.2 ab aT aV
    cases bO
    replace aT:=eq_true aT;replace aV:=eq_true aV
    have aU:0≤((rd ae ab):Int):=oa_
    have aW:(rd ae ab)<(l0.length:Int):=oa_
    obtain⟨bY,bF,bH,bP,ap,ay,ax⟩:=qM di.o (rd ae ab) aU aW
    cases bP
    replace ap:=cm_ HB ap;have aw:=A_ ax;have bE:=A_ ay;clear ax ay;replace aU:=eq_true aU;replace aW:=eq_true aW
    go_wp2
    go_loopg [4,28] k1 (fun kq v4 cg w'=>∃ (am:List Bool) (an:List Int) (aa:Int),cg=.int .i64 aa∧Aside0 (oJ.l1 kq l0 am an ab (f_ l0 (rd ae ab)) ((f_ l0 (rd ae ab)).length:Int) aa=some r)∧Aside0 (kq≤k1)∧Aside0 (Kd.R Kd.bool 4 w' w.heap.size (fun _=>True) (.slice (some ⟨aC,0,none⟩) aM.length bB) am)∧Aside0 (Kd.R (Kd.int .i64) 3 w' w.heap.size (fun _=>True) v4 an)∧Aside0 (Below w.heap.size w w'))
    case atStart=>exact⟨(aM),(ae),(0),rf,H',⟨Nat.le_refl _⟩,⟨by(try simp only[ag]);exact aj.o⟩,⟨by(try simp only[ag]);exact al.o⟩,HB⟩
    case round=>
     clear H'
     clear aA bv bw bz aQ ap aT aU aV aW
     obtain⟨am,an,aa,rfl,HA,bg,aj,al,HB⟩:=hrel;have ai:=(Kd.mX aj.o).1;rw[ai]at aj
     (try simp only[ai])
     (try simp only[ai]at al)
     cases gk with
     |zero=>exact nz_ HA.o
     |succ k2=>
      have H:=HA.o;clear HA;simp only[oJ.l1]at H
      replace H:=Hi_ H;rcases H with⟨bA,H⟩|⟨bA,H⟩
      ·replace ⟨bZ,H⟩:=Hd_ H
       replace ⟨b1,H⟩:=Hd_ H
       replace ⟨b2,H⟩:=Hd_ H
       replace ⟨b3,H⟩:=Hd_ H
       obtain⟨cB,J⟩:∃b_:Bool,b_=(Ai false am (rd (f_ l0 (rd ae ab)) aa)):=⟨_,rfl⟩;replace H:(if(cB=true)then(oJ.l1 k2 l0 am an ab (f_ l0 (rd ae ab)) ((f_ l0 (rd ae ab)).length:Int) (wrap64 (aa+1)))else(if an.length<17592186044416 then(oJ.l1 k2 l0 (am.set ((rd (f_ l0 (rd ae ab)) aa):Int).toNat true) (an++[rd (f_ l0 (rd ae ab)) aa]) ab (f_ l0 (rd ae ab)) ((f_ l0 (rd ae ab)).length:Int) (wrap64 (aa+1)))else(none)))=some r:=by rw[←J]at H;exact H
       have U:=A_ J;clear J
       replace H:=Hb_ H;rcases H with⟨rfl,H⟩|⟨rfl,H⟩
       ·have H':=A_ H
        clear H
        have aq:0≤(aa:Int):=oa_
        have au:aa<((f_ l0 (rd ae ab)).length:Int):=oa_
        obtain⟨bu,ba,ah⟩:=Kd.nM aw.o aa aq au
        cases ba
        replace ah:=cm_ HB ah;replace aq:=eq_true aq;replace au:=eq_true au
        have ar:0≤((rd (f_ l0 (rd ae ab)) aa):Int):=oa_
        have av:(rd (f_ l0 (rd ae ab)) aa)<(am.length:Int):=oa_
        obtain⟨az,bc,af⟩:=Kd.J3 (Kd.mX aj.o).2.2 (rd (f_ l0 (rd ae ab)) aa) ar av
        (try rw[←U.o]at af)
        obtain rfl:(⟨aC,0,none⟩:Addr)=az:=(by injection bc)
        (first|simp only[add_plain]at af|simp only[zg]at af|simp only[Addr.add,Nat.zero_add]at af|skip)
        replace ar:=eq_true ar;replace av:=eq_true av
        go_wp2
        (try simp only[←ai])
        go_roundg k2
        case measure=>have:=bf.o;have:=bg.o;omega
        case rel=>exact⟨(am),(an),(wrap64 (aa+1)),rf,H',⟨by have:=bf.o;have:=bg.o;omega⟩,⟨by(try simp only[ag]);(try simp only[ai]);exact aj.o⟩,⟨by(try simp only[ag]);(try simp only[ai]);exact al.o⟩,HB⟩
       obtain⟨aY,aI⟩:=ex_ ((am.set ((rd (f_ l0 (rd ae ab)) aa):Int).toNat true):List Bool);rw[←aI]at H;have bq:=A_ aI;clear aI
       replace ⟨bj,H⟩:=Ha_ H
       obtain⟨bD,aJ⟩:=ex_ ((an++[rd (f_ l0 (rd ae ab)) aa]):List Int);rw[←aJ]at H;have br:=A_ aJ;clear aJ
       have H':=A_ H
       clear H
       have aq:0≤(aa:Int):=oa_
       have au:aa<((f_ l0 (rd ae ab)).length:Int):=oa_
       obtain⟨bu,ba,ah⟩:=Kd.nM aw.o aa aq au
       cases ba
       replace ah:=cm_ HB ah;replace aq:=eq_true aq;replace au:=eq_true au
       have ar:0≤((rd (f_ l0 (rd ae ab)) aa):Int):=oa_
       have av:(rd (f_ l0 (rd ae ab)) aa)<(am.length:Int):=oa_
       obtain⟨az,bc,af⟩:=Kd.J3 (Kd.mX aj.o).2.2 (rd (f_ l0 (rd ae ab)) aa) ar av
       (try rw[←U.o]at af)
       obtain rfl:(⟨aC,0,none⟩:Addr)=az:=(by injection bc)
       (first|simp only[add_plain]at af|simp only[zg]at af|simp only[Addr.add,Nat.zero_add]at af|skip)
       replace ar:=eq_true ar;replace av:=eq_true av
       have bU:0≤((rd (f_ l0 (rd ae ab)) aa):Int):=oa_
       have bV:((rd (f_ l0 (rd ae ab)) aa):Int)<((am.length:Int):Int):=oa_
       obtain⟨bT,bS⟩:=Kd.rF false aj.o ((rd (f_ l0 (rd ae ab)) aa):Int) bU bV;replace bU:=eq_true bU;replace bV:=eq_true bV;have a9:=Kd.uo aj.o ((rd (f_ l0 (rd ae ab)) aa):Int) true
       go_wp2_with (first|((with_reducible refine qz (t:=4) (p:=39) rfl ?_);refine qa (t:=4) (p:=39) (w1:=(wr.setCell ⟨aC,((rd (f_ l0 (rd ae ab)) aa):Int).toNat,none⟩ (.bool true))) rfl rfl rfl (by go_simp;done) ?_;intro cK hw;have hg:wr.grownBy cK (some aC):=(by rw[hw];exact a9.2);have a_:Kd.R Kd.bool 4 cK w.heap.size (fun _=>True) (.slice (some ⟨aC,0,none⟩) am.length bB) aY:=(by rw[hw,bq.o];exact a9.1);clear a9;replace al:=A_ (Kd.qH (v:=(.slice (some ⟨aC,0,none⟩) am.length bB)) al.o (Kd.tu aj.o) d_ hg);replace aj:=A_ (a_);replace HB:=A_ ((by rw[hw];exact mY (HB.o) df.o:Below w.heap.size w cK));clear hg hw a_)|((with_reducible refine nG (b:=.append) (xs:= #[.tmp 40,.tmp 42]) rfl ?_);at_builtin;refine Kd.qG (Kd.int .i64) (w0:=w) w.heap.size rfl (.tmp 40) (.tmp 42) 25 3 (.int .i64 0) 8 rfl Try.underlying25 info3 rfl d_ om u4 an (rd (f_ l0 (rd ae ab)) aa) [.int .i64 (rd (f_ l0 (rd ae ab)) aa)] (fun _=>True) (fun _=>False) rfl rfl ?aP (fun _ hk=>hk.elim) ?aF ?aO ?aB ?aS ?aL ?_;(case aP=>exact rfl);(case aB=>exact HB.o);(case aF=>exact(fun _ _=>trivial));(case aO=>exact al.o);(case aS=>exact(mK HB.o));(case aL=>have:=bj.o;omega);intro cf dD ho hb hg hat;rw[←br.o]at ho;replace aj:=A_ (Kd.qH aj.o (Kd.tu al.o) d_ hg);replace HB:=A_ (hb);have bi:=A_ (ho);clear al;clear ho hb hg hat))
       (try simp only[←ai])
       go_roundg k2
       case measure=>have:=bf.o;have:=bg.o;omega
       case rel=>exact⟨(aY),(bD),(wrap64 (aa+1)),rf,H',⟨by have:=bf.o;have:=bg.o;omega⟩,⟨by(try simp only[ag]);(try simp only[ai]);exact aj.o⟩,⟨by(try simp only[ag]);(try simp only[ai]);exact bi.o⟩,HB⟩
      have H':=A_ H
      clear H
      go_wp2
      (try simp only[←ag,←ai])
      go_roundg k2
      case measure=>have:=bf.o;have:=bg.o;omega
      case rel=>exact⟨(am),(an),(wrap64 (ab+1)),rf,H',⟨by have:=bf.o;have:=bg.o;omega⟩,⟨by(try simp only[ag]);(try simp only[ai]);exact aj.o⟩,⟨by(try simp only[ag]);(try simp only[ai]);exact al.o⟩,HB⟩
   have aA:=decide_eq_false c12;have aK:=aA
   (try rw[ag]at aK)
   clear c12;obtain rfl:=Option.some.inj H;obtain⟨b7,b9,bR⟩:=Kd.mU al.o;subst bR
   go_wp2
   go_ret
   exact⟨_,rf,al.o,HB.o⟩
set_option maxHeartbeats 8000000
set_option maxRecDepth 100000
open Go.Maps in
section
def yx (k:Int):List Int→Nat→Int
 |[],_=>0
 |x::l,n=>if x=k then(n:Int)else yx k l (n+1)
def Cy:List Int→Nat
 |[]=>0
 |x::l=>if x∈l then Cy l else Cy l+1
def Dm {H:Type}:List Int→Nat→DataW H
 |[],_=>.map []
 |x::l,i=>(Dm l (i+1)).put (.int .i64 x) (.lit (.int .i64 (i:Int)))
theorem JF (x:Int):WideAt.IsKeyLit (.int .i64 x):=trivial
theorem DL {H:Type}:∀ (l:List Int) (i:Nat),IsMap (Dm (H:=H) l i)
 |[],_=>isMap_empty
 |x::l,i=>(DL l (i+1)).put _ _
theorem J9 {H:Type}:∀ (l:List Int) (i:Nat),Tidy (Dm (H:=H) l i)
 |[],_=>tidy_empty
 |x::l,i=>(J9 l (i+1)).put (JF _) _
theorem JL {a b:Int} (h:a≠b):Lit.int .i64 b≠Lit.int .i64 a:=fun e=>h (by injection e with _ e;exact e.symm)
theorem K8 {H:Type} (k:Int):∀ (l:List Int) (i:Nat),Maps.has (Dm (H:=H) l i) (.int .i64 k)=decide (k∈l)
 |[],_=>rfl
 |x::l,i=>by
  unfold Dm
  by_cases e:x=k
  ·subst e;rw[has_put_same (DL l (i+1)) (JF _)];simp
  rw[has_put_other (JL e),K8 k l (i+1)];simp[Ne.symm e]
theorem Nw {H:Type} (k:Int):∀ (l:List Int) (i:Nat),(Dm (H:=H) l i).atKey (.int .i64 k) (.lit (.int .i64 0))=.lit (.int .i64 (yx k l i))
 |[],_=>rfl
 |x::l,i=>by
  unfold Dm yx
  by_cases e:x=k
  ·subst e;rw[if_pos rfl,atKey_put_same (DL l (i+1)) (JF _)]
  rw[if_neg e,atKey_put_other (JL e)];exact Nw k l (i+1)
theorem J6 {H:Type}:∀ (l:List Int) (i:Nat),Maps.size (Dm (H:=H) l i)=Cy l
 |[],_=>rfl
 |x::l,i=>by
  unfold Dm Cy;rw[size_put (J9 l (i+1)),K8 x l (i+1),J6 l (i+1)]
  by_cases e:x∈l<;>simp[e]
end
def uu.f (l0:List Int) (a1:Int):Option (Int):=if 0≤a1∧a1≤64 then some (yx a1 l0 0)else none
def yl.f (l0:List Int):Option (Int):=some (Cy l0:Int)
theorem Dq {l:List Int} {a t:Int} (h:uu.f l a=some t):(Lit.int .i64 a).wf=true:=by
 unfold uu.f at h
 split at h
 ·exact WalkArith.wf_i64 om
 cases h
theorem DD {l:List Int} {a t c:Int} (hat:(Dm (H:=Unit) l 0).atKey (.int .i64 a) (.lit (.int .i64 0))=.lit (.int .i64 c)) (h:uu.f l a=some t):c=t:=by
 unfold uu.f at h
 split at h
 ·rw[Nw]at hat
  injection hat with hat
  injection hat with _ hat
  injection h with h
  rw[←hat,h]
 cases h
theorem KP {l:List Int} {t:Int} (h:yl.f l=some t):((Maps.size (Dm (H:=Unit) l 0):Nat):Int)=t:=by
 rw[J6]
 injection h
structure MInv (w4 wr:World) (cl:List Int) (m:Nat):Prop where
 own:wr.ownsMap (H:=Unit) Try.prog 3 (plainElem Try.prog 3) w4.heap.size (cl.length - m) (Dm (cl.drop m) m)
 below:Below w4.heap.size w4 wr
theorem MInv.step {w4 wr w1:World} {cl:List Int} {m:Nat} (h:MInv w4 wr cl (m+1)) (hm:m+1≤cl.length) (hown:w1.ownsMap (H:=Unit) Try.prog 3 (plainElem Try.prog 3) w4.heap.size (cl.length - (m+1)+1) ((Dm (cl.drop (m+1)) (m+1)).put (.int .i64 (rd cl (m:Int))) (.lit (.int .i64 (m:Int))))) (hg:wr.grownBy w1 (some w4.heap.size)):MInv w4 w1 cl m:=by
 refine⟨?_,h.below.grown hg h.below.size (fun j hj=>by cases hj;exact Nat.le_refl _)⟩
 have e1:cl.drop m=rd cl (m:Int)::cl.drop (m+1):=by
  have:rd cl (m:Int)=cl[m]'(om):=by simp[rd,List.getD_eq_getElem?_getD,List.getElem?_eq_getElem (show m<cl.length by omega)]
  rw[this];exact List.drop_eq_getElem_cons om
 rw[e1]
 have e2:cl.length - (m+1)+1=cl.length - m:=om
 rw[←e2];exact hown
mutual
def o7.l0:Nat→List (List Int)→List Int→List Int→List (List Int)→List Int→Int→Int→Option ((List (List Int))×List Int)
 |0,_,_,_,_,_,_,_=>none
 |k+1,x0,x1,x6,x9,a7,dQ,cJ=>if cJ<dQ then((uu.f x6 cJ).bind fun al=>(if 0≤al then(if al<(x0.length:Int)then(o7.l1 k x0 x1 x6 x9 a7 cJ (([]:List Int)) dQ cJ (f_ x0 al) ((f_ x0 al).length:Int) 0)else(none))else(none)))else(some (x9,a7))
def o7.l1:Nat→List (List Int)→List Int→List Int→List (List Int)→List Int→Int→List Int→Int→Int→List Int→Int→Int→Option ((List (List Int))×List Int)
 |0,_,_,_,_,_,_,_,_,_,_,_,_=>none
 |k+1,x0,x1,x6,x9,a7,fv,eS,dQ,cJ,dR,fw,cK=>if cK<fw then(if 0≤cK then(if cK<(dR.length:Int)then(if 0≤(rd dR cK)then(if(rd dR cK)<(x6.length:Int)then(if eS.length<17592186044416 then(o7.l1 k x0 x1 x6 x9 a7 fv (eS++[rd x6 (rd dR cK)]) dQ cJ dR fw (wrap64 (cK+1)))else(none))else(none))else(none))else(none))else(none))else(if x9.length<5864062014805 then((uu.f x6 fv).bind fun aw=>(if 0≤aw then(if aw<(x1.length:Int)then(if a7.length<17592186044416 then(o7.l0 k x0 x1 x6 (x9++[eS]) (a7++[rd x1 aw]) dQ (wrap64 (cJ+1)))else(none))else(none))else(none)))else(none))
end
def o7.f (k:Nat) (l0:List (List Int)) (l1:List Int) (l2:List Int):Option ((List (List Int))×List Int):=(yl.f l2).bind fun aE=>(o7.l0 k l0 l1 l2 (([]:List (List Int))) (([]:List Int)) aE 0)
mutual
def oq.l0:Nat→List (List Int)→List Int→List Int→List Int→List Int→Int→Int→Option ((List (List Int))×List Int)
 |0,_,_,_,_,_,_,_=>none
 |k+1,x9,a7,eU,bM,dS,fx,b7=>if b7<fx then(if 0≤b7 then(if b7<(dS.length:Int)then(if 0≤(rd dS b7)then(if(rd dS b7)<(bM.length:Int)then(oq.l0 k x9 a7 eU (bM.set ((rd dS b7):Int).toNat b7) dS fx (wrap64 (b7+1)))else(none))else(none))else(none))else(none))else(oq.l1 k x9 a7 bM (([]:List (List Int))) (([]:List Int)) eU (eU.length:Int) 0)
def oq.l1:Nat→List (List Int)→List Int→List Int→List (List Int)→List Int→List Int→Int→Int→Option ((List (List Int))×List Int)
 |0,_,_,_,_,_,_,_,_=>none
 |k+1,x9,a7,bM,cS,cU,aM,bK,aH=>if aH<bK then(if 0≤aH then(if aH<(aM.length:Int)then(if 0≤(rd aM aH)then(if(rd aM aH)<(x9.length:Int)then(oq.l2 k x9 a7 bM cS cU (rd aM aH) (([]:List Int)) aM bK aH (f_ x9 (rd aM aH)) ((f_ x9 (rd aM aH)).length:Int) 0)else(none))else(none))else(none))else(none))else(some (cS,cU))
def oq.l2:Nat→List (List Int)→List Int→List Int→List (List Int)→List Int→Int→List Int→List Int→Int→Int→List Int→Int→Int→Option ((List (List Int))×List Int)
 |0,_,_,_,_,_,_,_,_,_,_,_,_,_=>none
 |k+1,x9,a7,bM,cS,cU,ed,eV,aM,bK,aH,bL,dP,ba=>if ba<dP then(if 0≤ba then(if ba<(bL.length:Int)then(if 0≤(rd bL ba)then(if(rd bL ba)<(bM.length:Int)then(if eV.length<17592186044416 then(oq.l2 k x9 a7 bM cS cU ed (eV++[rd bM (rd bL ba)]) aM bK aH bL dP (wrap64 (ba+1)))else(none))else(none))else(none))else(none))else(none))else(if cS.length<5864062014805 then(if 0≤ed then(if ed<(a7.length:Int)then(if cU.length<17592186044416 then(oq.l1 k x9 a7 bM (cS++[eV]) (cU++[rd a7 ed]) aM bK (wrap64 (aH+1)))else(none))else(none))else(none))else(none))
end
def oq.f (k:Nat) (l0:List (List Int)) (l1:List Int):Option ((List (List Int))×List Int):=(oJ.f k l0).bind fun aa=>(if 0≤(l0.length:Int)then(if((l0.length:Int):Int).toNat≤35184372088832 then(oq.l0 k l0 l1 aa (List.replicate ((l0.length:Int):Int).toNat 0) aa (aa.length:Int) 0)else(none))else(none))
def tH.f (k:Nat) (l0:List (List Int)) (l1:List Int):Option ((List (List Int))×List Int):=(nS.f k l0 l1).bind fun c=>if c.length≤64∧l0.length=c.length∧∀x∈c,0≤x∧x≤64 then(o7.f k l0 l1 c).bind fun m=>oq.f k m.1 m.2 else none
theorem FN {k:Nat} {l0:List (List Int)} {l1:List Int} {r:(List (List Int))×List Int} (h:tH.f k l0 l1=some r):∃c,nS.f k l0 l1=some c∧(c.length≤64∧l0.length=c.length∧∀x∈c,0≤x∧x≤64)∧∃m1 m2,o7.f k l0 l1 c=some (m1,m2)∧oq.f k m1 m2=some r:=by
 unfold tH.f at h;obtain⟨c,hc,h⟩:=Option.bind_eq_some_iff.mp h
 split at h
 ·rename_i hg
  obtain⟨⟨m1,m2⟩,hm,h⟩:=Option.bind_eq_some_iff.mp h;exact⟨c,hc,hg,m1,m2,hm,h⟩
 cases h
theorem OG {c:List Int} (h:∀x∈c,0≤x∧x≤64) (i:Nat) (hi:i<c.length):0≤rd c (i:Int)∧rd c (i:Int)≤64:=by
 have:rd c (i:Int)=c[i]:=by simp[rd,List.getD_eq_getElem?_getD,List.getElem?_eq_getElem hi]
 rw[this];exact h _ (List.getElem_mem hi)
theorem tH.Iy (k:Nat) (A0:Option Addr) (c0:Nat) (l0:List (List Int)) (A1:Option Addr) (c1:Nat) (l1:List Int) (l2:List Int) (m1:List (List Int)) (m2:List Int) (r1:List (List Int)) (r2:List Int) (w:World) (hr0:Kd.C (Kd.slice 3 (Kd.int .i64)) w A0 l0.length l0) (hc0:l0.length≤c0) (hr1:Kd.C (Kd.int .i64) w A1 l1.length l1) (hc1:l1.length≤c1) (hcl:nS.f k l0 l1=some l2) (hlen:l2.length≤64) (hll:l0.length=l2.length) (hbd:∀x∈l2,0≤x∧x≤64) (h:o7.f k l0 l1 l2=some (m1,m2)) (h3:oq.f k m1 m2=some (r1,r2)):
  Calls Try.prog 57 #[.slice A0 l0.length c0,.slice A1 l1.length c1] w fun e w'=>∃wb:World,Below w.heap.size w wb∧∃b_ aZ:Value,e=.returned (.tuple #[b_,aZ])∧Kd.S (Kd.slice 3 (Kd.int .i64)) 25 w' wb.heap.size (o1 aZ) b_ r1∧Kd.R (Kd.int .i64) 3 w' wb.heap.size (fun _=>True) aZ r2∧Below wb.heap.size wb w':=by
 have cz:=A_ hr0;have gD:=A_ hc0;clear hr0 hc0;have HR1:=A_ hr1;have gF:=A_ hc1;clear hr1 hc1;have gM:=A_ hbd;have gN:=A_ hll;clear hbd hll;have HB:=A_ (Below.refl w.heap.size w);have A3:=A_ hcl;clear hcl;have HH:=A_ h;have gG:=A_ h3;clear h h3;have hmm:= @run_makeMap Try.prog;go_enter Try.func57,Try.ntmps57
 go_wp2_with (first|((with_reducible refine gc_ 68 rfl ?_);refine cM_ E68 28 (nS.calls k _ _ l0 _ _ l1 l2 _ (by repeat (first|exact cz.o|(with_reducible refine Kd.C_alloc ?_ _)|(with_reducible refine Kd.oH ?_ _)|(with_reducible refine Kd.pG ?_))) gD.o (by repeat (first|exact HR1.o|(with_reducible refine Kd.C_alloc ?_ _)|(with_reducible refine Kd.oH ?_ _)|(with_reducible refine Kd.pG ?_))) gF.o A3.o) ?_;rintro e w4 ⟨fO,rfl,ho0,hb⟩;refine⟨_,rfl,?_⟩;have bc:=A_ (Kd.nE ho0 (mK HB.o));replace HB:=bs_ HB hb;clear hb;(try clear ho0)))
 obtain⟨A2,c2,e2⟩:=Kd.mU bc.o;subst e2;have gP:=A_ (Kd.mX bc.o).2.1;have HR2:=A_ (Kd.mX bc.o).2.2;clear bc
 have hwl:wrap64 ((l2.length:Int) - 1)=(l2.length:Int) - 1:=by unfold wrap64;omega
 have gH:=A_ (MInv.mk (w4:=w4) (wr:=w4.alloc (.map #[] 0)) (cl:=l2) (m:=l2.length) (by rw[Nat.sub_self,List.drop_length];exact World.ownsMap_made _ _ _ _) (pI (Below.refl _ _) _))
 go_loopw [8] (fun v8 wr=>∃m:Nat,m≤l2.length∧v8=.int .i64 ((m:Int) - 1)∧Aside0 (MInv w4 wr l2 m))
  (fun v8 _=>(intOf v8+1).toNat)
 case atStart=>exact⟨l2.length,Nat.le_refl _,by first|rfl|(rw[gN.o];first|rfl|(simp[hwl];done)|(rw[hwl])),gH⟩
 case round=>
  obtain⟨m,hm,rfl,HM⟩:=hrel;clear gH
  cases m with
  |succ m=>
   have b9:((m+1:Nat):Int) - 1=(m:Int):=om
   rw[b9]
   have cA:(0:Int)≤(m:Int):=om
   have cI:(m:Int)<(l2.length:Int):=om
   obtain⟨ff,eu,U⟩:=Kd.nM HR2.o (m:Int) cA cI;subst eu;replace U:=(HM.o.below.cell (World.block_lt_of_cell? _ _ U)).trans U;rw[Int.toNat_natCast]at U;have hbx:=OG gM.o m om;have hown:=HM.o.own
   have hws:wrap64 ((m:Int) - 1)=(m:Int) - 1:=by unfold wrap64;omega
   replace cA:=eq_true cA;replace cI:=eq_true cI
   go_wp2_with (at_mapUpdate;refine wpList_mapUpdate_own _ rfl _ _ _ 83 rfl 3 3 (Maps.int_keyed Try.underlying3) Try.underlying83 _ w4.heap.size _ _ rfl hown (by unfold maxLen;omega) _ _ _ rfl rfl (Maps.keyOf_int_mk Try.underlying3 (WalkArith.wf_i64 om)) _ [] (plainElem_int Try.underlying3 (WalkArith.wf_i64 om)) ?_;intro w1 hown1 hg1)
   go_roundw
   case rel=>exact⟨m,om,(by first|rfl|(rw[hws];done)|(rw[hws];rfl)|(simp[hws];done)),⟨HM.o.step hm hown1 hg1⟩⟩
   case measure=>(simp[intOf])<;>omega
  |zero=>
   have b9:((0:Nat):Int) - 1= -1:=om
   rw[b9];have hmap:=HM.o.own;rw[List.drop_zero]at hmap;have hbw:=HM.o.below;obtain⟨wb,hwb⟩:∃wb,wb=wr:=⟨_,rfl⟩;subst hwb;have aK:=A_ hmap;have fe:=A_ (Kd.mO (Kd.mO cz.o HB.o) hbw);have fT:=A_ (Kd.mO (Kd.mO HR1.o HB.o) hbw);have fU:=A_ (Kd.mO HR2.o hbw);have gI:=A_ (nZ HB.o hbw);clear cz HR1 HR2 HB HM hmap hbw;have cz:=fe;have HR1:=fT;have HR2:=fU;clear fe fT fU;obtain⟨BM,gp⟩:∃BM,BM=w4.heap.size:=⟨_,rfl⟩;rw[←gp]at aK;rw[←gp];clear gp;have HB:=A_ (Below.refl wb.heap.size wb)
   have H:((yl.f l2).bind fun aE=>(o7.l0 k l0 l1 l2 (([]:List (List Int))) (([]:List Int)) aE 0))=some (m1,m2):=HH.o
   clear HH;obtain⟨cL,bu⟩:=ex_ ((([]:List (List Int))):List (List Int));rw[←bu]at H;have dp:=A_ bu;clear bu;obtain⟨dT,bv⟩:=ex_ ((([]:List Int)):List Int);rw[←bv]at H;have dq:=A_ bv;clear bv;replace ⟨aE,A4,H⟩:=bA_ H
   have H':=A_ H
   clear H
   go_wp2_with (first|((with_reducible refine gt_ 43 ?_);refine Kd.CK (Kd.slice 3 (Kd.int .i64)) _ 25 ?hg (N:=43) ?hd (xs:=([]:List (List Int))) (inner:=[]) (ok:=fun _=>True) (okp:=fun _=>True) ?hr ?hp (fun _ hk=>hk) trivial (Below.refl _ _) (Nat.le_refl _) sp ?_;(case hd|hg=>rfl);(case hr=>go_simp;done);(case hp=>exact(qK.none _ _));rintro fB w5 gq hb - -;(rw[←dp.o]at gq);have bk:=A_ (Kd.uy gq (mK HB.o));replace HB:=bs_ HB hb;clear hb gq)|((with_reducible refine gd_ 44 rfl ?_);refine RL_ 44 3 [] [] rfl rfl (by go_simp;done) rfl rfl ?_;rintro fC w7 a_ hb - -;(rw[←dq.o]at a_);replace bk:=A_ (Kd.rz bk.o (Kd.nW a_) hb);have cX:=A_ (Kd.nE a_ (mK HB.o));replace HB:=bs_ HB hb;clear hb a_)|((with_reducible refine gt_ 46 ?_);at_len;refine wpList_len_own _ rfl _ 83 rfl 3 3 Try.underlying83 _ BM _ _ rfl (by repeat (first|(with_reducible exact xL aK.o HB.o)|(with_reducible refine World.ownsMap.alloc ?_ _)|(refine J ?_ _))) ?_;rw[KP A4.o]))
   go_loopg [9,10,47] k (fun kq v9 fu fP w'=>∃ (ae:List (List Int)) (ag:List Int) (ar:Int),fP=.int .i64 ar∧Aside0 (o7.l0 kq l0 l1 l2 ae ag aE ar=some (m1,m2))∧Aside0 (kq≤k)∧Aside0 (Kd.S (Kd.slice 3 (Kd.int .i64)) 25 w' wb.heap.size (o1 fu) v9 ae)∧Aside0 (Kd.R (Kd.int .i64) 3 w' wb.heap.size (fun _=>True) fu ag)∧Aside0 (Below wb.heap.size wb w'))
   case atStart=>exact⟨(cL),(dT),(0),rf,H',⟨Nat.le_refl _⟩,⟨by exact Kd.nV bk.o (fun _ hk=>hk.2)⟩,cX,HB⟩
   case round=>
    clear H';obtain⟨ae,ag,ar,rfl,HA,bj,ax,an,HB⟩:=hrel
    cases gk with
    |zero=>exact nz_ HA.o
    |succ k1=>
     have H:=HA.o;clear HA;simp only[o7.l0]at H
     replace H:=Hi_ H;rcases H with⟨dJ,H⟩|⟨dJ,H⟩
     ·obtain⟨dU,bw⟩:=ex_ ((([]:List Int)):List Int);rw[←bw]at H;have dt:=A_ bw;clear bw;replace ⟨al,gJ,H⟩:=bA_ H
      replace ⟨b2,H⟩:=Hd_ H
      replace ⟨b3,H⟩:=Hd_ H
      have H':=A_ H
      clear H
      go_wp2_with (first|((with_reducible refine gd_ 50 rfl ?_);refine RL_ 50 3 [] [] rfl rfl (by go_simp;done) rfl rfl ?_;rintro fD gZ br hb - -;(rw[←dt.o]at br);replace ax:=A_ (Kd.rz ax.o (Kd.nW br) hb);have cY:=A_ (Kd.nE (Kd.qF br (Kd.oV an.o)) (mK HB.o));replace an:=A_ (Kd.oz an.o (Kd.nW br) hb);replace HB:=bs_ HB hb;clear hb br)|((with_reducible refine gt_ 54 ?_);at_lookup;refine wpList_lookup_own_int _ rfl _ _ 83 rfl 3 3 .i64 (Maps.int_keyed Try.underlying3) Try.underlying83 Try.underlying3 (BH _) BM _ _ rfl (by repeat (first|(with_reducible exact xL aK.o HB.o)|(with_reducible refine World.ownsMap.alloc ?_ _)|(refine J ?_ _))) _ _ rfl (Maps.keyOf_int_mk Try.underlying3 (Dq gJ.o)) ?_;intro c_ aR cu;obtain rfl:al=c_:=(DD aR gJ.o).symm;clear aR cu;have bS:0≤(al:Int):=oa_;have bV:al<(l0.length:Int):=oa_;obtain⟨eX,ef,eh,eo,aI,bh,bf⟩:=qM cz.o al bS bV;cases eo;replace aI:=cm_ HB aI;have bO:=A_ bf;have d6:=A_ bh;clear bf bh;replace bS:=eq_true bS;replace bV:=eq_true bV))
      go_loopg [12,58] k1 (fun kq eR fQ w'=>∃ (aA:List Int) (am:Int),fQ=.int .i64 am∧Aside0 (o7.l1 kq l0 l1 l2 ae ag ar aA aE ar (f_ l0 al) ((f_ l0 al).length:Int) am=some (m1,m2))∧Aside0 (kq≤k1)∧Aside0 (Kd.S (Kd.slice 3 (Kd.int .i64)) 25 w' wb.heap.size (o2 u10 eR) u9 ae)∧Aside0 (Kd.R (Kd.int .i64) 3 w' wb.heap.size (o1 eR) u10 ag)∧Aside0 (Kd.R (Kd.int .i64) 3 w' wb.heap.size (o1 u10) eR aA)∧Aside0 (Below wb.heap.size wb w'))
      case atStart=>exact⟨(dU),(0),rf,H',⟨Nat.le_refl _⟩,ax,⟨by exact Kd.mM an.o (fun _ hk=>hk.2)⟩,⟨by exact Kd.mM cY.o (fun _ hk=>hk.2)⟩,HB⟩
      case round=>
       clear H'
       clear dJ b2 b3 aI bS bV
       obtain⟨aA,am,rfl,HA,bN,ax,an,aQ,HB⟩:=hrel
       cases gk with
       |zero=>exact nz_ HA.o
       |succ k2=>
        have H:=HA.o;clear HA;simp only[o7.l1]at H
        replace H:=Hi_ H;rcases H with⟨dF,H⟩|⟨dF,H⟩
        ·replace ⟨fi,H⟩:=Hd_ H
         replace ⟨fj,H⟩:=Hd_ H
         replace ⟨fk,H⟩:=Hd_ H
         replace ⟨fl,H⟩:=Hd_ H
         replace ⟨dh,H⟩:=Ha_ H
         obtain⟨dV,bz⟩:=ex_ ((aA++[rd l2 (rd (f_ l0 al) am)]):List Int);rw[←bz]at H;have du:=A_ bz;clear bz
         have H':=A_ H
         clear H
         have cf:0≤(am:Int):=oa_
         have cB:am<((f_ l0 al).length:Int):=oa_
         obtain⟨eY,ep,aU⟩:=Kd.nM bO.o am cf cB
         cases ep
         replace aU:=cm_ HB aU;replace cf:=eq_true cf;replace cB:=eq_true cB
         have cg:0≤((rd (f_ l0 al) am):Int):=oa_
         have cC:(rd (f_ l0 al) am)<(l2.length:Int):=oa_
         obtain⟨eZ,eq,aV⟩:=Kd.nM HR2.o (rd (f_ l0 al) am) cg cC
         cases eq
         replace aV:=cm_ HB aV;replace cg:=eq_true cg;replace cC:=eq_true cC
         go_wp2_with (first|((with_reducible refine nG (b:=.append) (xs:= #[.tmp 62,.tmp 67]) rfl ?_);at_builtin;refine Kd.qG (Kd.int .i64) (w0:=wb) wb.heap.size rfl (.tmp 62) (.tmp 67) 25 3 (.int .i64 0) 8 rfl Try.underlying25 info3 rfl d_ om u12 aA (rd l2 (rd (f_ l0 al) am)) [.int .i64 (rd l2 (rd (f_ l0 al) am))] (o1 u10) (fun _=>False) rfl rfl ?aP (fun _ hk=>hk.elim) ?aF ?aO ?aB ?aS ?aL ?_;(case aP=>exact rfl);(case aB=>exact HB.o);(case aF=>exact(fun k_ hk=>Kd.fresh' (Kd.oV an.o) k_ hk));(case aO=>exact aQ.o);(case aS=>exact(mK HB.o));(case aL=>have:=dh.o;omega);intro fE g_ ho hb hg hat;rw[←du.o]at ho;replace ax:=A_ (Kd.sF (ok:=(o1 u10)) ax.o hg hat);replace an:=A_ (Kd.pq (ok:=(fun _=>True)) (by exact Kd.mM an.o (fun _ hk=>⟨trivial,hk⟩)) hg hat);replace HB:=A_ (hb);have cZ:=A_ (ho);clear aQ;clear ho hb hg hat))
         go_roundg k2
         case measure=>have:=bj.o;have:=bN.o;omega
         case rel=>exact⟨(dV),(wrap64 (am+1)),rf,H',⟨by have:=bj.o;have:=bN.o;omega⟩,ax,⟨by exact Kd.mM an.o (fun _ hk=>hk.2)⟩,cZ,HB⟩
        replace ⟨di,H⟩:=Ha_ H
        obtain⟨cN,bA⟩:=ex_ ((ae++[aA]):List (List Int));rw[←bA]at H;have dv:=A_ bA;clear bA;replace ⟨aw,gK,H⟩:=bA_ H
        replace ⟨b5,H⟩:=Hd_ H
        replace ⟨b6,H⟩:=Hd_ H
        replace ⟨dj,H⟩:=Ha_ H
        obtain⟨dW,bB⟩:=ex_ ((ag++[rd l1 aw]):List Int);rw[←bB]at H;have dw:=A_ bB;clear bB
        have H':=A_ H
        clear H;obtain⟨cV,dK,eG⟩:=Kd.mU aQ.o;subst eG
        go_wp2_with (first|((with_reducible refine nG (b:=.append) (xs:= #[.tmp 70,.tmp 72]) rfl ?_);at_builtin;refine Kd.uq (Kd.slice 3 (Kd.int .i64)) (w0:=wb) wb.heap.size rfl (.tmp 70) (.tmp 72) 24 25 (.slice none 0 0) 24 rfl Try.underlying24 uO rfl d_ om u9 ae aA [.slice cV aA.length dK] (o1 u10) (fun k_=>some k_=(.slice cV aA.length dK:Value).ownBlock) rfl rfl ?aP (fun k_ gu=>((Kd.mM (ok':=fun k_=>((o1 u10)) k_∧some k_≠(u9:Value).ownBlock) (Kd.pE (aQ.o) (Kd.oL ax.o) d_) (fun k_ hk=>⟨hk.1,hk.2⟩))).1 k_ gu.symm) ?aF ?aO ?aB ?aS ?aL ?_;(case aP=>exact Kd.uR (Kd.mM (Kd.sD rfl (Kd.mM (ok':=fun k_=>((o1 u10)) k_∧some k_≠(u9:Value).ownBlock) (Kd.pE (aQ.o) (Kd.oL ax.o) d_) (fun k_ hk=>⟨hk.1,hk.2⟩))) (fun _ h_=>h_)));(case aB=>exact HB.o);(case aF=>exact(fun k_ hk=>Kd.fresh' (Kd.oV an.o) k_ hk));(case aO=>exact(by exact Kd.nV ax.o (fun k_ hk=>⟨hk.1,fun e_=>hk.2 e_⟩)));(case aS=>exact(mK HB.o));(case aL=>have:=di.o;omega);intro fF gQ ho hb hg hat;rw[←dv.o]at ho;replace an:=A_ (Kd.qH an.o (Kd.oL ax.o) d_ hg);replace HB:=A_ (hb);have bm:=A_ (ho);clear ax aQ;clear ho hb hg hat)|((with_reducible refine gt_ 78 ?_);at_lookup;refine wpList_lookup_own_int _ rfl _ _ 83 rfl 3 3 .i64 (Maps.int_keyed Try.underlying3) Try.underlying83 Try.underlying3 (BH _) BM _ _ rfl (by repeat (first|(with_reducible exact xL aK.o HB.o)|(with_reducible refine World.ownsMap.alloc ?_ _)|(refine J ?_ _))) _ _ rfl (Maps.keyOf_int_mk Try.underlying3 (Dq gK.o)) ?_;intro c_ aR cu;obtain rfl:aw=c_:=(DD aR gK.o).symm;clear aR cu;have ch:0≤(aw:Int):=oa_;have cD:aw<(l1.length:Int):=oa_;obtain⟨fa,ew,aW⟩:=Kd.nM HR1.o aw ch cD;cases ew;replace aW:=cm_ HB aW;replace ch:=eq_true ch;replace cD:=eq_true cD)|((with_reducible refine nG (b:=.append) (xs:= #[.tmp 74,.tmp 81]) rfl ?_);at_builtin;refine Kd.qG (Kd.int .i64) (w0:=wb) wb.heap.size rfl (.tmp 74) (.tmp 81) 25 3 (.int .i64 0) 8 rfl Try.underlying25 info3 rfl d_ om u10 ag (rd l1 aw) [.int .i64 (rd l1 aw)] (fun _=>True) (fun _=>False) rfl rfl ?aP (fun _ hk=>hk.elim) ?aF ?aO ?aB ?aS ?aL ?_;(case aP=>exact rfl);(case aB=>exact HB.o);(case aF=>exact(fun _ _=>trivial));(case aO=>exact(by exact Kd.mM an.o (fun _ hk=>trivial)));(case aS=>exact(mK HB.o));(case aL=>have:=dj.o;omega);intro fG ib ho hb hg hat;rw[←dw.o]at ho;replace bm:=A_ (Kd.sF (ok:=(fun _=>True)) (by exact Kd.nV bm.o (fun _ hk=>⟨trivial,hk⟩)) hg hat);replace HB:=A_ (hb);have da:=A_ (ho);clear an;clear ho hb hg hat))
        go_roundg k2
        case measure=>have:=bj.o;have:=bN.o;omega
        case rel=>exact⟨(cN),(dW),(wrap64 (ar+1)),rf,H',⟨by have:=bj.o;have:=bN.o;omega⟩,⟨by exact Kd.nV bm.o (fun _ hk=>hk.2)⟩,da,HB⟩
     simp only[Option.some.injEq,Prod.mk.injEq]at H;obtain⟨rfl,rfl⟩:=H;clear bj;obtain⟨AM,cM,eM⟩:=Kd.rO ax.o;subst eM;obtain⟨AT,cT,eT⟩:=Kd.mU an.o;subst eT;obtain⟨wc,hwc⟩:∃wc,wc=wr:=⟨_,rfl⟩;subst hwc;have gT:=A_ (nZ gI.o HB.o);have HCM:=A_ (Kd.rq ax.o).2.1;have gL:=A_ (Kd.rq ax.o).2.2;have ic:=A_ (Kd.mX an.o).2.1;have gU:=A_ (Kd.mX an.o).2.2;clear ax an HB cz HR1 HR2 gD gF gP aK gI;have HB:=A_ (Below.refl wc.heap.size wc)
     have H:((oJ.f k ae).bind fun aa=>(if 0≤(ae.length:Int)then(if((ae.length:Int):Int).toNat≤35184372088832 then(oq.l0 k ae ag aa (List.replicate ((ae.length:Int):Int).toNat 0) aa (aa.length:Int) 0)else(none))else(none)))=some (r1,r2):=gG.o
     clear gG;replace ⟨aa,A3,H⟩:=bA_ H
     replace ⟨c4,H⟩:=Hp_ H
     have ej:=eq_true c4;have ek:=decide_eq_true c4;clear c4
     replace ⟨c5,H⟩:=Hp_ H
     have el:=eq_true c5;have em:=decide_eq_true c5;clear c5;obtain⟨dX,bC⟩:=ex_ ((List.replicate ((ae.length:Int):Int).toNat 0):List Int);rw[←bC]at H;have dx:=A_ bC;clear bC
     have H':=A_ H
     clear H
     go_wp2_with (first|((with_reducible refine gc_ 69 rfl ?_);refine cM_ E69 85 (oJ.calls k _ _ ae aa _ (by repeat (first|exact gL.o|(with_reducible refine Kd.C_alloc ?_ _)|(with_reducible refine Kd.oH ?_ _)|(with_reducible refine Kd.pG ?_))) HCM.o A3.o) ?_;rintro e w6 ⟨fH,rfl,ho0,hb⟩;refine⟨_,rfl,?_⟩;have aN:=A_ (Kd.nE ho0 (mK HB.o));replace HB:=bs_ HB hb;clear hb;(try clear ho0))|((with_reducible refine gt_ 88 ?_);refine Kd.Ce (Kd.int .i64) _ 3 rfl (N:=88) rfl 25 _ _ rfl (ae.length:Int) rfl rfl Try.underlying25 (.int .i64 0) 8 info3 rfl d_ om 0 (ok:=fun _=>True) (okp:=fun _=>True) rfl (fun _ hk=>hk) trivial oa_ (Nat.le_trans (Nat.mul_le_mul_right _ (oa_:(ae.length:Int).toNat≤35184372088832)) om) (Below.refl _ _) (Nat.le_refl _) ?_;rintro av w7 a_ hb - -;(rw[←dx.o]at a_);have db:=A_ (Kd.nE (Kd.qF a_ (Kd.oV aN.o)) (mK HB.o));replace aN:=A_ (Kd.oz aN.o (Kd.nW a_) hb);replace HB:=bs_ HB hb;clear hb a_;obtain⟨bY,aG,fz⟩:=Kd.mU aN.o;subst fz))
     go_loopg [91] k (fun kq fR w'=>∃ (ah:List Int) (ak:Int),fR=.int .i64 ak∧Aside0 (oq.l0 kq ae ag aa ah aa (aa.length:Int) ak=some (r1,r2))∧Aside0 (kq≤k)∧Aside0 (Kd.R (Kd.int .i64) 3 w' wc.heap.size (o1 av) (.slice bY aa.length aG) aa)∧Aside0 (Kd.R (Kd.int .i64) 3 w' wc.heap.size (o2 (.slice bY aa.length aG) (.slice bY aa.length aG)) av ah)∧Aside0 (Kd.R (Kd.int .i64) 3 w' wc.heap.size (o1 av) (.slice bY aa.length aG) aa)∧Aside0 (Below wc.heap.size wc w'))
     case atStart=>exact⟨(dX),(0),rf,H',⟨Nat.le_refl _⟩,⟨by exact Kd.mM aN.o (fun _ hk=>hk.2)⟩,⟨by exact Kd.mM db.o (fun _ hk=>⟨hk.2,hk.2⟩)⟩,⟨by exact Kd.mM aN.o (fun _ hk=>hk.2)⟩,HB⟩
     case round=>
      clear H'
      clear ej ek el em
      obtain⟨ah,ak,rfl,HA,bj,ay,af,az,HB⟩:=hrel
      cases gk with
      |zero=>exact nz_ HA.o
      |succ k1=>
       have H:=HA.o;clear HA;simp only[oq.l0]at H
       replace H:=Hi_ H;rcases H with⟨b1,H⟩|⟨b1,H⟩
       ·replace ⟨b2,H⟩:=Hd_ H
        replace ⟨b3,H⟩:=Hd_ H
        replace ⟨fg,H⟩:=Hd_ H
        replace ⟨fh,H⟩:=Hd_ H
        obtain⟨cO,bD⟩:=ex_ ((ah.set ((rd aa ak):Int).toNat ak):List Int);rw[←bD]at H;have dy:=A_ bD;clear bD
        have H':=A_ H
        clear H
        have ci:0≤(ak:Int):=oa_
        have cE:ak<(aa.length:Int):=oa_
        obtain⟨bZ,ez,d9⟩:=Kd.nM (Kd.mX az.o).2.2 ak ci cE
        cases ez
        replace ci:=eq_true ci;replace cE:=eq_true cE
        have eN:0≤((rd aa ak):Int):=oa_
        have eO:((rd aa ak):Int)<((ah.length:Int):Int):=oa_
        obtain⟨cc,en,dM,dN,gy,gV,fV⟩:=Kd.sj af.o om
        (first|cases dM|(injection dM with fZ gW gX;(first|subst fZ|(injection fZ with fZ;subst fZ));subst gX;clear gW))
        have gz:=A_ dN;have gY:=A_ fV;clear dN gy fV;obtain⟨eK,eJ⟩:=Kd.rF 0 af.o ((rd aa ak):Int) eN eO;replace eN:=eq_true eN;replace eO:=eq_true eO;have b8:=Kd.uo af.o ((rd aa ak):Int) ak
        go_wp2_with (first|((with_reducible refine qz (t:=3) (p:=99) rfl ?_);refine qa (t:=3) (p:=99) (w1:=(wr.setCell ⟨cc,((rd aa ak):Int).toNat,none⟩ (.int .i64 ak))) rfl rfl rfl (by go_simp;done) ?_;intro gB hw;have hg:wr.grownBy gB (some cc):=(by rw[hw];exact b8.2);have gm:Kd.R (Kd.int .i64) 3 gB wc.heap.size (o2 (.slice (some bZ) aa.length aG) (.slice (some bZ) aa.length aG)) (.slice (some ⟨cc,0,none⟩) ah.length en) cO:=(by rw[hw,dy.o];exact b8.1);clear b8;replace ay:=rB_ (ok:=(fun _=>True)) gm ay (fun _ hk=>⟨trivial,hk⟩) hg;replace af:=A_ (gm);replace az:=rB_ (ok:=(fun _=>True)) gm az (fun _ hk=>⟨trivial,hk⟩) hg;replace HB:=A_ ((by rw[hw];exact mY (HB.o) gz.o:Below wc.heap.size wc gB));clear hg hw gm))
        go_roundg k1
        case measure=>have:=bj.o;omega
        case rel=>exact⟨(cO),(wrap64 (ak+1)),rf,H',⟨by have:=bj.o;omega⟩,⟨by exact Kd.mM ay.o (fun _ hk=>hk.2)⟩,af,⟨by exact Kd.mM az.o (fun _ hk=>hk.2)⟩,HB⟩
       obtain⟨cP,bE⟩:=ex_ ((([]:List (List Int))):List (List Int));rw[←bE]at H;have dz:=A_ bE;clear bE;obtain⟨dY,bF⟩:=ex_ ((([]:List Int)):List Int);rw[←bF]at H;have dA:=A_ bF;clear bF
       have H':=A_ H
       clear H
       go_wp2_with (first|((with_reducible refine gt_ 101 ?_);refine Kd.CK (Kd.slice 3 (Kd.int .i64)) _ 25 ?hg (N:=101) ?hd (xs:=([]:List (List Int))) (inner:=[]) (ok:=fun _=>True) (okp:=fun _=>True) ?hr ?hp (fun _ hk=>hk) trivial (Below.refl _ _) (Nat.le_refl _) sp ?_;(case hd|hg=>rfl);(case hr=>go_simp;done);(case hp=>exact(qK.none _ _));rintro fI ig cd hb - -;(rw[←dz.o]at cd);have bn:=A_ (Kd.uy (Kd.xg (Kd.xg (Kd.xg cd (Kd.oV ay.o)) (Kd.oV af.o)) (Kd.oV az.o)) (mK HB.o));replace ay:=A_ (Kd.nX ay.o hb);replace af:=A_ (Kd.nX af.o hb);replace az:=A_ (Kd.nX az.o hb);replace HB:=bs_ HB hb;clear hb cd)|((with_reducible refine gd_ 102 rfl ?_);refine RL_ 102 3 [] [] rfl rfl (by go_simp;done) rfl rfl ?_;rintro fJ ik a8 hb - -;(rw[←dA.o]at a8);replace bn:=A_ (Kd.rz bn.o (Kd.nW a8) hb);have dd:=A_ (Kd.nE (Kd.qF (Kd.qF (Kd.qF a8 (Kd.oV ay.o)) (Kd.oV af.o)) (Kd.oV az.o)) (mK HB.o));replace ay:=A_ (Kd.oz ay.o (Kd.nW a8) hb);replace af:=A_ (Kd.oz af.o (Kd.nW a8) hb);replace az:=A_ (Kd.oz az.o (Kd.nW a8) hb);replace HB:=bs_ HB hb;clear hb a8))
       go_loopg [19,20,105] k1 (fun kq fA ec eP w'=>∃ (aC:List (List Int)) (au:List Int) (ab:Int),eP=.int .i64 ab∧Aside0 (oq.l1 kq ae ag ah aC au aa (aa.length:Int) ab=some (r1,r2))∧Aside0 (kq≤k1)∧Aside0 (Kd.R (Kd.int .i64) 3 w' wc.heap.size (o2 ec (.slice bY aa.length aG)) av ah)∧Aside0 (Kd.S (Kd.slice 3 (Kd.int .i64)) 25 w' wc.heap.size (o3 av ec (.slice bY aa.length aG)) fA aC)∧Aside0 (Kd.R (Kd.int .i64) 3 w' wc.heap.size (o2 av (.slice bY aa.length aG)) ec au)∧Aside0 (Kd.R (Kd.int .i64) 3 w' wc.heap.size (o2 av ec) (.slice bY aa.length aG) aa)∧Aside0 (Below wc.heap.size wc w'))
       case atStart=>exact⟨(cP),(dY),(0),rf,H',⟨Nat.le_refl _⟩,⟨by exact Kd.mM af.o (fun _ hk=>⟨hk.2,hk.1.1⟩)⟩,⟨by exact Kd.nV bn.o (fun _ hk=>⟨hk.1.1.2,⟨hk.2,hk.1.1.1.2⟩⟩)⟩,⟨by exact Kd.mM dd.o (fun _ hk=>⟨hk.1.2,hk.1.1.2⟩)⟩,ay,HB⟩
       case round=>
        clear H'
        try clear b1
        obtain⟨aC,au,ab,rfl,HA,bN,af,ao,ap,aj,HB⟩:=hrel
        cases gk with
        |zero=>exact nz_ HA.o
        |succ k2=>
         have H:=HA.o;clear HA;simp only[oq.l1]at H
         replace H:=Hi_ H;rcases H with⟨b4,H⟩|⟨b4,H⟩
         ·replace ⟨dG,H⟩:=Hd_ H
          replace ⟨b5,H⟩:=Hd_ H
          obtain⟨dZ,bG⟩:=ex_ ((([]:List Int)):List Int);rw[←bG]at H;have dB:=A_ bG;clear bG
          replace ⟨b6,H⟩:=Hd_ H
          replace ⟨dH,H⟩:=Hd_ H
          have H':=A_ H
          clear H
          have bT:0≤(ab:Int):=oa_
          have bW:ab<(aa.length:Int):=oa_
          obtain⟨aq,eB,bR⟩:=Kd.nM (Kd.mX aj.o).2.2 ab bT bW
          cases eB
          replace bT:=eq_true bT;replace bW:=eq_true bW
          go_wp2_with (first|((with_reducible refine gd_ 109 rfl ?_);refine RL_ 109 3 [] [] rfl rfl (by go_simp;done) rfl rfl ?_;rintro fK gQ a9 hb - -;(rw[←dB.o]at a9);replace ao:=A_ (Kd.rz ao.o (Kd.nW a9) hb);have de:=A_ (Kd.nE (Kd.qF (Kd.qF (Kd.qF a9 (Kd.oV af.o)) (Kd.oV ap.o)) (Kd.oV aj.o)) (mK HB.o));replace af:=A_ (Kd.oz af.o (Kd.nW a9) hb);replace ap:=A_ (Kd.oz ap.o (Kd.nW a9) hb);replace aj:=A_ (Kd.oz aj.o (Kd.nW a9) hb);replace HB:=bs_ HB hb;clear hb a9;have bU:0≤((rd aa ab):Int):=oa_;have bX:(rd aa ab)<(ae.length:Int):=oa_;obtain⟨fb,eg,ei,eC,aJ,bi,bg⟩:=qM gL.o (rd aa ab) bU bX;cases eC;replace aJ:=cm_ HB aJ;have bP:=A_ bg;have d7:=A_ bi;clear bg bi;replace bU:=eq_true bU;replace bX:=eq_true bX))
          go_loopg [23,115] k2 (fun kq dO eQ w'=>∃ (aD:List Int) (ai:Int),eQ=.int .i64 ai∧Aside0 (oq.l2 kq ae ag ah aC au (rd aa ab) aD aa (aa.length:Int) ab (f_ ae (rd aa ab)) ((f_ ae (rd aa ab)).length:Int) ai=some (r1,r2))∧Aside0 (kq≤k2)∧Aside0 (Kd.R (Kd.int .i64) 3 w' wc.heap.size (o3 u20 dO (.slice (some aq) aa.length aG)) av ah)∧Aside0 (Kd.S (Kd.slice 3 (Kd.int .i64)) 25 w' wc.heap.size (o4 av u20 dO (.slice (some aq) aa.length aG)) u19 aC)∧Aside0 (Kd.R (Kd.int .i64) 3 w' wc.heap.size (o3 av dO (.slice (some aq) aa.length aG)) u20 au)∧Aside0 (Kd.R (Kd.int .i64) 3 w' wc.heap.size (o3 av u20 (.slice (some aq) aa.length aG)) dO aD)∧Aside0 (Kd.R (Kd.int .i64) 3 w' wc.heap.size (o3 av u20 dO) (.slice (some aq) aa.length aG) aa)∧Aside0 (Below wc.heap.size wc w'))
          case atStart=>exact⟨(dZ),(0),rf,H',⟨Nat.le_refl _⟩,⟨by exact Kd.mM af.o (fun _ hk=>⟨hk.1.1,⟨hk.2,hk.1.2⟩⟩)⟩,⟨by exact Kd.nV ao.o (fun _ hk=>⟨hk.1.1,⟨hk.1.2.1,⟨hk.2,hk.1.2.2⟩⟩⟩)⟩,⟨by exact Kd.mM ap.o (fun _ hk=>⟨hk.1.1,⟨hk.2,hk.1.2⟩⟩)⟩,⟨by exact Kd.mM de.o (fun _ hk=>⟨hk.1.1.2,⟨hk.1.2,hk.2⟩⟩)⟩,⟨by exact Kd.mM aj.o (fun _ hk=>⟨hk.1.1,⟨hk.1.2,hk.2⟩⟩)⟩,HB⟩
          case round=>
           clear H'
           clear b4 dG b5 b6 dH bR aJ bT bU bW bX
           obtain⟨aD,ai,rfl,HA,d8,af,ao,ap,aT,aj,HB⟩:=hrel
           cases gk with
           |zero=>exact nz_ HA.o
           |succ k3=>
            have H:=HA.o;clear HA;simp only[oq.l2]at H
            replace H:=Hi_ H;rcases H with⟨dI,H⟩|⟨dI,H⟩
            ·replace ⟨fm,H⟩:=Hd_ H
             replace ⟨fo,H⟩:=Hd_ H
             replace ⟨fp,H⟩:=Hd_ H
             replace ⟨fq,H⟩:=Hd_ H
             replace ⟨dk,H⟩:=Ha_ H
             obtain⟨d4,bH⟩:=ex_ ((aD++[rd ah (rd (f_ ae (rd aa ab)) ai)]):List Int);rw[←bH]at H;have dC:=A_ bH;clear bH
             have H':=A_ H
             clear H
             have ck:0≤(ai:Int):=oa_
             have cF:ai<((f_ ae (rd aa ab)).length:Int):=oa_
             obtain⟨fc,eD,aX⟩:=Kd.nM bP.o ai ck cF
             cases eD
             replace aX:=cm_ HB aX;replace ck:=eq_true ck;replace cF:=eq_true cF;obtain⟨fy,bQ,eH⟩:=Kd.mU af.o;subst eH
             have co:0≤((rd (f_ ae (rd aa ab)) ai):Int):=oa_
             have cG:(rd (f_ ae (rd aa ab)) ai)<(ah.length:Int):=oa_
             obtain⟨be,eE,eb⟩:=Kd.nM (Kd.mX af.o).2.2 (rd (f_ ae (rd aa ab)) ai) co cG
             cases eE
             replace co:=eq_true co;replace cG:=eq_true cG
             go_wp2_with (first|((with_reducible refine nG (b:=.append) (xs:= #[.tmp 119,.tmp 124]) rfl ?_);at_builtin;refine Kd.qG (Kd.int .i64) (w0:=wc) wc.heap.size rfl (.tmp 119) (.tmp 124) 25 3 (.int .i64 0) 8 rfl Try.underlying25 info3 rfl d_ om u23 aD (rd ah (rd (f_ ae (rd aa ab)) ai)) [.int .i64 (rd ah (rd (f_ ae (rd aa ab)) ai))] (o3 (.slice (some be) ah.length bQ) u20 (.slice (some aq) aa.length aG)) (fun _=>False) rfl rfl ?aP (fun _ hk=>hk.elim) ?aF ?aO ?aB ?aS ?aL ?_;(case aP=>exact rfl);(case aB=>exact HB.o);(case aF=>exact(fun k_ hk=>⟨Kd.fresh' (Kd.oV af.o) k_ hk,Kd.fresh' (Kd.oV ap.o) k_ hk,Kd.fresh' (Kd.oV aj.o) k_ hk⟩));(case aO=>exact aT.o);(case aS=>exact(mK HB.o));(case aL=>have:=dk.o;omega);intro fL il ho hb hg hat;rw[←dC.o]at ho;replace af:=A_ (Kd.pq (ok:=(o2 u20 (.slice (some aq) aa.length aG))) (by exact Kd.mM af.o (fun _ hk=>⟨⟨hk.1,hk.2.2⟩,hk.2.1⟩)) hg hat);replace ao:=A_ (Kd.sF (ok:=(o3 (.slice (some be) ah.length bQ) u20 (.slice (some aq) aa.length aG))) (by exact Kd.nV ao.o (fun _ hk=>⟨⟨hk.1,⟨hk.2.1,hk.2.2.2⟩⟩,hk.2.2.1⟩)) hg hat);replace ap:=A_ (Kd.pq (ok:=(o2 (.slice (some be) ah.length bQ) (.slice (some aq) aa.length aG))) (by exact Kd.mM ap.o (fun _ hk=>⟨⟨hk.1,hk.2.2⟩,hk.2.1⟩)) hg hat);replace aj:=A_ (Kd.pq (ok:=(o2 (.slice (some be) ah.length bQ) u20)) (by exact Kd.mM aj.o (fun _ hk=>⟨⟨hk.1,hk.2.1⟩,hk.2.2⟩)) hg hat);replace HB:=A_ (hb);have df:=A_ (ho);clear aT;clear ho hb hg hat))
             go_roundg k3
             case measure=>have:=bj.o;have:=bN.o;have:=d8.o;omega
             case rel=>exact⟨(d4),(wrap64 (ai+1)),rf,H',⟨by have:=bj.o;have:=bN.o;have:=d8.o;omega⟩,⟨by exact Kd.mM af.o (fun _ hk=>⟨hk.1.1,⟨hk.2,hk.1.2⟩⟩)⟩,⟨by exact Kd.nV ao.o (fun _ hk=>⟨hk.1.1,⟨hk.1.2.1,⟨hk.2,hk.1.2.2⟩⟩⟩)⟩,⟨by exact Kd.mM ap.o (fun _ hk=>⟨hk.1.1,⟨hk.2,hk.1.2⟩⟩)⟩,df,⟨by exact Kd.mM aj.o (fun _ hk=>⟨hk.1.1,⟨hk.1.2,hk.2⟩⟩)⟩,HB⟩
            replace ⟨dm,H⟩:=Ha_ H
            obtain⟨cQ,bI⟩:=ex_ ((aC++[aD]):List (List Int));rw[←bI]at H;have dD:=A_ bI;clear bI
            replace ⟨fs,H⟩:=Hd_ H
            replace ⟨ft,H⟩:=Hd_ H
            replace ⟨dn,H⟩:=Ha_ H
            obtain⟨d5,bJ⟩:=ex_ ((au++[rd ag (rd aa ab)]):List Int);rw[←bJ]at H;have dE:=A_ bJ;clear bJ
            have H':=A_ H
            clear H;obtain⟨cW,dL,eI⟩:=Kd.mU aT.o;subst eI
            go_wp2_with (first|((with_reducible refine nG (b:=.append) (xs:= #[.tmp 127,.tmp 129]) rfl ?_);at_builtin;refine Kd.uq (Kd.slice 3 (Kd.int .i64)) (w0:=wc) wc.heap.size rfl (.tmp 127) (.tmp 129) 24 25 (.slice none 0 0) 24 rfl Try.underlying24 uO rfl d_ om u19 aC aD [.slice cW aD.length dL] (o3 av u20 (.slice (some aq) aa.length aG)) (fun k_=>some k_=(.slice cW aD.length dL:Value).ownBlock) rfl rfl ?aP (fun k_ gu=>((Kd.mM (ok':=fun k_=>((o3 av u20 (.slice (some aq) aa.length aG))) k_∧some k_≠(u19:Value).ownBlock) (Kd.pE (aT.o) (Kd.oL ao.o) d_) (fun k_ hk=>⟨⟨hk.1.1,⟨hk.1.2.1,hk.1.2.2⟩⟩,hk.2⟩))).1 k_ gu.symm) ?aF ?aO ?aB ?aS ?aL ?_;(case aP=>exact Kd.uR (Kd.mM (Kd.sD rfl (Kd.mM (ok':=fun k_=>((o3 av u20 (.slice (some aq) aa.length aG))) k_∧some k_≠(u19:Value).ownBlock) (Kd.pE (aT.o) (Kd.oL ao.o) d_) (fun k_ hk=>⟨⟨hk.1.1,⟨hk.1.2.1,hk.1.2.2⟩⟩,hk.2⟩))) (fun _ h_=>h_)));(case aB=>exact HB.o);(case aF=>exact(fun k_ hk=>⟨Kd.fresh' (Kd.oV af.o) k_ hk,Kd.fresh' (Kd.oV ap.o) k_ hk,Kd.fresh' (Kd.oV aj.o) k_ hk⟩));(case aO=>exact(by exact Kd.nV ao.o (fun k_ hk=>⟨⟨hk.1,⟨hk.2.1,hk.2.2.2⟩⟩,fun e_=>hk.2.2.1 e_⟩)));(case aS=>exact(mK HB.o));(case aL=>have:=dm.o;omega);intro fM iq ho hb hg hat;rw[←dD.o]at ho;replace af:=A_ (Kd.qH af.o (Kd.oL ao.o) d_ hg);replace ap:=A_ (Kd.qH ap.o (Kd.oL ao.o) d_ hg);replace aj:=A_ (Kd.qH aj.o (Kd.oL ao.o) d_ hg);replace HB:=A_ (hb);have bq:=A_ (ho);clear ao aT;clear ho hb hg hat;have cw:0≤((rd aa ab):Int):=oa_;have cH:(rd aa ab)<(ag.length:Int):=oa_;obtain⟨fd,eF,aY⟩:=Kd.nM gU.o (rd aa ab) cw cH;cases eF;replace aY:=cm_ HB aY;replace cw:=eq_true cw;replace cH:=eq_true cH)|((with_reducible refine nG (b:=.append) (xs:= #[.tmp 131,.tmp 136]) rfl ?_);at_builtin;refine Kd.qG (Kd.int .i64) (w0:=wc) wc.heap.size rfl (.tmp 131) (.tmp 136) 25 3 (.int .i64 0) 8 rfl Try.underlying25 info3 rfl d_ om u20 au (rd ag (rd aa ab)) [.int .i64 (rd ag (rd aa ab))] (o2 av (.slice (some aq) aa.length aG)) (fun _=>False) rfl rfl ?aP (fun _ hk=>hk.elim) ?aF ?aO ?aB ?aS ?aL ?_;(case aP=>exact rfl);(case aB=>exact HB.o);(case aF=>exact(fun k_ hk=>⟨Kd.fresh' (Kd.oV af.o) k_ hk,Kd.fresh' (Kd.oV aj.o) k_ hk⟩));(case aO=>exact(by exact Kd.mM ap.o (fun _ hk=>⟨hk.1,hk.2.2⟩)));(case aS=>exact(mK HB.o));(case aL=>have:=dn.o;omega);intro fN iw ho hb hg hat;rw[←dE.o]at ho;replace af:=A_ (Kd.pq (ok:=(o1 (.slice (some aq) aa.length aG))) (by exact Kd.mM af.o (fun _ hk=>⟨hk.2.2,hk.1⟩)) hg hat);replace aj:=A_ (Kd.pq (ok:=(o1 av)) (by exact Kd.mM aj.o (fun _ hk=>⟨hk.1,hk.2.1⟩)) hg hat);replace bq:=A_ (Kd.sF (ok:=(o2 av (.slice (some aq) aa.length aG))) (by exact Kd.nV bq.o (fun _ hk=>⟨⟨hk.1,hk.2.2⟩,hk.2.1⟩)) hg hat);replace HB:=A_ (hb);have dg:=A_ (ho);clear ap;clear ho hb hg hat))
            go_roundg k3
            case measure=>have:=bj.o;have:=bN.o;have:=d8.o;omega
            case rel=>exact⟨(cQ),(d5),(wrap64 (ab+1)),rf,H',⟨by have:=bj.o;have:=bN.o;have:=d8.o;omega⟩,⟨by exact Kd.mM af.o (fun _ hk=>⟨hk.2,hk.1⟩)⟩,⟨by exact Kd.nV bq.o (fun _ hk=>⟨hk.1.1,⟨hk.2,hk.1.2⟩⟩)⟩,dg,aj,HB⟩
         simp only[Option.some.injEq,Prod.mk.injEq]at H;obtain⟨rfl,rfl⟩:=H
         go_wp2
         go_ret2
         exact⟨wc,gT.o,_,_,rf,by exact Kd.nV ao.o (fun _ hk=>hk.2.1),by exact Kd.mM ap.o (fun _ hk=>trivial),HB.o⟩
theorem tH.calls (k:Nat) (A0:Option Addr) (c0:Nat) (l0:List (List Int)) (A1:Option Addr) (c1:Nat) (l1:List Int) (r1:List (List Int)) (r2:List Int) (w:World) (hr0:Kd.C (Kd.slice 3 (Kd.int .i64)) w A0 l0.length l0) (hc0:l0.length≤c0) (hr1:Kd.C (Kd.int .i64) w A1 l1.length l1) (hc1:l1.length≤c1) (h:tH.f k l0 l1=some (r1,r2)):
  Calls Try.prog 57 #[.slice A0 l0.length c0,.slice A1 l1.length c1] w fun e w'=>∃b_ aZ:Value,e=.returned (.tuple #[b_,aZ])∧Kd.S (Kd.slice 3 (Kd.int .i64)) 25 w' w.heap.size (o1 aZ) b_ r1∧Kd.R (Kd.int .i64) 3 w' w.heap.size (fun _=>True) aZ r2∧Below w.heap.size w w':=by
 obtain⟨l2,hcl,⟨g1,g2,g3⟩,m1,m2,h2,h3⟩:=FN h;refine(tH.Iy k A0 c0 l0 A1 c1 l1 l2 m1 m2 r1 r2 w hr0 hc0 hr1 hc1 hcl g1 g2 g3 h2 h3).mono ?_;rintro e w' ⟨wb,hb,b_,aZ,he,hS,hR,hB⟩;exact⟨b_,aZ,he,Kd.uy hS hb.size,Kd.nE hR hb.size,nZ hb hB⟩
set_option maxHeartbeats 8000000
set_option maxRecDepth 100000
def su.f (k:Nat) (ay:Int) (an:List (List Int)) (au:List Int):Option (Int×(List (List Int))×List Int×Bool):=(nA.f k ay an au).bind fun aR=>(if aR.2.2.2=true then((tH.f k aR.2.1 aR.2.2.1).bind fun a_=>(some (aR.1,a_.1,a_.2,true)))else(some (0,([]:List (List Int)),([]:List Int),false)))
theorem su.calls (k:Nat) (ay:Int) (U:Nat→Prop) (aD:Option Addr) (aG:Nat) (an:List (List Int)) (aM:Option Addr) (aQ:Nat) (au:List Int) (r1:Int) (r2:List (List Int)) (r3:List Int) (r4:Bool) (w:World) (b_:Kd.V (Kd.slice 3 (Kd.int .i64)) 25 w w.heap.size (fun k_=>U k_) (.slice aD an.length aG) an) (bf:Kd.C (Kd.int .i64) w aM au.length au) (be:au.length≤aQ) (h:su.f k ay an au=some (r1,r2,r3,r4)):
  Calls Try.prog 35 #[.agg #[.int .i64 ay,.slice aD an.length aG,.slice aM au.length aQ]] w fun e w'=>∃dh df:Value,e=.returned (.tuple #[.agg #[.int .i64 r1,dh,df],.bool r4])∧Kd.N (Kd.slice 3 (Kd.int .i64)) 25 w' w.heap.size (fun k_=>(U k_∨w.heap.size≤k_)∧some k_≠(df:Value).ownBlock) dh r2∧Kd.R (Kd.int .i64) 3 w' w.heap.size (fun k_=>(w.heap.size≤k_)) df r3∧Below w.heap.size w w':=by
 have dm:=Try.underlying27;have ag:=A_ (show Kd.V (Kd.slice 3 (Kd.int .i64)) 25 w w.heap.size (fun k_=>(U k_∨w.heap.size≤k_)) (.slice aD an.length aG) an from Kd.tq b_ (fun k_ hk=>.inl hk));have bc:=A_ bf;have a8:=A_ be;clear bf be;have HB:=A_ (Below.refl w.heap.size w);unfold su.f at h;have H:=h;clear h;replace ⟨⟨aU,aA,az,bX⟩,A2,H⟩:=bA_ H;dsimp only at H
 replace H:=Hb_ H;rcases H with⟨rfl,H⟩|⟨rfl,H⟩
 ·replace ⟨⟨bw,bz⟩,A4,H⟩:=bA_ H;dsimp only at H;simp only[Option.some.injEq,Prod.mk.injEq]at H;obtain⟨rfl,rfl,rfl,rfl⟩:=H;go_enter Try.func35,Try.ntmps35
  go_wp2_with (first|((with_reducible refine gt_ 1 ?_);refine be_ 1 #[.int .i64 ay,.slice aD an.length aG,.slice aM au.length aQ] 27 ?_;intro am hg w5 J hb;replace ag:=A_ (Kd.rX (Kd.sU ag.o am (Nat.le_of_eq hg.symm)) hb);have ab:=A_ (J);have bi:=lh_ HB hg;have av:=lh_ HB hg;replace HB:=bs_ HB hb;clear hb J hg)|((with_reducible refine gt_ 2 ?_);refine be_ 2 #[.int .i64 0,.slice none 0 0,.slice none 0 0] 27 ?_;intro ai hg w6 J hb;replace ag:=A_ (Kd.rX (Kd.sU ag.o ai (Nat.le_of_eq hg.symm)) hb);have ae:=A_ (J);have bj:=lh_ HB hg;have aw:=lh_ HB hg;replace HB:=bs_ HB hb;have ao:=nl_ ab hg;have ap:=ng_ ab hg;replace ab:=bb_ ab hb;clear hb J hg;have cB:=ao.o;have cC:=ap.o;have bW:=bq3 ab.o)|((with_reducible refine gc_ 56 rfl ?_);refine cM_ E56 10 (nA.calls k ay (fun k_=>(((U k_∨w.heap.size≤k_)∧k_≠am)∧k_≠ai)) _ _ an _ _ au aU aA az true _ ag.o (Kd.mO bc.o HB.o) a8.o A2.o) ?_;rintro e w9 ⟨bY,bg,rfl,ho0,ho1,hb⟩;refine⟨_,rfl,?_⟩;replace ag:=A_ (Kd.tq (Kd.zk (Kd.zk (Kd.JX ag.o hb) (Kd.Gm ho0)) (Kd.nW ho1)) (fun _ h_=>h_.1));have ak:=A_ (Kd.yf (Kd.rP (ok':=fun k_=>(U k_∨w.heap.size≤k_)∧some k_≠(bg:Value).ownBlock∧k_≠am∧k_≠ai) ho0 (fun k_ aK=>⟨Or.elim aK.1 (fun hs_=>hs_.1.1) (fun aZ=>(.inr (Nat.le_trans (mK HB.o) aZ))),aK.2,Or.elim aK.1 (fun hs_=>hs_.1.2) (fun aZ=>(Kd.uB ab.o k_ aZ)),Or.elim aK.1 (fun hs_=>hs_.2) (fun aZ=>(Kd.uB ae.o k_ aZ))⟩)) (mK HB.o));have aj:=A_ (Kd.nE (Kd.Af (M:=fun k_=>(w.heap.size≤k_)) (Kd.mM (ok':=fun k_=>True) ho1 (fun _ aK=>trivial)) (mK HB.o) (fun k_ h_=>h_)) (mK HB.o));replace ab:=bb_ ab hb;replace ae:=bb_ ae hb;replace HB:=bs_ HB hb;clear hb ho0;(try clear ho1))|((with_reducible refine gt_ 4 ?_);refine be_ 4 #[.int .i64 0,.slice none 0 0,.slice none 0 0] 27 ?_;intro ah hg dn J hb;replace ag:=A_ (Kd.rX (Kd.sU ag.o ah (Nat.le_of_eq hg.symm)) hb);replace ak:=A_ (Kd.xz (Kd.zt ak.o ah (Nat.le_of_eq hg.symm)) hb);replace aj:=A_ (Kd.nX aj.o hb);have al:=A_ (J);have bk:=lh_ HB hg;have ax:=lh_ HB hg;replace HB:=bs_ HB hb;have af:=nl_ ab hg;have aq:=ng_ ab hg;replace ab:=bb_ ab hb;have aa:=nl_ ae hg;have ar:=ng_ ae hg;replace ae:=bb_ ae hb;clear hb J hg;have b2:=aq.o;have b7:=af.o;have b3:=ar.o;have b8:=aa.o;have bC:=bq3 al.o;obtain⟨aV,aT,bQ⟩:=Kd.wP ak.o;subst bQ;obtain⟨aN,aH,bR⟩:=Kd.mU aj.o;subst bR)|((with_reducible refine xV (f:=57) rfl ?_);refine Dw (some 21) rfl rfl Try.func57 K_ rfl #[.slice aV aA.length aT,.slice aN az.length aH] rfl (by simp only[mA,mB,mC];rfl) ?_;(with_reducible refine(tH.calls k _ _ aA _ _ az bw bz _ ?cu ?cz ?cK ?cO A4.o).mono ?_);(case cu=>refine(Kd.wX (e:=25) (base:=w.heap.size) (ok:=fun k_=>(((U k_∨w.heap.size≤k_)∧(some k_≠(.slice aN az.length aH:Value).ownBlock∧(k_≠am∧k_≠ai)))∧k_≠ah)) (n:=aA.length) (c:=aT) ?_).2.2;exact(by exact(Kd.rP (KG (Kd.rP ak.o (fun k_ hk=>(⟨hk,hk.2⟩:_∧k_≠ah)))) (fun _ h_=>h_.1))));(case cz=>exact(Kd.wX ak.o).2.1);(case cK=>refine(Kd.mX (e:=3) (base:=w.heap.size) (ok:=fun k_=>((w.heap.size≤k_)∧True)) (n:=az.length) (c:=aH) ?_).2.2;exact(by exact(Kd.mM (xe (tR_ aj al)) (fun _ h_=>h_.1))));(case cO=>exact(Kd.mX aj.o).2.1);rintro e w16 ⟨cD,bZ,rfl,ho0,ho1,hb⟩;refine⟨_,rfl,?_⟩;replace ag:=A_ (Kd.tq (Kd.zk (Kd.zk (Kd.JX (by exact(Kd.tq (Kd.D_ (p:=⟨ah,2,none⟩) (Kd.D_ (p:=⟨ah,1,none⟩) (Kd.D_ (p:=⟨ah,0,none⟩) (Kd.tq ag.o (fun k_ hk=>(⟨hk,hk.2⟩:_∧k_≠ah))) (fun _ hk=>hk.2) (.int .i64 aU)) (fun _ hk=>hk.2) (.slice aV aA.length aT)) (fun _ hk=>hk.2) (.slice aN az.length aH)) (fun _ h_=>h_.1))) hb) (Kd.AO ho0)) (Kd.nW ho1)) (fun _ h_=>h_.1));have a9:=A_ (Kd.yf (Kd.rP (ok':=fun k_=>(U k_∨w.heap.size≤k_)∧some k_≠(bZ:Value).ownBlock∧some k_≠(.slice aV aA.length aT:Value).ownBlock∧some k_≠(.slice aN az.length aH:Value).ownBlock∧k_≠am∧k_≠ai∧k_≠ah) (Kd.S_N (Kd.yP ho0)) (fun k_ aK=>⟨(.inr (Nat.le_trans (mK wb_) aK.2.1)),aK.1,(Kd.fresh' (Kd.Oi (by exact(Kd.rP (KG (Kd.rP ak.o (fun k_ hk=>(⟨hk,hk.2⟩:_∧k_≠ah)))) (fun _ h_=>h_.1)))) k_ aK.2.1),(Kd.fresh' (Kd.oV (by exact(Kd.mM (xe (tR_ aj al)) (fun _ h_=>h_.1)))) k_ aK.2.1),(Kd.uB (g:=am) (o:=.cells #[.int .i64 ay,.slice aD an.length aG,.slice aM au.length aQ] 27 (0,0)) (by exact fa_ af (fa_ af (fa_ af ab.o))) k_ aK.2.1),(Kd.uB (g:=ai) (o:=.cells #[.int .i64 0,.slice none 0 0,.slice none 0 0] 27 (0,0)) (by exact fa_ aa (fa_ aa (fa_ aa ae.o))) k_ aK.2.1),(Kd.uB (g:=ah) (o:=.cells #[.int .i64 aU,.slice aV aA.length aT,.slice aN az.length aH] 27 (0,0)) (by exact pu_ 2 (pu_ 1 (pu_ 0 al.o rfl) rfl) rfl) k_ aK.2.1)⟩)) (mK wb_));replace ak:=A_ (Kd.rP (Kd.MI (Kd.MI (Kd.Pk (by exact(Kd.rP (KG (Kd.rP ak.o (fun k_ hk=>(⟨hk,hk.2⟩:_∧k_≠ah)))) (fun _ h_=>h_.1))) hb) (Kd.AO ho0)) (Kd.nW ho1)) (fun _ h_=>h_.1));have ba:=A_ (Kd.nE (Kd.qF (Kd.Af (M:=fun k_=>(w.heap.size≤k_)) ho1 (mK wb_) (fun k_ h_=>h_)) (Kd.oV (by exact(Kd.mM (xe (tR_ aj al)) (fun _ h_=>h_.1))))) (mK wb_));replace aj:=A_ (Kd.oz (by exact(Kd.mM (xe (tR_ aj al)) (fun _ h_=>h_.1))) (Kd.nW ho1) hb);replace ab:=A_ (pg (g:=am) (o:=.cells #[.int .i64 ay,.slice aD an.length aG,.slice aM au.length aQ] 27 (0,0)) (by exact fa_ af (fa_ af (fa_ af ab.o))) hb);replace ae:=A_ (pg (g:=ai) (o:=.cells #[.int .i64 0,.slice none 0 0,.slice none 0 0] 27 (0,0)) (by exact fa_ aa (fa_ aa (fa_ aa ae.o))) hb);replace al:=A_ (pg (g:=ah) (o:=.cells #[.int .i64 aU,.slice aV aA.length aT,.slice aN az.length aH] 27 (0,0)) (by exact pu_ 2 (pu_ 1 (pu_ 0 al.o rfl) rfl) rfl) hb);replace HB:=A_ (nZ wb_ hb);clear hb ho0 ho1;have bD:=bq3 al.o;obtain⟨bI,bN,bS⟩:=Kd.mU ba.o;subst bS;obtain⟨bJ,bO,bT⟩:=Kd.wP a9.o;subst bT;have bE:=bq3 ae.o))
  refine rt_ #[.int .i64 aU,.slice bJ bw.length bO,.slice bI bz.length bN] (by exact pu_ 2 (pu_ 1 (pu_ 0 ae.o rfl) rfl) rfl) Try.underlying27 ?_;exact⟨_,_,rf,by exact Kd.rP (KG (Kd.rP a9.o (fun k_ hk=>(⟨hk,hk.2.2.2.2.2.1⟩:_∧k_≠ai)))) (fun _ hk=>⟨hk.1.1,hk.1.2.1⟩),by exact Kd.mM (xe (tR_ ba ae)) (fun _ hk=>hk.1.1.1),wb_⟩
 simp only[Option.some.injEq,Prod.mk.injEq]at H;obtain⟨rfl,rfl,rfl,rfl⟩:=H;go_enter Try.func35,Try.ntmps35
 go_wp2_with (first|((with_reducible refine gt_ 1 ?_);refine be_ 1 #[.int .i64 ay,.slice aD an.length aG,.slice aM au.length aQ] 27 ?_;intro am hg dw J hb;replace ag:=A_ (Kd.rX (Kd.sU ag.o am (Nat.le_of_eq hg.symm)) hb);have ab:=A_ (J);have bi:=lh_ HB hg;have av:=lh_ HB hg;replace HB:=bs_ HB hb;clear hb J hg)|((with_reducible refine gt_ 2 ?_);refine be_ 2 #[.int .i64 0,.slice none 0 0,.slice none 0 0] 27 ?_;intro ai hg dx J hb;replace ag:=A_ (Kd.rX (Kd.sU ag.o ai (Nat.le_of_eq hg.symm)) hb);have ae:=A_ (J);have bj:=lh_ HB hg;have aw:=lh_ HB hg;replace HB:=bs_ HB hb;have ao:=nl_ ab hg;have ap:=ng_ ab hg;replace ab:=bb_ ab hb;clear hb J hg;have b4:=ao.o;have b9:=ap.o;have bF:=bq3 ab.o)|((with_reducible refine gc_ 56 rfl ?_);refine cM_ E56 10 (nA.calls k ay (fun k_=>(((U k_∨w.heap.size≤k_)∧k_≠am)∧k_≠ai)) _ _ an _ _ au aU aA az false _ ag.o (Kd.mO bc.o HB.o) a8.o A2.o) ?_;rintro e dz ⟨bY,bg,rfl,ho0,ho1,hb⟩;refine⟨_,rfl,?_⟩;replace ag:=A_ (Kd.tq (Kd.zk (Kd.zk (Kd.JX ag.o hb) (Kd.Gm ho0)) (Kd.nW ho1)) (fun _ h_=>h_.1));have ak:=A_ (Kd.yf (Kd.rP (ok':=fun k_=>(U k_∨w.heap.size≤k_)∧some k_≠(bg:Value).ownBlock∧k_≠am∧k_≠ai) ho0 (fun k_ aK=>⟨Or.elim aK.1 (fun hs_=>hs_.1.1) (fun aZ=>(.inr (Nat.le_trans (mK HB.o) aZ))),aK.2,Or.elim aK.1 (fun hs_=>hs_.1.2) (fun aZ=>(Kd.uB ab.o k_ aZ)),Or.elim aK.1 (fun hs_=>hs_.2) (fun aZ=>(Kd.uB ae.o k_ aZ))⟩)) (mK HB.o));have aj:=A_ (Kd.nE (Kd.Af (M:=fun k_=>(w.heap.size≤k_)) (Kd.mM (ok':=fun k_=>True) ho1 (fun _ aK=>trivial)) (mK HB.o) (fun k_ h_=>h_)) (mK HB.o));replace ab:=bb_ ab hb;replace ae:=bb_ ae hb;replace HB:=bs_ HB hb;clear hb ho0;(try clear ho1))|((with_reducible refine gt_ 4 ?_);refine be_ 4 #[.int .i64 0,.slice none 0 0,.slice none 0 0] 27 ?_;intro ah hg dA J hb;replace ag:=A_ (Kd.rX (Kd.sU ag.o ah (Nat.le_of_eq hg.symm)) hb);replace ak:=A_ (Kd.xz (Kd.zt ak.o ah (Nat.le_of_eq hg.symm)) hb);replace aj:=A_ (Kd.nX aj.o hb);have al:=A_ (J);have bk:=lh_ HB hg;have ax:=lh_ HB hg;replace HB:=bs_ HB hb;have af:=nl_ ab hg;have aq:=ng_ ab hg;replace ab:=bb_ ab hb;have aa:=nl_ ae hg;have ar:=ng_ ae hg;replace ae:=bb_ ae hb;clear hb J hg;have b5:=aq.o;have cc:=af.o;have b6:=ar.o;have cd:=aa.o;have bG:=bq3 al.o;obtain⟨cf,cw,bU⟩:=Kd.wP ak.o;subst bU;obtain⟨cg,cA,bV⟩:=Kd.mU aj.o;subst bV;have bH:=bq3 ae.o))
 refine rt_ #[.int .i64 0,.slice none 0 0,.slice none 0 0] (by exact pu_ 2 (pu_ 1 (pu_ 0 (fa_ aa (fa_ aa (fa_ aa ae.o))) rfl) rfl) rfl) Try.underlying27 ?_;exact⟨_,_,rf,by exact Kd.Lf _ _ _ _ _,by exact Kd.sI _ _ _ _ _,wb_⟩
def uK.f (a0:Int):Option (Bool):=if a0≥0 then(some (decide (a0≤3)))else(some false)
theorem uK.calls (a0:Int) (r:Bool) (w:World) (h:uK.f a0=some r):
  Calls Try.prog 36 #[.int .i64 a0] w fun e w'=>e=.returned (.bool r)∧nJ w w':=by
 unfold uK.f at h;have H:=h;clear h
 replace H:=Hj_ H;rcases H with⟨c2,H⟩|⟨c2,H⟩
 ·have bL:decide (0≤a0)=true:=decide_eq_true c2
  clear c2;obtain rfl:=Option.some.inj H;go_enter Try.func36,Try.ntmps36
  go_wp2
  go_ret
  exact⟨rf,by repeat (first|exact nJ.refl _|apply nJ.step)⟩
 have bL:decide (0≤a0)=false:=decide_eq_false c2
 clear c2;obtain rfl:=Option.some.inj H;go_enter Try.func36,Try.ntmps36
 go_wp2
 go_ret
 exact⟨rf,by repeat (first|exact nJ.refl _|apply nJ.step)⟩
def p_.l0:Nat→Int→List (List Int)→Int→Int→Option ((List (List Int)))
 |0,_,_,_,_=>none
 |k+1,x0,x3,x5,x6=>if x6<x5 then(if 0≤x0 then(if(x0:Int).toNat≤35184372088832 then(if x3.length<5864062014805 then(p_.l0 k x0 (x3++[(List.replicate (x0:Int).toNat 0)]) x5 (wrap64 (x6+1)))else(none))else(none))else(none))else(some x3)
def p_.f (k:Nat) (a0:Int):Option ((List (List Int))):=p_.l0 k a0 (([]:List (List Int))) a0 0
theorem p_.calls (k:Nat) (a0:Int) (r:List (List Int)) (w:World) (h:p_.f k a0=some r):
  Calls Try.prog 37 #[.int .i64 a0] w fun e w'=>∃di:Value,e=.returned (di)∧Kd.S (Kd.slice 3 (Kd.int .i64)) 25 w' w.heap.size (fun _=>True) di r∧Below w.heap.size w w':=by
 have HB:=A_ (Below.refl w.heap.size w);unfold p_.f at h;have H:=h;clear h;obtain⟨bA,aW⟩:=ex_ ((([]:List (List Int))):List (List Int));rw[←aW]at H;have bq:=A_ aW;clear aW
 have H':=A_ H
 clear H;go_enter Try.func37,Try.ntmps37
 go_wp2_with (first|((with_reducible refine gt_ 4 ?_);refine Kd.CK (Kd.slice 3 (Kd.int .i64)) _ 25 ?hg (N:=4) ?hd (xs:=([]:List (List Int))) (inner:=[]) (ok:=fun _=>True) (okp:=fun _=>True) ?hr ?hp (fun _ hk=>hk) trivial (Below.refl _ _) (Nat.le_refl _) sp ?_;(case hd|hg=>rfl);(case hr=>go_simp;done);(case hp=>exact(qK.none _ _));rintro cE w2 ho3 hb - -;(rw[←bq.o]at ho3);have bm:=A_ (Kd.uy ho3 (mK HB.o));replace HB:=bs_ HB hb;clear hb ho3))
 go_loopg [3,6] k (fun kq v3 v6 w'=>∃ (aC:List (List Int)) (aI:Int),v6=.int .i64 aI∧Aside0 (p_.l0 kq a0 aC a0 aI=some r)∧Aside0 (kq≤k)∧Aside0 (Kd.S (Kd.slice 3 (Kd.int .i64)) 25 w' w.heap.size (fun _=>True) v3 aC)∧Aside0 (Below w.heap.size w w'))
 case atStart=>exact⟨(bA),(0),rf,H',⟨Nat.le_refl _⟩,bm,HB⟩
 case round=>
  clear H';obtain⟨aC,aI,rfl,HA,b1,aE,HB⟩:=hrel
  cases gk with
  |zero=>exact nz_ HA.o
  |succ k1=>
   have H:=HA.o;clear HA;simp only[p_.l0]at H
   replace H:=Hi_ H;rcases H with⟨bM,H⟩|⟨bM,H⟩
   ·replace ⟨c5,H⟩:=Hp_ (p:=0≤a0) H
    have ch:=eq_true c5;have ci:=decide_eq_true c5;clear c5
    replace ⟨c6,H⟩:=Hp_ H
    have ck:=eq_true c6;have co:=decide_eq_true c6;clear c6;obtain⟨a7,aX⟩:=ex_ ((List.replicate (a0:Int).toNat 0):List Int);rw[←aX]at H;have br:=A_ aX;clear aX
    replace ⟨bK,H⟩:=Ha_ H
    obtain⟨bB,aY⟩:=ex_ ((aC++[a7]):List (List Int));rw[←aY]at H;have bu:=A_ aY;clear aY
    have H':=A_ H
    clear H
    go_wp2_with (first|((with_reducible refine gt_ 10 ?_);refine Kd.Ce (Kd.int .i64) _ 3 rfl (N:=10) rfl 25 _ _ rfl a0 rfl rfl Try.underlying25 (.int .i64 0) 8 info3 rfl d_ om 0 (ok:=fun _=>True) (okp:=fun _=>True) rfl (fun _ hk=>hk) trivial oa_ (Nat.le_trans (Nat.mul_le_mul_right _ (oa_:a0.toNat≤35184372088832)) om) (Below.refl _ _) (Nat.le_refl _) ?_;rintro cF w8 cZ hb - -;(rw[←br.o]at cZ);replace aE:=A_ (Kd.rz aE.o (Kd.nW cZ) hb);have aJ:=A_ (Kd.nE cZ (mK HB.o));replace HB:=bs_ HB hb;clear hb cZ;obtain⟨bh,bv,bP⟩:=Kd.mU aJ.o;subst bP)|((with_reducible refine nG (b:=.append) (xs:= #[.tmp 8,.tmp 11]) rfl ?_);at_builtin;refine Kd.uq (Kd.slice 3 (Kd.int .i64)) (w0:=w) w.heap.size rfl (.tmp 8) (.tmp 11) 24 25 (.slice none 0 0) 24 rfl Try.underlying24 uO rfl d_ om u3 aC a7 [.slice bh a7.length bv] (fun _=>True) (fun k_=>some k_=(.slice bh a7.length bv:Value).ownBlock) rfl rfl ?aP (fun k_ aK=>((Kd.mM (ok':=fun k_=>((fun _=>True)) k_∧some k_≠(u3:Value).ownBlock) (Kd.pE (aJ.o) (Kd.oL aE.o) d_) (fun k_ hk=>⟨trivial,hk.2⟩))).1 k_ aK.symm) ?aF ?aO ?aB ?aS ?aL ?_;(case aP=>exact Kd.uR (Kd.mM (Kd.sD rfl (Kd.mM (ok':=fun k_=>((fun _=>True)) k_∧some k_≠(u3:Value).ownBlock) (Kd.pE (aJ.o) (Kd.oL aE.o) d_) (fun k_ hk=>⟨trivial,hk.2⟩))) (fun _ h_=>h_)));(case aB=>exact HB.o);(case aF=>exact(fun _ _=>trivial));(case aO=>exact(by exact Kd.nV aE.o (fun k_ hk=>⟨trivial,fun e_=>hk.2 e_⟩)));(case aS=>exact(mK HB.o));(case aL=>have:=bK.o;omega);intro cG dn ho hb hg hat;rw[←bu.o]at ho;replace HB:=A_ (hb);have bn:=A_ (ho);clear aE aJ;clear ho hb hg hat))
    go_roundg k1
    case measure=>have:=b1.o;omega
    case rel=>exact⟨(bB),(wrap64 (aI+1)),rf,H',⟨by have:=b1.o;omega⟩,bn,HB⟩
   obtain rfl:=Option.some.inj H
   go_wp2
   go_ret
   exact⟨_,rf,aE.o,HB.o⟩
set_option maxHeartbeats 8000000
set_option maxRecDepth 100000
section
variable {P:Program} {ops:Array Oper} {Q:Exit→Act→World→Prop} {md:Region.Mode} {S:World→Prop} {ds:List Nat}
def waits (md:Region.Mode) (ops:Array Oper) (i:Nat):List Nat:=match ops[i]? with
 |some o=>(o.after.toList.filter (Region.binds md)).map (·.on)
 |none=>[]
theorem B_ {i j:Nat} {o:Oper} (ho:ops[i]? =some o):j∈waits md ops i↔∃e∈o.after,Region.binds md e=true∧e.on=j:=by
 unfold waits;rw[ho];simp only[List.mem_map,List.mem_filter,Array.mem_toList_iff];exact⟨fun⟨e,⟨h1,h2⟩,h3⟩=>⟨e,h1,h2,h3⟩,fun⟨e,h1,h2,h3⟩=>⟨e,⟨h1,h2⟩,h3⟩⟩
theorem Ff {l:Array Bool} {i:Nat} {o:Oper} (ho:ops[i]? =some o):i∈Region.ready md ops l↔l.getD i true=false∧∀j∈waits md ops i,l.getD j false=true:=by
 rw[mem_ready]
 constructor
 ·rintro⟨h,o',ho',h2⟩
  obtain rfl:=Option.some.inj (ho.symm.trans ho');refine⟨h,fun j hj=>?_⟩;obtain⟨e,h3,h4,rfl⟩:=(B_ ho).1 hj;exact h2 e h3 h4
 ·rintro⟨h,h2⟩
  exact⟨h,o,ho,fun e h3 h4=>h2 _ ((B_ ho).2 ⟨e,h3,h4,rfl⟩)⟩
structure Rw where
 i:Nat
 N:Option Tmp
 D:List Nat
 G:(Nat→Value)→World→Prop
def Ca (md:Region.Mode) (ops:Array Oper) (l l':Array Bool) (n:Nat) (X:List Rw):Bool:=
 l.size==ops.size && Region.zF md ops l && (X.foldl (fun m x=>m.setIfInBounds x.i true) l==l') &&
 X.all (fun x=>((ops[x.i]?).map (·.dst)==some x.N) && !l.getD x.i true && (waits md ops x.i).all (fun j=>decide (j<x.i) && (l.getD j false ||X.any (·.i==j))) && x.D.all (fun j=>(waits md ops x.i).contains j) && (match x.N with|some t=>decide (t<n)|none=>true)) &&
 (X.map (·.i)).Nodup && (X.filterMap (·.N)).Nodup &&
 (List.range ops.size).all (fun i=>l.getD i true ||X.any (·.i==i) ||X.all (fun x=>(waits md ops i).contains x.i))
theorem Bf {l:Array Bool} {i j:Nat} {d:Bool} (hj:j<l.size):(l.setIfInBounds i true).getD j d=(if i=j then true else l.getD j d):=by
 simp only[Array.getD_eq_getD_getElem?,Array.getElem?_setIfInBounds]
 split
 ·rename_i h;subst h;simp[hj]
 ·rfl
structure PS (F:(Nat→Bool)→(Nat→Value)→World→Prop) (a0:Act) (w0:World) (X:List Rw) (md:Region.Mode) (ops:Array Oper) (S:World→Prop) (l0 l:Array Bool) (a:Act) (w:World) (vs:Nat→Value):Prop where
 size:l.size=l0.size
 base:∀j,l0.getD j false=true→l.getD j false=true
 only:∀j,l.getD j false=true→l0.getD j false=true∨∃x∈X,x.i=j
 closed:uA md ops l
 hS:S w
 hB:Below w0.heap.size w0 w
 defers:a.defers=a0.defers
 tsize:a.tmps.size=a0.tmps.size
 val:∀x∈X,l.getD x.i false=true→∀t,x.N=some t→a.eval (.tmp t)=vs x.i
 oth:∀t,(∀x∈X,l.getD x.i false=true→x.N≠some t)→a.eval (.tmp t)=a0.eval (.tmp t)
 fact:F (fun j=>l.getD j false) vs w
theorem EB (L:List (Tmp×Value)):∀a:Act,(rG a L).defers=a.defers∧(rG a L).tmps.size=a.tmps.size:=by
 induction L with
 |nil=>intro a;exact⟨rfl,rfl⟩
 |cons x L ih=>intro a;obtain⟨h1,h2⟩:=ih (a.put (some x.1) x.2);exact⟨h1,h2.trans (by simp[Act.put])⟩
theorem GK (L:List (Tmp×Value)):∀ (a:Act) (t:Tmp),(L.map (·.1)).Nodup→(∀x∈L,x.1=t→t<a.tmps.size→(rG a L).eval (.tmp t)=x.2)∧((∀x∈L,x.1≠t)→(rG a L).eval (.tmp t)=a.eval (.tmp t)):=by
 induction L with
 |nil=>intro a t _;exact⟨fun x hx=>(by cases hx),fun _=>rfl⟩
 |cons x L ih=>
  intro a t hn;simp only[mB,List.nodup_cons]at hn;obtain⟨h1,h2⟩:=ih (a.put (some x.1) x.2) t hn.2;refine⟨fun y hy ag ht=>?_,fun h=>?_⟩
  ·rcases List.mem_cons.1 hy with rfl|hy
   ·show(rG (a.put (some y.1) y.2) L).eval (.tmp t)=y.2
    rw[h2 (fun z hz e=>hn.1 (List.mem_map.2 ⟨z,hz,e.trans ag.symm⟩))];subst ag
    simp[Act.put,Act.eval,Array.getD_eq_getD_getElem?,ht]
   ·exact h1 y hy ag (by simpa [Act.put]using ht)
  ·show(rG (a.put (some x.1) x.2) L).eval (.tmp t)=a.eval (.tmp t)
   rw[h2 (fun z hz=>h z (List.mem_cons_of_mem _ hz))];exact Act.eval_put (fun d hd e=>h x List.mem_cons_self (by injection hd with hd;injection e with e;exact hd.trans e.symm))
theorem M_ {a b:Act} (hd:a.defers=b.defers) (hs:a.tmps.size=b.tmps.size) (h:∀t,a.eval (.tmp t)=b.eval (.tmp t)):a=b:=by
 obtain⟨at_,ad⟩:=a;obtain⟨bt,bd⟩:=b
 simp only at hd hs
 subst hd
 congr 1
 apply Array.ext hs
 intro i h1 h2;have h3:=h i
 simpa [Act.eval,Array.getD_eq_getD_getElem?,h1,h2]using h3
theorem foldl_set (X:List Rw):∀ (l:Array Bool),(X.foldl (fun m x=>m.setIfInBounds x.i true) l).size=l.size∧∀ (j:Nat) (d:Bool),j<l.size→(X.foldl (fun m x=>m.setIfInBounds x.i true) l).getD j d=(l.getD j d ||X.any (·.i==j)):=by
 induction X with
 |nil=>intro l;exact⟨rfl,fun j d _=>by simp⟩
 |cons x X ih=>
  intro l;obtain⟨h1,h2⟩:=ih (l.setIfInBounds x.i true);simp only[Array.size_setIfInBounds]at h1 h2;refine⟨h1,fun j d hj=>?_⟩;rw[List.foldl_cons,h2 j d hj,Bf hj,List.any_cons]
  by_cases e:x.i=j
  ·subst e;simp
  ·rw[if_neg e]
   have:(x.i==j)=false:=by simpa using e
   rw[this,Bool.false_or]
theorem Lu {α β:Type} {f:α→β} {L:List α} (h:(L.map f).Nodup) {x y:α} (hx:x∈L) (hy:y∈L) (e:f x=f y):x=y:=by
 induction L with
 |nil=>cases hx
 |cons z L ih=>
  simp only[mB,List.nodup_cons]at h
  rcases List.mem_cons.1 hx with h1|h1<;>rcases List.mem_cons.1 hy with h2|h2
  ·rw[h1,h2]
  ·subst h1;exact absurd (List.mem_map.2 ⟨y,h2,e.symm⟩) h.1
  ·subst h2;exact absurd (List.mem_map.2 ⟨x,h1,e⟩) h.1
  ·exact ih h.2 h1 h2
theorem Bj {l:Array Bool} {j:Nat} (h:j<l.size):l.getD j true=l.getD j false:=by simp[Array.getD_eq_getD_getElem?,h]
def puts (X:List Rw) (vs:Nat→Value):List (Tmp×Value):=X.filterMap fun x=>x.N.map fun t=>(t,vs x.i)
theorem MG (X:List Rw) (vs:Nat→Value):(puts X vs).map (·.1)=X.filterMap (·.N):=by
 induction X with
 |nil=>rfl
 |cons x X ih=>
  unfold puts at ih⊢;rw[List.filterMap_cons,List.filterMap_cons]
  cases x.N<;>simp[ih]
theorem Oh {X:List Rw} (h:(X.filterMap (·.N)).Nodup) {x y:Rw} {t:Tmp} (hx:x∈X) (hy:y∈X) (e1:x.N=some t) (e2:y.N=some t):x=y:=by
 induction X with
 |nil=>cases hx
 |cons z X ih=>
  have mem:∀w∈X,w.N=some t→t∈X.filterMap (·.N):=fun w hw e=>List.mem_filterMap.2 ⟨w,hw,e⟩
  rw[List.filterMap_cons]at h
  rcases List.mem_cons.1 hx with h1|h1<;>rcases List.mem_cons.1 hy with h2|h2
  ·rw[h1,h2]
  ·subst h1;rw[e1]at h;exact absurd (mem y h2 e2) (List.nodup_cons.1 h).1
  ·subst h2;rw[e2]at h;exact absurd (mem x h1 e1) (List.nodup_cons.1 h).1
  ·refine ih ?_ h1 h2
   cases hz:z.N with
   |none=>rw[hz]at h;exact h
   |some q=>rw[hz]at h;exact(List.nodup_cons.1 h).2
def FW (P:Program) (ops:Array Oper) (md:Region.Mode) (Q:Exit→Act→World→Prop) (S:World→Prop) (X:List Rw) (a0:Act) (w0:World) (x:Rw) (o:Oper):Prop:=
 ∀vs a w,S w→Below w0.heap.size w0 w→(∀y∈X,(waits md ops x.i).contains y.i=true→(∀t,y.N=some t→a.eval (.tmp t)=vs y.i)∧y.G vs w)→(∀t,(X.map (·.N)).contains (some t)=false→a.eval (.tmp t)=a0.eval (.tmp t))→
  ∀K:Act→World→Prop,(∀v w',S w'→Below w0.heap.size w0 w'→(∀y∈X,y.i≠x.i→x.i∉y.D→y.G vs w→y.G (fun j=>if j=x.i then v else vs j) w')→x.G (fun j=>if j=x.i then v else vs j) w'→K (a.put o.dst v) w')→if Region.wanted o (yielded ops a.tmps)=true then Oper.wp P o a w K Q else K (a.put o.dst undef) w
def StepB (P:Program) (ops:Array Oper) (md:Region.Mode) (Q:Exit→Act→World→Prop) (S:World→Prop) (X:List Rw) (a0:Act) (w0:World) (x:Rw) (o:Oper):Prop:=
 ∀vs a w,S w→Below w0.heap.size w0 w→(∀y∈X,(waits md ops x.i).contains y.i=true→(∀t,y.N=some t→a.eval (.tmp t)=vs y.i)∧y.G vs w)→(∀t,(X.map (·.N)).contains (some t)=false→a.eval (.tmp t)=a0.eval (.tmp t))→
  ∀K:Act→World→Prop,(∀v w',Below w.heap.size w w'→x.G (fun j=>if j=x.i then v else vs j) w'→K (a.put o.dst v) w')→if Region.wanted o (yielded ops a.tmps)=true then Oper.wp P o a w K Q else K (a.put o.dst undef) w
def Still (x:Rw):Prop:=∀vs vs' w w',(∀k,(k=x.i∨k∈x.D)→vs k=vs' k)→Below w.heap.size w w'→x.G vs w→x.G vs' w'
def PD (P:Program) (ops:Array Oper) (md:Region.Mode) (Q:Exit→Act→World→Prop) (S:World→Prop) (F:(Nat→Bool)→(Nat→Value)→World→Prop) (X:List Rw) (a0:Act) (w0:World) (i:Nat) (o:Oper):Prop:=
 ∀L vs a w,S w→Below w0.heap.size w0 w→F L vs w→L i=false→(∀j∈waits md ops i,L j=true)→(∀y∈X,L y.i=true→(∀t,y.N=some t→a.eval (.tmp t)=vs y.i)∧∀j∈waits md ops y.i,L j=true)→(∀t,(X.map (·.N)).contains (some t)=false→a.eval (.tmp t)=a0.eval (.tmp t))→
  ∀K:Act→World→Prop,(∀v w',S w'→Below w0.heap.size w0 w'→F (fun j=>if j=i then true else L j) (fun j=>if j=i then v else vs j) w'→K (a.put o.dst v) w')→if Region.wanted o (yielded ops a.tmps)=true then Oper.wp P o a w K Q else K (a.put o.dst undef) w
open Classical in
theorem Pz {fuel:Nat} {l:Array Bool} {a0:Act} {w0:World} (l':Array Bool) (X:List Rw) (F:(Nat→Bool)→(Nat→Value)→World→Prop)
  (hc:Ca md ops l l' a0.tmps.size X=true)
  (init:∀L vs,(∀x∈X,L x.i=false)→F L vs w0)
  (step:∀x∈X,∀o,ops[x.i]? =some o→PD P ops md Q S F X a0 w0 x.i o)
  (h0:S w0) (cont:∀L vs w,S w→Below w0.heap.size w0 w→(∀x∈X,L x.i=true)→F L vs w→nL P md ops Q S ds fuel l' (rG a0 (puts X vs)) w):
  nL P md ops Q S ds (X.length+fuel) l a0 w0:=by
 simp only[Ca,Bool.and_eq_true,beq_iff_eq,List.all_eq_true,decide_eq_true_eq,Bool.or_eq_true,List.any_eq_true,Bool.not_eq_true',List.contains_iff_mem]at hc;obtain⟨⟨⟨⟨⟨⟨c1,c2⟩,c3⟩,c4⟩,c5⟩,c6⟩,c7⟩:=hc
 have key:∀ (c:Nat) (l1:Array Bool) (a:Act) (w:World) (vs:Nat→Value),(X.filter (fun x=> !l1.getD x.i false)).length=c→PS F a0 w0 X md ops S l l1 a w vs→nL P md ops Q S ds (c+fuel) l1 a w:=by
  intro c
  induction c with
  |zero=>
   intro l1 a w vs hn hI
   have hall:∀x∈X,l1.getD x.i false=true:=by
    intro x hx
    cases h:l1.getD x.i false with
    |true=>rfl
    |false=>
     have:x∈X.filter (fun x=> !l1.getD x.i false):=List.mem_filter.2 ⟨hx,by simp[h]⟩
     rw[List.eq_nil_of_length_eq_zero hn]at this
     cases this
   obtain⟨f1,f2⟩:=foldl_set X l
   have e1:l1=l':=by
    rw[←c3]
    apply Array.ext (by rw[f1,hI.size])
    intro i h1 h2
    have hi:i<l.size:=by rw[←hI.size];exact h1
    have h3:=f2 i false hi
    have h4:l1.getD i false=(l.getD i false ||X.any (·.i==i)):=by
     rw[Bool.eq_iff_iff,Bool.or_eq_true,List.any_eq_true]
     constructor
     ·intro h
      rcases hI.only i h with h|⟨x,hx,rfl⟩
      ·exact .inl h
      ·exact .inr ⟨x,hx,sp⟩
     ·rintro(h|⟨x,hx,h⟩)
      ·exact hI.base i h
      ·simp only[beq_iff_eq]at h;subst h;exact hall x hx
    have h5:l1.getD i false=l1[i]:=by simp[Array.getD_eq_getD_getElem?,h1]
    have h6:(X.foldl (fun m x=>m.setIfInBounds x.i true) l).getD i false=(X.foldl (fun m x=>m.setIfInBounds x.i true) l)[i]:=by simp[Array.getD_eq_getD_getElem?,h2]
    rw[←h5,h4,←h3,h6]
   have e2:a=rG a0 (puts X vs):=by
    obtain⟨p1,p2⟩:=EB (puts X vs) a0;refine M_ (hI.defers.trans p1.symm) (hI.tsize.trans p2.symm) (fun t=>?_);obtain⟨q1,q2⟩:=GK (puts X vs) a0 t (by rw[MG];exact c6)
    by_cases ht:∃x∈X,x.N=some t
    ·obtain⟨x,hx,e⟩:=ht
     have hlt:=(c4 x hx).2;rw[e]at hlt;rw[q1 (t,vs x.i) (List.mem_filterMap.2 ⟨x,hx,by rw[e];rfl⟩) rfl (by simpa using hlt)];exact hI.val x hx (hall x hx) t e
    ·rw[q2 (fun y hy e=>by
      obtain⟨x,hx,hxy⟩:=List.mem_filterMap.1 hy;obtain⟨t',e1,e2⟩:=Option.map_eq_some_iff.1 hxy;subst e2;exact ht ⟨x,hx,by rw[e1];exact congrArg some e⟩)]
     exact hI.oth t (fun x hx _ e=>ht ⟨x,hx,e⟩)
   subst e1;rw[e2,Nat.zero_add];exact cont _ vs w hI.hS hI.hB hall hI.fact
  |succ c ih=>
   intro l1 a w vs hn hI
   have hsz:∀x∈X,x.i<l1.size:=by
    intro x hx;rw[hI.size,c1];obtain⟨o,ho,_⟩:=Option.map_eq_some_iff.1 (c4 x hx).1.1.1.1;exact(Array.getElem?_eq_some_iff.1 ho).1
   have hex:∃x∈X,l1.getD x.i false=false:=by
    cases hf:X.filter (fun x=> !l1.getD x.i false)with
    |nil=>rw[hf]at hn;cases hn
    |cons x r=>
     have hx:x∈X.filter (fun x=> !l1.getD x.i false):=by rw[hf];exact List.mem_cons_self
     obtain⟨h1,h2⟩:=List.mem_filter.1 hx;exact⟨x,h1,by simpa using h2⟩
   have hmin:∀n:Nat,∀x∈X,x.i<n→l1.getD x.i false=false→∃y∈X,l1.getD y.i false=false∧∀j∈waits md ops y.i,l1.getD j false=true:=by
    intro n
    induction n with
    |zero=>intro x _ h;omega
    |succ n au=>
     intro x hx aA hxl
     by_cases hw:∀j∈waits md ops x.i,l1.getD j false=true
     ·exact⟨x,hx,hxl,hw⟩
     ·obtain⟨j,hj,hj2⟩:∃j,j∈waits md ops x.i∧¬l1.getD j false=true:=Classical.byContradiction (fun hn=>hw (fun j hj=>Classical.byContradiction (fun h=>hn ⟨j,hj,h⟩)))
      obtain⟨h1,h2⟩:=(c4 x hx).1.1.2 j hj
      rcases h2 with h2|⟨y,hy,h2⟩
      ·exact absurd (hI.base j h2) hj2
      ·subst h2
       exact au y hy om (by simpa using hj2)
   rw[show c+1+fuel=(c+fuel)+1 by omega];refine zZ (rs:=Region.ready md ops l1) rfl ?_ ?_
   ·obtain⟨x,hx,hxl⟩:=hex
    obtain⟨y,hy,hyl,af⟩:=hmin (x.i+1) x hx om hxl;obtain⟨o,ho,_⟩:=Option.map_eq_some_iff.1 (c4 y hy).1.1.1.1;intro h
    have:=(Ff (md:=md) (l:=l1) ho).2 ⟨by rw[Bj (hsz y hy)];exact hyl,af⟩
    rw[h]at this
    cases this
   ·intro i hi
    obtain⟨hil,o,ho,_⟩:=mem_ready.1 hi;have ai:=((Ff (md:=md) (l:=l1) ho).1 hi).2
    have his:i<ops.size:=(Array.getElem?_eq_some_iff.1 ho).1
    have J:i<l1.size:=by rw[hI.size,c1];exact his
    have U:l1.getD i false=false:=by rw[←Bj J];exact hil
    have av:∃x∈X,x.i=i:=by
     rcases c7 i (List.mem_range.2 his)with(h|⟨x,hx,h⟩)|h
     ·have:l1.getD i false=true:=hI.base i (by rw[←Bj (by rw[c1];exact his)];exact h)
      rw[this]at U;cases U
     ·exact⟨x,hx,by simpa using h⟩
     ·obtain⟨x,hx,hxl⟩:=hex
      have:=ai _ (h x hx)
      rw[hxl]at this;cases this
    obtain⟨x,hx,rfl⟩:=av
    have hdst:o.dst=x.N:=by
     have:=(c4 x hx).1.1.1.1
     rw[ho]at this;exact Option.some.inj this
    refine wpOp_step ho (fun K hK=>?_);refine step x hx o ho (fun j=>l1.getD j false) vs a w hI.hS hI.hB hI.fact U ai (fun y hy hyl=>⟨hI.val y hy hyl,fun j hj=>?_⟩) (fun t ht=>hI.oth t (fun y hy _ e=>by have:=List.contains_iff_mem.2 (List.mem_map.2 ⟨y,hy,e⟩);rw[ht]at this;cases this)) K (fun v w' aj ax hg=>hK _ _ ⟨fun _ _=>aj,?_⟩)
    ·obtain⟨oy,hoy,_⟩:=Option.map_eq_some_iff.1 (c4 y hy).1.1.1.1
     obtain⟨e2,he2,ay,rfl⟩:=(B_ hoy).1 hj;exact hI.closed y.i oy hoy hyl e2 he2 ay
    have hinj:∀y∈X,y.i=x.i→y=x:=fun y hy e=>Lu c5 hy hx e
    refine ih _ _ _ (fun j=>if j=x.i then v else vs j) ?_ ?_
    ·-- the count
     have ah:∀ (Y:List Rw),(∀y∈Y,y∈X)→(Y.map (·.1)).Nodup→(Y.filter (fun y=> !(l1.setIfInBounds x.i true).getD y.i false)).length+(if x∈Y then 1 else 0)=(Y.filter (fun y=> !l1.getD y.i false)).length:=by
      intro Y
      induction Y with
      |nil=>intro _ _;rfl
      |cons y Y az=>
       intro hY hnd;simp only[mB,List.nodup_cons]at hnd;have h1:=az (fun z hz=>hY z (List.mem_cons_of_mem _ hz)) hnd.2;have hy:=hY y List.mem_cons_self
       by_cases e:y=x
       ·subst e
        have hnot:y∉Y:=fun h=>hnd.1 (List.mem_map.2 ⟨y,h,rfl⟩)
        rw[if_neg hnot]at h1;rw[if_pos List.mem_cons_self,List.filter_cons,List.filter_cons,Bf J,if_pos rfl,U];simp only[Bool.not_true,Bool.not_false,if_true,Bool.false_eq_true,if_false,List.length_cons]
        omega
       ·have hne:y.i≠x.i:=fun h=>e (hinj y hy h)
        have hiff:(x∈y::Y)↔x∈Y:=⟨fun h=>(List.mem_cons.1 h).elim (fun h=>absurd h.symm e) id,List.mem_cons_of_mem _⟩
        rw[List.filter_cons,List.filter_cons,Bf (hsz y hy),if_neg (Ne.symm hne)];simp only[hiff]
        split
        ·simp only[List.length_cons];omega
        ·exact h1
     have h2:=ah X (fun _ h=>h) c5;rw[if_pos hx]at h2
     omega
    ·have hset:∀j,j<l1.size→(l1.setIfInBounds x.i true).getD j false=(if x.i=j then true else l1.getD j false):=fun j hj=>Bf hj
     have hout:∀j,¬j<l1.size→(l1.setIfInBounds x.i true).getD j false=false∧l1.getD j false=false:=fun j hj=>by simp[Array.getD_eq_getD_getElem?,hj]
     have hold:∀j,(l1.setIfInBounds x.i true).getD j false=true→j=x.i∨l1.getD j false=true:=by
      intro j hj
      by_cases h:j<l1.size
      ·by_cases e:x.i=j
       ·exact .inl e.symm
       ·rw[hset j h,if_neg e]at hj;exact .inr hj
      ·rw[(hout j h).1]at hj;cases hj
     have hnew:∀j,l1.getD j false=true→(l1.setIfInBounds x.i true).getD j false=true:=by
      intro j hj
      by_cases h:j<l1.size
      ·rw[hset j h]
       by_cases e:x.i=j
       ·rw[if_pos e]
       ·rw[if_neg e];exact hj
      ·rw[(hout j h).2]at hj;cases hj
     have hput:∀t,x.N=some t→(a.put o.dst v).eval (.tmp t)=v:=by
      intro t e;have hlt:=(c4 x hx).2;rw[e]at hlt
      have htn:t<a.tmps.size:=by rw[hI.tsize];simpa using hlt
      rw[hdst,e];simp[Act.put,Act.eval,Array.getD_eq_getD_getElem?,htn]
     have ae:∀t,x.N≠some t→(a.put o.dst v).eval (.tmp t)=a.eval (.tmp t):=by
      intro t ht;rw[hdst];exact Act.eval_put (fun d hd e=>ht (by injection e with e;rw[hd,e]))
     exact {
      size:=by simpa using hI.size
      base:=fun j hj=>hnew j (hI.base j hj)
      only:=fun j hj=>(hold j hj).elim (fun e=>.inr ⟨x,hx,e.symm⟩) (hI.only j)
      closed:=hI.closed.set hi
      hS:=aj
      hB:=ax
      defers:=by rw[hdst];cases x.N<;>exact hI.defers
      tsize:=by rw[hdst];cases x.N<;>simpa [Act.put]using hI.tsize
      val:=by
       intro y hy hyl t et
       by_cases e:y=x
       ·subst e;rw[hput t et,if_pos rfl]
       ·have hne:y.i≠x.i:=fun h=>e (hinj y hy h)
        rw[if_neg hne,ae _ (fun h=>e (Oh c6 hy hx et h))];exact hI.val y hy ((hold _ hyl).resolve_left hne) t et
      oth:=by
       intro t ht;rw[ae t (ht x hx (by rw[hset _ J,if_pos rfl]))];exact hI.oth t (fun y hy hyl=>ht y hy (hnew _ hyl))
      fact:=by
       refine Eq.mp (congrArg (fun L=>F L _ w') (funext fun j=>?_)) hg
       by_cases h:j<l1.size
       ·rw[hset j h]
        by_cases e:j=x.i
        ·rw[if_pos e,if_pos e.symm]
        ·rw[if_neg e,if_neg (Ne.symm e)]
       ·rw[(hout j h).1,(hout j h).2,if_neg (fun e=>h (by rw[e];exact J))]}
 refine key X.length l a0 w0 (fun _=>undef) ?_ ?_
 ·have:X.filter (fun x=> !l.getD x.i false)=X:=by
   rw[List.filter_eq_self];intro x hx;have h:=(c4 x hx).1.1.1.2
   have:l.getD x.i false=false:=by
    by_cases hs:x.i<l.size
    ·rw[←Bj hs];exact h
    ·simp[Array.getD_eq_getD_getElem?,hs]
   simp[this]
  rw[this]
 ·have hno:∀x∈X,l.getD x.i false=true→False:=by
   intro x hx h;have h2:=(c4 x hx).1.1.1.2
   by_cases hs:x.i<l.size
   ·rw[Bj hs,h]at h2;cases h2
   ·simp[Array.getD_eq_getD_getElem?,hs]at h
  exact {
   size:=rfl,base:=fun _ h=>h,only:=fun _ h=>.inl h,closed:=Region.AX c2,hS:=h0,hB:=Below.refl _ _,defers:=rfl,tsize:=rfl
   val:=fun x hx h=>(hno x hx h).elim,oth:=fun _ _=>rfl,fact:=init _ _ (fun x hx=>by cases h:l.getD x.i false with|false=>rfl|true=>exact(hno x hx h).elim)}
theorem PT {fuel:Nat} {l:Array Bool} {a0:Act} {w0:World} (l':Array Bool) (X:List Rw)
  (hc:Ca md ops l l' a0.tmps.size X=true)
  (step:∀x∈X,∀o,ops[x.i]? =some o→FW P ops md Q S X a0 w0 x o)
  (h0:S w0) (cont:∀vs w,S w→Below w0.heap.size w0 w→(∀x∈X,x.G vs w)→nL P md ops Q S ds fuel l' (rG a0 (puts X vs)) w):
  nL P md ops Q S ds (X.length+fuel) l a0 w0:=by
 have hc':=hc
 simp only[Ca,Bool.and_eq_true,beq_iff_eq,List.all_eq_true,decide_eq_true_eq,Bool.or_eq_true,List.any_eq_true,Bool.not_eq_true',List.contains_iff_mem]at hc';obtain⟨⟨⟨⟨⟨⟨_,_⟩,_⟩,c4⟩,c5⟩,_⟩,_⟩:=hc';refine Pz l' X (fun L vs w=>∀x∈X,L x.i=true→x.G vs w) hc (fun L vs h x hx hl=>by rw[h x hx]at hl;cases hl) (fun x hx o ho L vs a w hS hB hF hn hw hv ht K hK=>?_) h0 (fun L vs w hS hB hl hF=>cont vs w hS hB (fun x hx=>hF x hx (hl x hx)));refine step x hx o ho vs a w hS hB (fun y hy af=>⟨(hv y hy (hw _ (List.contains_iff_mem.1 af))).1,hF y hy (hw _ (List.contains_iff_mem.1 af))⟩) ht K (fun v w' h1 h2 h3 h4=>hK v w' h1 h2 (fun y hy hyl=>?_))
 by_cases e:y.i=x.i
 ·obtain rfl:=Lu c5 hy hx e
  exact h4
 ·simp only[if_neg e]at hyl
  refine h3 y hy e (fun hd=>?_) (hF y hy hyl)
  have:=(hv y hy hyl).2 _ ((c4 y hy).1.2 _ hd)
  rw[hn]at this
  cases this
def All (X Y:List Rw) (P:Program) (ops:Array Oper) (md:Region.Mode) (Q:Exit→Act→World→Prop) (S:World→Prop) (a0:Act) (w0:World):Prop:=∀x∈Y,Still x∧∀o,ops[x.i]? =some o→StepB P ops md Q S X a0 w0 x o∨FW P ops md Q S X a0 w0 x o
theorem All.nil {X:List Rw} {a0:Act} {w0:World}:All X [] P ops md Q S a0 w0:=fun _ h=>by cases h
theorem All.more {X Y:List Rw} {a0:Act} {w0:World} {x:Rw} {o:Oper} (ho:ops[x.i]? =some o) (h1:Still x) (h2:StepB P ops md Q S X a0 w0 x o∨FW P ops md Q S X a0 w0 x o) (h:All X Y P ops md Q S a0 w0):All X (x::Y) P ops md Q S a0 w0:=by
 intro y hy
 rcases List.mem_cons.1 hy with rfl|hy
 ·refine⟨h1,fun o' ho'=>?_⟩
  obtain rfl:=Option.some.inj (ho.symm.trans ho');exact h2
 ·exact h y hy
theorem All.cons {X Y:List Rw} {a0:Act} {w0:World} {x:Rw} {o:Oper} (ho:ops[x.i]? =some o) (h1:Still x) (h2:StepB P ops md Q S X a0 w0 x o) (h:All X Y P ops md Q S a0 w0):All X (x::Y) P ops md Q S a0 w0:=All.more ho h1 (.inl h2) h
theorem PG {fuel n:Nat} {l:Array Bool} {a0:Act} {w0:World} (l':Array Bool) (X:List Rw) (hc:Ca md ops l l' a0.tmps.size X=true) (hn:X.length+fuel=n) (hS:∀w w',Below w.heap.size w w'→S w→S w') (h0:S w0) (step:All X X P ops md Q S a0 w0)
  (cont:∀vs w,S w→Below w0.heap.size w0 w→(∀x∈X,x.G vs w)→nL P md ops Q S ds fuel l' (rG a0 (puts X vs)) w):nL P md ops Q S ds n l a0 w0:=by
 subst hn;refine PT l' X hc (fun x hx o ho=>?_) h0 cont
 rcases(step x hx).2 o ho with h|h
 ·intro vs a w h1 h2 h3 h4 K hK
  refine h vs a w h1 h2 h3 h4 K (fun v w' hb hg=>hK v w' (hS w w' hb h1) (nZ h2 hb) (fun y hy hne hnd aa=>(step y hy).1 vs _ w w' (fun k hk=>?_) hb aa) hg)
  have hkx:k≠x.i:=by
   rintro rfl
   rcases hk with hk|hk
   ·exact hne hk.symm
   ·exact hnd hk
  exact(if_neg hkx).symm
 ·exact h
end
theorem cb_ {W W':World} {g j:Nat} {v:Value} (hb:Below W.heap.size W W') (h:W.cell? ⟨g,j,none⟩=some v):W'.cell? ⟨g,j,none⟩=some v:=(hb.cell (World.block_lt_of_cell? W _ h)).trans h
section
variable {P:Program} {ops:Array Oper} {Q:Exit→Act→World→Prop} {md:Region.Mode} {S:World→Prop} {ds:List Nat}
def Nv (P:Program) (ops:Array Oper) (md:Region.Mode) (Q:Exit→Act→World→Prop) (F:(Nat→Bool)→(Nat→Value)→World→Prop) (X:List Rw) (a0:Act) (w0:World) (i:Nat) (o:Oper):Prop:=
 ∀L vs a w,Below w0.heap.size w0 w→F L vs w→L i=false→(∀j∈waits md ops i,L j=true)→(∀y∈X,L y.i=true→(∀t,y.N=some t→a.eval (.tmp t)=vs y.i)∧∀j∈waits md ops y.i,L j=true)→(∀t,(X.map (·.N)).contains (some t)=false→a.eval (.tmp t)=a0.eval (.tmp t))→
  ∀K:Act→World→Prop,(∀v w',Below w0.heap.size w0 w'→F (fun j=>if j=i then true else L j) (fun j=>if j=i then v else vs j) w'→K (a.put o.dst v) w')→if Region.wanted o (yielded ops a.tmps)=true then Oper.wp P o a w K Q else K (a.put o.dst undef) w
def xm (Y:List Rw) (P:Program) (ops:Array Oper) (md:Region.Mode) (Q:Exit→Act→World→Prop) (F:(Nat→Bool)→(Nat→Value)→World→Prop) (X:List Rw) (a0:Act) (w0:World):Prop:=∀x∈Y,∀o,ops[x.i]? =some o→Nv P ops md Q F X a0 w0 x.i o
theorem xm.nil {F:(Nat→Bool)→(Nat→Value)→World→Prop} {X:List Rw} {a0:Act} {w0:World}:xm [] P ops md Q F X a0 w0:=fun _ h=>by cases h
theorem xm.cons {F:(Nat→Bool)→(Nat→Value)→World→Prop} {X Y:List Rw} {a0:Act} {w0:World} {x:Rw} {o:Oper} (ho:ops[x.i]? =some o) (h1:Nv P ops md Q F X a0 w0 x.i o) (h:xm Y P ops md Q F X a0 w0):xm (x::Y) P ops md Q F X a0 w0:=by
 intro y hy o' ho'
 rcases List.mem_cons.1 hy with rfl|hy
 ·obtain rfl:=Option.some.inj (ho.symm.trans ho')
  exact h1
 ·exact h y hy o' ho'
abbrev rO_ (i:Nat) (t:Tmp):Rw:=⟨i,some t,[],fun _ _=>True⟩
theorem Ol {fuel n:Nat} {l:Array Bool} {a0:Act} {w0:World} (l':Array Bool) (X:List Rw) (F:(Nat→Bool)→(Nat→Value)→World→Prop) (hc:Ca md ops l l' a0.tmps.size X=true) (hn:X.length+fuel=n) (hS:∀w',Below w0.heap.size w0 w'→S w')
  (init:∀L vs,(∀x∈X,L x.i=false)→F L vs w0) (step:xm X P ops md Q F X a0 w0)
  (cont:∀L vs w,S w→Below w0.heap.size w0 w→(∀x∈X,L x.i=true)→F L vs w→nL P md ops Q S ds fuel l' (rG a0 (puts X vs)) w):nL P md ops Q S ds n l a0 w0:=by
 subst hn;exact Pz l' X F hc init (fun x hx o ho L vs a w _ h2 h3 h4 h5 h6 h7 K hK=>step x hx o ho L vs a w h2 h3 h4 h5 h6 h7 K (fun v w' hb hf=>hK v w' (hS w' hb) hb hf)) (hS w0 (Below.refl _ _)) cont
end
theorem I5 {n k:Nat} {u:Value} (h:∀k,u.ownBlock=some k→k<n) (hk:n≤k):some k≠u.ownBlock:=fun e=>absurd (h k e.symm) om
theorem FH {n k:Nat} {u:Value} (h:∀k,u.ownBlock=some k→n≤k) (hk:k<n):some k≠u.ownBlock:=fun e=>absurd (h k e.symm) om
structure Tw (W:World) (B:Nat) (la lb:Bool) (va vb:Value) (xs ys:List Int):Prop where
 a:la=true→Kd.R (Kd.int .i64) 3 W B (fun k=>lb=true→some k≠vb.ownBlock) va xs
 b:lb=true→Kd.R (Kd.int .i64) 3 W B (fun k=>la=true→some k≠va.ownBlock) vb ys
section
variable {W W1:World} {B:Nat} {la lb:Bool} {va vb v:Value} {xs ys zs:List Int}
theorem Tw.symm (h:Tw W B la lb va vb xs ys):Tw W B lb la vb va ys xs:=⟨h.b,h.a⟩
theorem Tw.below (h:Tw W B la lb va vb xs ys) (hb:Below W.heap.size W W1):Tw W1 B la lb va vb xs ys:=⟨fun l=>Kd.nX (h.a l) hb,fun l=>Kd.nX (h.b l) hb⟩
theorem Tw.new {ok:Nat→Prop} (h:Tw W B la lb va vb xs ys) (hn:Kd.R (Kd.int .i64) 3 W1 W.heap.size ok v zs) (hb:Below W.heap.size W W1) (hB:B≤W.heap.size):Tw W1 B true lb v vb zs ys:=
 ⟨fun _=>Kd.nE (Kd.mM (Kd.tQ hn) (fun _ hk l=>I5 (Kd.oV (h.b l)) hk.2.1)) hB,fun l=>Kd.mM (Kd.oz (h.b l) (Kd.nW hn) hb) (fun _ hk _=>hk.2)⟩
theorem Tw.app (h:Tw W B la lb va vb xs ys) (l1:la=true) (hn:Kd.R (Kd.int .i64) 3 W1 B (fun k=>lb=true→some k≠vb.ownBlock) v zs) (hg:W.grownBy W1 va.ownBlock) (hat:v.ownBlock=va.ownBlock∨∃b,v.ownBlock=some b∧W.heap.size≤b):Tw W1 B true lb v vb zs ys:=
 ⟨fun _=>hn,fun l=>Kd.mM (Kd.pq (ok:=fun _=>True) (Kd.mM (h.b l) (fun _ hk=>⟨trivial,hk l1⟩)) hg hat) (fun _ hk _=>hk.2)⟩
theorem Tw.fresh (h:Tw W B la lb va vb xs ys) (k:Nat) (hk:W.heap.size≤k) (l:lb=true):some k≠vb.ownBlock:=Kd.fresh' (Kd.oV (h.b l)) k hk
end
theorem no_ {b:Bool} {p:Prop} (h:b=false):b=true→p:=by subst h;intro h;cases h
theorem Tw.init {W:World} {B:Nat} {la lb:Bool} {va vb:Value} {xs ys:List Int} (h1:la=false) (h2:lb=false):Tw W B la lb va vb xs ys:=⟨no_ h1,no_ h2⟩
theorem ev_ {a:Act} {t:Tmp} {v:Value} (h:a.eval (.tmp t)=v):a.tmps[t]?.getD undef=v:=by rw[←h];simp[Act.eval,Array.getD_eq_getD_getElem?]
theorem Tw.as {W:World} {B:Nat} {la lb la':Bool} {va vb ak:Value} {xs ys xs':List Int} (h:Tw W B la lb va vb xs ys) (e1:ak=va) (e2:xs'=xs) (e0:la'=la):Tw W B la' lb ak vb xs' ys:=by subst e1 e2 e0;exact h
theorem Jl {a b:Bool} (h:a=true→b=true) (hb:b=false):a=false:=by cases a;rfl;exact absurd (h rfl) (by rw[hb];decide)
end Go.Proofs.Ytiingconapodpaa.PFnLinear
