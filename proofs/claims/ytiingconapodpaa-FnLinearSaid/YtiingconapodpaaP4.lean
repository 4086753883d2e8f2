/- The machine side of one law: some contracts printed by this session's own program, some typed by hand. -/
import Derived.Test.YtiingconapodpaaW
import Derived.Test.YtiingconapodpaaP3
namespace Go.Proofs.Ytiingconapodpaa.PFnLinear
open Go.RowKit Go.Proofs.YtiingconapodpaaW Go.Proofs.YtiingconapodpaaW.PrintWords Go.Proofs.YtiingconapodpaaW.PrintLast Go.Proofs.YtiingconapodpaaW.PrintMore
attribute [local go_sem] pO pJ qj qm oZ oW pK pM
set_option linter.unusedVariables false
set_option maxHeartbeats 8000000
set_option maxRecDepth 100000
set_option linter.unusedSimpArgs false
def small (N:List (List Int)) (O:List Int):Prop:=N.length≤5∧O.length≤5∧∀r∈N,r.length≤3
def FL (r:List Int) (M:List (List (List Int))) (c:List Int):Prop:=r.length≤64∧c.length≤64∧M.length≤64∧∀x∈M,x.length≤64∧∀y∈x,y.length≤64
def LF1:Prop:=∀ (b:Int) (N:List (List Int)) (O:List Int) (v m:Int),small N O→∃k kk t,rA.f k b N O v m=some kk∧rD.f k b N O v m=some kk∧ou.f k b N O v m=some t∧ow.f k b N O v m=some t∧(0≤kk→m≤3000→kk=t)
def LF2:Prop:=∀ (b:Int) (N:List (List Int)) (O:List Int) (v:Int),small N O→∃k r1 r2 r3 r4 r5 s1 s2 s3 s4,pW.f k b N O v=some (r1,r2,r3,r4,r5)∧mJ.f k b N O v=some (s1,s2,s3,s4,r5)∧oh.f k r1 r2 r3 r4 s1 s2 s3 s4=some true∧(r5=true→nz.f k s1 s2 s3 s4=some true)
def LF3:Prop:=∀ (b:Int) (r:List Int) (M:List (List (List Int))) (c:List Int) (b':Int) (r':List Int) (M':List (List (List Int))) (c':List Int) (m:Int),FL r M c→FL r' M' c'→∃k s1 s2 s3 s4 q1 q2 q3 q4 one,tV.f k b r M c b' r' M' c'=some (s1,s2,s3,s4,one)∧nk.f k b r M c b' r' M' c'=some (q1,q2,q3,q4,one)∧oh.f k s1 s2 s3 s4 q1 q2 q3 q4=some true∧(one=true→∃e1 e2,qd.f k q1 q2 q3 q4 m=some (wrap64 (e1+e2))∧mP.f k b r M c m=some e1∧mP.f k b' r' M' c' m=some e2)
def LF4:Prop:=∀ (b:Int) (N:List (List Int)) (O:List Int) (q:Int),small N O→∃k s,qc.f k b N O q=some s∧qg.f k b N O q=some s∧(0≤s→q≤200→∃ (n:Nat) (ac:Nat→Int),q=n∧ac 0=0∧ac n=s∧∀i,i<n→∃t,o9.f k b N O i=some t∧wrap64 (ac i+t)=ac (i+1))
def LF5:Prop:=∀ (b:Int) (r:List Int) (M:List (List (List Int))) (c:List Int) (m:Int),FL r M c→∃k e t,qd.f k b r M c m=some e∧mP.f k b r M c m=some e∧nz.f k b r M c=some t∧mZ.f k b r M c=some t
structure Sq (W:World) (A1:Option Addr) (c1:Nat) (N:List (List Int)) (A2:Option Addr) (c2:Nat) (O:List Int):Prop where
 r:Kd.R K2 25 W 0 (fun _=>True) (.slice A1 N.length c1) N
 o:Kd.R K1 3 W 0 (fun _=>True) (.slice A2 O.length c2) O
structure Ln (W:World) (A1:Option Addr) (c1:Nat) (r:List Int) (A2:Option Addr) (c2:Nat) (M:List (List (List Int))) (A3:Option Addr) (c3:Nat) (c:List Int):Prop where
 a1:Kd.C K1 W A1 r.length r
 a2:r.length≤c1
 a3:Kd.C K3 W A2 M.length M
 a4:M.length≤c2
 a5:Kd.C K1 W A3 c.length c
 a6:c.length≤c3
section
variable {W W1:World} {B:Nat} {A1 A2 A3:Option Addr} {c1 c2 c3 n b:Nat} {N:List (List Int)} {O r c:List Int} {M:List (List (List Int))} {v1 v2 v3:Value}
theorem Sq.below (h:Sq W A1 c1 N A2 c2 O) (hb:Below W.heap.size W W1):Sq W1 A1 c1 N A2 c2 O:=⟨Kd.nX h.r hb,Kd.nX h.o hb⟩
theorem Sq.a1 (h:Sq W A1 c1 N A2 c2 O):Kd.C K2 W A1 N.length N:=(Kd.mX h.r).2.2
theorem Sq.a2 (h:Sq W A1 c1 N A2 c2 O):N.length≤c1:=(Kd.mX h.r).2.1
theorem Sq.a3 (h:Sq W A1 c1 N A2 c2 O):Kd.C K1 W A2 O.length O:=(Kd.mX h.o).2.2
theorem Sq.a4 (h:Sq W A1 c1 N A2 c2 O):O.length≤c2:=(Kd.mX h.o).2.1
theorem SqR.sq (h:SqR W B v1 v2 b n) (hx:b≤3∧n≤5):∃A1 c1 N A2 c2 O,v1=.slice A1 N.length c1∧v2=.slice A2 O.length c2∧Sq W A1 c1 N A2 c2 O∧small N O:=by
 obtain⟨N,O,h1,h2,e1,e2,e3⟩:=h;obtain⟨A1,c1,rfl⟩:=Kd.mU h1;obtain⟨A2,c2,rfl⟩:=Kd.mU h2;exact⟨_,_,N,_,_,O,rfl,rfl,⟨Kd.nE (Kd.mM h1 (fun _ _=>trivial)) (Nat.zero_le _),Kd.nE h2 (Nat.zero_le _)⟩,om,om,fun r hr=>by rw[e3 r hr];exact hx.1⟩
theorem Ln.below (h:Ln W A1 c1 r A2 c2 M A3 c3 c) (hb:Below W.heap.size W W1):Ln W1 A1 c1 r A2 c2 M A3 c3 c:=⟨Kd.mO h.a1 hb,h.a2,Kd.mO h.a3 hb,h.a4,Kd.mO h.a5 hb,h.a6⟩
theorem LnB.ln (h:LnB W B v1 v2 v3):∃A1 c1 r A2 c2 M A3 c3 c,v1=.slice A1 r.length c1∧v2=.slice A2 M.length c2∧v3=.slice A3 c.length c3∧Ln W A1 c1 r A2 c2 M A3 c3 c∧FL r M c:=by
 obtain⟨r,M,c,h1,h2,h3,hx⟩:=h;obtain⟨A1,c1,rfl⟩:=Kd.mU h1;obtain⟨A2,c2,rfl⟩:=Kd.mU h2;obtain⟨A3,c3,rfl⟩:=Kd.mU h3;exact⟨_,_,r,_,_,M,_,_,c,rfl,rfl,rfl,⟨(Kd.mX h1).2.2,(Kd.mX h1).2.1,(Kd.mX h2).2.2,(Kd.mX h2).2.1,(Kd.mX h3).2.2,(Kd.mX h3).2.1⟩,hx⟩
theorem Ln.of {ok1 bV:Nat→Prop} {B3:Nat} (h1:Kd.R K1 3 W B ok1 v1 r) (h2:∃A2 c2,v2=.slice A2 M.length c2∧M.length≤c2∧Kd.C K3 W A2 M.length M) (h3:Kd.R K1 3 W B3 bV v3 c):∃A1 c1 A2 c2 A3 c3,v1=.slice A1 r.length c1∧v2=.slice A2 M.length c2∧v3=.slice A3 c.length c3∧Ln W A1 c1 r A2 c2 M A3 c3 c:=by
 obtain⟨A1,c1,rfl⟩:=Kd.mU h1;obtain⟨A2,c2,rfl,h4,h5⟩:=h2;obtain⟨A3,c3,rfl⟩:=Kd.mU h3;exact⟨_,_,_,_,_,_,rfl,rfl,rfl,⟨(Kd.mX h1).2.2,(Kd.mX h1).2.1,h5,h4,(Kd.mX h3).2.2,(Kd.mX h3).2.1⟩⟩
theorem vR {w:World} {gs:Nat} {a b c d:Value} (h:Below w.heap.size w W) (hg:w.heap.size≤gs):Below w.heap.size w ((((W.setCell ⟨gs,0,none⟩ a).setCell ⟨gs,1,none⟩ b).setCell ⟨gs,2,none⟩ c).setCell ⟨gs,3,none⟩ d):=mY (mY (mY (mY h hg) hg) hg) hg
theorem Ew {w:World} {gs:Nat} {a b c:Value} (h:Below w.heap.size w W) (hg:w.heap.size≤gs):Below w.heap.size w (((W.setCell ⟨gs,0,none⟩ a).setCell ⟨gs,1,none⟩ b).setCell ⟨gs,2,none⟩ c):=mY (mY (mY h hg) hg) hg
end
theorem at3 (l:List Int):∃m,zG.f l 3=some m:=by
 unfold zG.f
 by_cases h:(3:Int)<(l.length:Int)
 ·rw[if_pos h,if_pos om];exact⟨_,rfl⟩
 ·rw[if_neg h];exact⟨_,rfl⟩
theorem EJ.dr (h1:LF1) (h2:LF2) (h3:LF3) (h4:LF4) (h5:LF5) (hcf:MM) (A0:Option Addr) (c0:Nat) (l:List Int) (w:World) (hr:Kd.C (Kd.int .u8) w A0 l.length l) (hc:l.length≤c0):Calls Try.prog 3 #[.slice A0 l.length c0] w fun e w'=>e=.returned (.bool true)∧Below w.heap.size w w':=by
 have bW:=Try.underlying27;have bX:=Try.underlying33;have F1:=A_ h1;have F2:=A_ h2;have F3:=A_ h3;have F4:=A_ h4;have F5:=A_ h5;have bK:=A_ hcf;have HB:=A_ (Below.refl w.heap.size w);have HC:=A_ hr;have HL:=A_ hc;clear hr hc hcf h1 h2 h3 h4 h5
 by_cases hbig:(l.length:Int)>1048576
 ·go_enter Try.func3,Try.ntmps3
  go_wp2_with (go_at_call 4;(with_reducible refine(xN.calls A0 c0 l true _ (Kd.mO HC.o HB.o) HL.o (by unfold xN.f;rw[decide_eq_true hbig])).mono ?_);rintro e W1 ⟨rfl,hd⟩;have hb:=hd.below;replace HB:=bs_ HB hb;clear hd hb)
  refine bodyPost_ret (results_tmp rfl _ _ _) rfl ?_;exact⟨rfl,HB.o⟩
 have HG:=A_ (Int.not_lt.1 hbig);go_enter Try.func3,Try.ntmps3
 go_upto_region 4 with(first|(go_at_call 4;(with_reducible refine(xN.calls A0 c0 l false _ (Kd.mO HC.o HB.o) HL.o (by unfold xN.f;rw[decide_eq_false hbig])).mono ?_);rintro e W1 ⟨rfl,hd⟩;have hb:=hd.below;replace HB:=bs_ HB hb;clear hd hb)|(go_at_call 5;(with_reducible refine(zu.dr A0 c0 l _ (Kd.mO HC.o HB.o) HL.o (by have:=HG.o;omega)).mono ?_);rintro e W2 ⟨v1,v2,b,v,m,bb,n,rfl,hs,hb,hx⟩;obtain⟨A1,c1,N,A2,c2,O,rfl,rfl,hs',hn⟩:=hs.sq hx;have HS:=A_ hs';clear hs';have HN:=A_ hn;replace HB:=bs_ HB hb;clear hs hn hx hb hbig)|((with_reducible refine gt_ 3 ?_);refine be_ 3 #[.int .i64 0,.slice none 0 0,.slice none 0 0] 27 ?_;intro gS hg bY J hb;have BS:=A_ J;have HK:=A_ (And.intro hb (Nat.le_of_eq hg.symm));have qS:=bw3 BS.o;clear hb J hg))
 obtain⟨k,kk,t,f1,f2,f3,f4,f5⟩:=F1.o b N O v m HN.o;have FA:=A_ (And.intro f1 (And.intro f2 (And.intro f3 (And.intro f4 f5))));clear f1 f2 f3 f4 f5 qS
 generalize hW:((bY.setCell ⟨gS,0,none⟩ (.int .i64 b)).setCell ⟨gS,1,none⟩ (.slice A1 N.length c1)).setCell ⟨gS,2,none⟩ (.slice A2 O.length c2)=W3
 have hb:Below W2.heap.size W2 W3:=hW▸Ew HK.o.1 HK.o.2
 replace BS:=A_ (hW▸(uN BS.o).2.2:W3.heap[gS]? =some (.cells #[.int .i64 b,.slice A1 N.length c1,.slice A2 O.length c2] 27 (0,0)));replace HB:=bs_ HB hb;replace HS:=A_ (HS.o.below hb);clear hW hb HK;have qS:=bw3 BS.o
 go_upto_region 5 with(go_at_call 6;(with_reducible refine(rA.calls k b A1 c1 N A2 c2 O v m kk _ HS.o.a1 HS.o.a2 HS.o.a3 HS.o.a4 FA.o.1).mono ?_);rintro e W4 ⟨rfl,hb⟩;replace HB:=bs_ HB hb;replace BS:=bb_ BS hb;replace HS:=A_ (HS.o.below hb);clear qS;have qS:=bw3 BS.o;clear hb)
 clear qS
 try go_wp2
 have hb:=qw (Below.refl W4.heap.size W4);replace HB:=bs_ HB hb;replace BS:=bb_ BS hb;replace HS:=A_ (HS.o.below hb);clear hb;refine rM (n:=17) (S:=fun w'=>cB3 gS (.int .i64 b) (.slice A1 N.length c1) (.slice A2 O.length c2) w') (ds:=[]) (mk_ 17 0) K_ rfl rfl (bc3 BS) (fun aa=>?_);refine pz_ 0 37 (mk_ 17 1) ?_;refine pz_ 2 39 (mk_ 17 5) ?_;refine pz_ 3 40 (mk_ 17 13) ?_;refine tz_ 1 38 (mk_ 17 15) aa ?_
 refine oz_ 4 (mk_ 17 31) (fun K hK=>?_);refine cT_ E7 (rD.calls k b A1 c1 N A2 c2 O v m kk _ HS.o.a1 HS.o.a2 HS.o.a3 HS.o.a4 FA.o.2.1) ?_;rintro e W5 ⟨rfl,hb⟩;refine⟨_,rfl,?_⟩;replace HB:=bs_ HB hb;replace BS:=bb_ BS hb;replace HS:=A_ (HS.o.below hb);clear hb aa;refine hK.out _ _ (bc3 BS) (fun aa=>?_);clear hK K;refine nm_ 41 ?_;refine pz_ 5 42 (mk_ 17 63) ?_;refine pz_ 6 43 (mk_ 17 127) ?_;refine pz_ 8 45 (mk_ 17 383) ?_;refine pz_ 9 46 (mk_ 17 895) ?_;refine pz_ 12 49 (mk_ 17 4991) ?_;refine pz_ 13 50 (mk_ 17 13183) ?_;refine tz_ 7 44 (mk_ 17 13311) aa ?_;refine tz_ 11 48 (mk_ 17 15359) aa ?_
 refine oz_ 10 (mk_ 17 16383) (fun K hK=>?_);refine cT_ E8 (ou.calls k b A1 c1 N A2 c2 O v m t _ HS.o.a1 HS.o.a2 HS.o.a3 HS.o.a4 FA.o.2.2.1) ?_;rintro e W6 ⟨rfl,hb⟩;refine⟨_,rfl,?_⟩;replace HB:=bs_ HB hb;replace BS:=bb_ BS hb;replace HS:=A_ (HS.o.below hb);clear hb aa;refine hK.out _ _ (bc3 BS) (fun aa=>?_);clear hK K;refine nm_ 47 ?_
 refine oz_ 14 (mk_ 17 32767) (fun K hK=>?_);refine cT_ E9 (ow.calls k b A1 c1 N A2 c2 O v m t _ HS.o.a1 HS.o.a2 HS.o.a3 HS.o.a4 FA.o.2.2.2.1) ?_;rintro e W7 ⟨rfl,hb⟩;refine⟨_,rfl,?_⟩;replace HB:=bs_ HB hb;replace BS:=bb_ BS hb;replace HS:=A_ (HS.o.below hb);clear hb aa;refine hK.out _ _ (bc3 BS) (fun aa=>?_);clear hK K;refine nm_ 51 ?_;refine pz_ 15 52 (mk_ 17 65535) ?_;refine pz_ 16 53 (mk_ 17 131071) ?_
 refine sZ K_ ?_;clear aa
 go_upto_region 7 with fail
 go_cut [67] (fun ah wc=>ah=.bool false∧Aside0 (Below w.heap.size w wc)∧Aside0 (wc.heap[gS]? =some (.cells #[.int .i64 b,.slice A1 N.length c1,.slice A2 O.length c2] 27 (0,0)))∧Aside0 (Sq wc A1 c1 N A2 c2 O))
 case first=>as_aux_lemma=>
  by_cases z0:0≤kk
  ·have d0:decide (0≤kk)=true:=decide_eq_true z0
   by_cases z1:m≤3000
   ·have d1:decide (m≤3000)=true:=decide_eq_true z1
    have e0:=A_ (FA.o.2.2.2.2 z0 z1);have qS:=bw3 BS.o
    go_wp2_with (go_at_call 8;(with_reducible refine(ou.calls k b A1 c1 N A2 c2 O v m kk _ HS.o.a1 HS.o.a2 HS.o.a3 HS.o.a4 (by rw[e0.o];exact FA.o.2.2.1)).mono ?_);rintro e W8 ⟨rfl,hb⟩;replace HB:=bs_ HB hb;replace BS:=bb_ BS hb;replace HS:=A_ (HS.o.below hb);clear hb)
    go_meet
    case rel=>exact⟨rfl,HB,BS,HS⟩
   ·have d1:decide (m≤3000)=false:=decide_eq_false z1
    go_wp2
    go_meet
    case rel=>exact⟨rfl,HB,BS,HS⟩
  ·have d0:decide (0≤kk)=false:=decide_eq_false z0
   go_wp2
   go_meet
   case rel=>exact⟨rfl,HB,BS,HS⟩
 case rest=>
 clear HB BS HS FA;obtain⟨rfl,HB,BS,HS⟩:=hcut;obtain⟨k,r1,r2,r3,r4,r5,s1,s2,s3,s4,f1,f2,f3,f4⟩:=F2.o b N O v HN.o;have FA:=A_ (And.intro f1 (And.intro f2 (And.intro f3 f4)));clear f1 f2 f3 f4;have qS:=bw3 BS.o
 go_upto_region 10 with(first|(go_at_call 10;(with_reducible refine(pW.calls k b (fun _=>True) A1 c1 N A2 c2 O v r1 r2 r3 r4 r5 _ (Kd.R_V HS.o.r) HS.o.a3 HS.o.a4 FA.o.1).mono ?_);rintro e W9 ⟨v1,v2,v3,rfl,ha,hn,hc,hb⟩;obtain⟨bA,bB,bC,bD,bE,bF,rfl,rfl,rfl,hl⟩:=Ln.of ha (Kd.M3 hn) hc;have LA:=A_ hl;replace HB:=bs_ HB hb;replace BS:=bb_ BS hb;replace HS:=A_ (HS.o.below hb);clear ha hn hc hl hb)|((with_reducible refine gt_ 7 ?_);refine be_ 7 #[.int .i64 0,.slice none 0 0,.slice none 0 0,.slice none 0 0] 33 ?_;intro gA hg bZ J hb;have BA:=A_ J;have HK:=A_ (And.intro hb (Nat.le_of_eq hg.symm));have qA:=bw4 BA.o;clear hb J hg))
 clear qS qA
 generalize hW:(((bZ.setCell ⟨gA,0,none⟩ (.int .i64 r1)).setCell ⟨gA,1,none⟩ (.slice bA r2.length bB)).setCell ⟨gA,2,none⟩ (.slice bC r3.length bD)).setCell ⟨gA,3,none⟩ (.slice bE r4.length bF)=bL
 have hb:Below W9.heap.size W9 bL:=hW▸vR HK.o.1 HK.o.2
 replace BA:=A_ (hW▸(tF BA.o).2.2.2:bL.heap[gA]? =some (.cells #[.int .i64 r1,.slice bA r2.length bB,.slice bC r3.length bD,.slice bE r4.length bF] 33 (0,0)));replace HB:=bs_ HB hb;replace BS:=bb_ BS hb;replace HS:=A_ (HS.o.below hb);replace LA:=A_ (LA.o.below hb);clear hW hb HK;have qS:=bw3 BS.o
 go_upto_region 11 with(first|(go_at_call 11;(with_reducible refine(mJ.calls k b A1 c1 N A2 c2 O v s1 s2 s3 s4 r5 _ HS.o.a1 HS.o.a2 HS.o.a3 HS.o.a4 FA.o.2.1).mono ?_);rintro e bM ⟨v1,v2,v3,rfl,ha,hn,hc,hb⟩;obtain⟨bf,bg,bn,bq,bu,bz,rfl,rfl,rfl,hl⟩:=Ln.of ha (Kd.zM hn) hc;have LB:=A_ hl;replace HB:=bs_ HB hb;replace BS:=bb_ BS hb;replace HS:=A_ (HS.o.below hb);replace LA:=A_ (LA.o.below hb);replace BA:=bb_ BA hb;clear ha hn hc hl hb)|((with_reducible refine gt_ 9 ?_);refine be_ 9 #[.int .i64 0,.slice none 0 0,.slice none 0 0,.slice none 0 0] 33 ?_;intro gB hg b_ J hb;have BB:=A_ J;have HK:=A_ (And.intro hb (Nat.le_of_eq hg.symm));have qB:=bw4 BB.o;clear hb J hg))
 clear qS qB
 generalize hW:(((b_.setCell ⟨gB,0,none⟩ (.int .i64 s1)).setCell ⟨gB,1,none⟩ (.slice bf s2.length bg)).setCell ⟨gB,2,none⟩ (.slice bn s3.length bq)).setCell ⟨gB,3,none⟩ (.slice bu s4.length bz)=bN
 have hb:Below bM.heap.size bM bN:=hW▸vR HK.o.1 HK.o.2
 replace BB:=A_ (hW▸(tF BB.o).2.2.2:bN.heap[gB]? =some (.cells #[.int .i64 s1,.slice bf s2.length bg,.slice bn s3.length bq,.slice bu s4.length bz] 33 (0,0)));replace HB:=bs_ HB hb;replace LA:=A_ (LA.o.below hb);replace BA:=bb_ BA hb;replace LB:=A_ (LB.o.below hb);clear hW hb HK BS HS;have qA:=bw4 BA.o;have qB:=bw4 BB.o
 go_cut [96] (fun ai wc=>ai=.bool false∧Aside0 (Below w.heap.size w wc))
 case first=>as_aux_lemma=>
  cases r5
  ·go_wp2_with (go_at_call 12;(with_reducible refine(oh.calls k r1 bA bB r2 bC bD r3 bE bF r4 s1 bf bg s2 bn bq s3 bu bz s4 true _ LA.o.a1 LA.o.a2 LA.o.a3 LA.o.a4 LA.o.a5 LA.o.a6 LB.o.a1 LB.o.a2 LB.o.a3 LB.o.a4 LB.o.a5 LB.o.a6 FA.o.2.2.1).mono ?_);rintro e cu ⟨rfl,hb⟩;replace HB:=bs_ HB hb;clear hb)
   go_meet
   case rel=>exact⟨rfl,HB⟩
  ·go_wp2_with (first|(go_at_call 12;(with_reducible refine(oh.calls k r1 bA bB r2 bC bD r3 bE bF r4 s1 bf bg s2 bn bq s3 bu bz s4 true _ LA.o.a1 LA.o.a2 LA.o.a3 LA.o.a4 LA.o.a5 LA.o.a6 LB.o.a1 LB.o.a2 LB.o.a3 LB.o.a4 LB.o.a5 LB.o.a6 FA.o.2.2.1).mono ?_);rintro e cu ⟨rfl,hb⟩;replace HB:=bs_ HB hb;replace LB:=A_ (LB.o.below hb);replace BB:=bb_ BB hb;clear qA qB;have qB:=bw4 BB.o;clear hb)|(go_at_call 13;(with_reducible refine(nz.calls k s1 bf bg s2 bn bq s3 bu bz s4 true _ LB.o.a1 LB.o.a2 LB.o.a3 LB.o.a4 LB.o.a5 LB.o.a6 (FA.o.2.2.2 (by first|rfl|trivial))).mono ?_);rintro e di ⟨rfl,hb⟩;replace HB:=bs_ HB hb;clear hb))
   go_meet
   case rel=>exact⟨rfl,HB⟩
 case rest=>
 clear HB FA LA LB BA BB qA qB HN;obtain⟨rfl,HB⟩:=hcut
 go_upto_region 14 with(first|(go_at_call 14;(with_reducible refine(Bl.dr bK.o A0 c0 l _ (Kd.mO HC.o HB.o) HL.o (by have:=HG.o;omega)).mono ?_);rintro e bJ ⟨v1,v2,v3,u1,u2,u3,bx,U,rfl,hx,hy,hb⟩;obtain⟨aj,ak,rx,au,av,Mx,ax,ay,qx,rfl,rfl,rfl,hl,hn⟩:=hx.ln;have LX:=A_ hl;have NX:=A_ hn;clear hl hn hx;obtain⟨az,aA,ry,aB,aC,My,aD,aF,qy,rfl,rfl,rfl,hl,hn⟩:=hy.ln;have LY:=A_ hl;have NY:=A_ hn;clear hl hn hy;replace HB:=bs_ HB hb;clear hb)|((with_reducible refine gt_ 11 ?_);refine be_ 11 #[.int .i64 0,.slice none 0 0,.slice none 0 0,.slice none 0 0] 33 ?_;intro gX hg dm J hb;have BX:=A_ J;have HK:=A_ (And.intro hb (Nat.le_of_eq hg.symm));clear hb J hg)|((with_reducible refine gt_ 12 ?_);refine be_ 12 #[.int .i64 0,.slice none 0 0,.slice none 0 0,.slice none 0 0] 33 ?_;intro gY hg bG J hb;have BY:=A_ J;have NE:=A_ ((by rw[hg];exact Nat.ne_of_lt (pY BX.o)):gX≠gY);replace BX:=bb_ BX hb;replace HK:=A_ (And.intro (nZ HK.o.1 hb) (And.intro HK.o.2 ((by rw[hg];exact HK.o.1.size):bJ.heap.size≤gY)));have n1:=NE.o;have n2:=Ne.symm NE.o;have qX:=bw4 BX.o;have qY:=bw4 BY.o;clear hb J hg))
 clear qX qY n1 n2
 have tB:Below bJ.heap.size bJ ((((((((bG.setCell ⟨gX,0,none⟩ (.int .i64 bx)).setCell ⟨gX,1,none⟩ (.slice aj rx.length ak)).setCell ⟨gX,2,none⟩ (.slice au Mx.length av)).setCell ⟨gX,3,none⟩ (.slice ax qx.length ay)).setCell ⟨gY,0,none⟩ (.int .i64 U)).setCell ⟨gY,1,none⟩ (.slice az ry.length aA)).setCell ⟨gY,2,none⟩ (.slice aB My.length aC)).setCell ⟨gY,3,none⟩ (.slice aD qy.length aF)):=vR (vR HK.o.1 HK.o.2.1) HK.o.2.2
 have tX:((((((((bG.setCell ⟨gX,0,none⟩ (.int .i64 bx)).setCell ⟨gX,1,none⟩ (.slice aj rx.length ak)).setCell ⟨gX,2,none⟩ (.slice au Mx.length av)).setCell ⟨gX,3,none⟩ (.slice ax qx.length ay)).setCell ⟨gY,0,none⟩ (.int .i64 U)).setCell ⟨gY,1,none⟩ (.slice az ry.length aA)).setCell ⟨gY,2,none⟩ (.slice aB My.length aC)).setCell ⟨gY,3,none⟩ (.slice aD qy.length aF)).heap[gX]? =some (.cells #[.int .i64 bx,.slice aj rx.length ak,.slice au Mx.length av,.slice ax qx.length ay] 33 (0,0)):=(F8 gX NE.o).trans (tF BX.o).2.2.2
 have tY:((((((((bG.setCell ⟨gX,0,none⟩ (.int .i64 bx)).setCell ⟨gX,1,none⟩ (.slice aj rx.length ak)).setCell ⟨gX,2,none⟩ (.slice au Mx.length av)).setCell ⟨gX,3,none⟩ (.slice ax qx.length ay)).setCell ⟨gY,0,none⟩ (.int .i64 U)).setCell ⟨gY,1,none⟩ (.slice az ry.length aA)).setCell ⟨gY,2,none⟩ (.slice aB My.length aC)).setCell ⟨gY,3,none⟩ (.slice aD qy.length aF)).heap[gY]? =some (.cells #[.int .i64 U,.slice az ry.length aA,.slice aB My.length aC,.slice aD qy.length aF] 33 (0,0)):=(tF ((F8 gY (Ne.symm NE.o)).trans BY.o)).2.2.2
 generalize (((((((bG.setCell ⟨gX,0,none⟩ (.int .i64 bx)).setCell ⟨gX,1,none⟩ (.slice aj rx.length ak)).setCell ⟨gX,2,none⟩ (.slice au Mx.length av)).setCell ⟨gX,3,none⟩ (.slice ax qx.length ay)).setCell ⟨gY,0,none⟩ (.int .i64 U)).setCell ⟨gY,1,none⟩ (.slice az ry.length aA)).setCell ⟨gY,2,none⟩ (.slice aB My.length aC)).setCell ⟨gY,3,none⟩ (.slice aD qy.length aF)=dn at tB tX tY⊢
 have hb:=tB;replace BX:=A_ tX;replace BY:=A_ tY;replace HB:=bs_ HB hb;replace LX:=A_ (LX.o.below hb);replace LY:=A_ (LY.o.below hb);clear tB tX tY hb HK NE;obtain⟨mm,hmm⟩:=at3 l;have HA:=A_ hmm;clear hmm;obtain⟨k,s1,s2,s3,s4,t1,t2,t3,t4,one,f1,f2,f3,f4⟩:=F3.o bx rx Mx qx U ry My qy mm NX.o NY.o;have FA:=A_ (And.intro f1 (And.intro f2 (And.intro f3 f4)));clear f1 f2 f3 f4;have qX:=bw4 BX.o;have qY:=bw4 BY.o
 go_upto_region 15 with(first|(go_at_call 15;(with_reducible refine(tV.calls k bx aj ak rx au av Mx ax ay qx U az aA ry aB aC My aD aF qy s1 s2 s3 s4 one _ LX.o.a1 LX.o.a2 LX.o.a3 LX.o.a4 LX.o.a5 LX.o.a6 LY.o.a1 LY.o.a2 LY.o.a3 LY.o.a4 LY.o.a5 LY.o.a6 FA.o.1).mono ?_);rintro e bO ⟨v1,v2,v3,rfl,ha,hn,hc,hb⟩;obtain⟨aV,aW,aX,aY,aZ,a_,rfl,rfl,rfl,hl⟩:=Ln.of ha (Kd.zM (La hn)) hc;have LZ:=A_ hl;replace HB:=bs_ HB hb;replace LX:=A_ (LX.o.below hb);replace LY:=A_ (LY.o.below hb);replace BX:=bb_ BX hb;replace BY:=bb_ BY hb;clear ha hn hc hl hb)|((with_reducible refine gt_ 13 ?_);refine be_ 13 #[.int .i64 0,.slice none 0 0,.slice none 0 0,.slice none 0 0] 33 ?_;intro gZ hg cz J hb;have BZ:=A_ J;have HK:=A_ (And.intro hb (Nat.le_of_eq hg.symm));have qZ:=bw4 BZ.o;clear hb J hg))
 clear qX qY qZ
 generalize hW:(((cz.setCell ⟨gZ,0,none⟩ (.int .i64 s1)).setCell ⟨gZ,1,none⟩ (.slice aV s2.length aW)).setCell ⟨gZ,2,none⟩ (.slice aX s3.length aY)).setCell ⟨gZ,3,none⟩ (.slice aZ s4.length a_)=bP
 have hb:Below bO.heap.size bO bP:=hW▸vR HK.o.1 HK.o.2
 replace BZ:=A_ (hW▸(tF BZ.o).2.2.2:bP.heap[gZ]? =some (.cells #[.int .i64 s1,.slice aV s2.length aW,.slice aX s3.length aY,.slice aZ s4.length a_] 33 (0,0)));replace HB:=bs_ HB hb;replace LX:=A_ (LX.o.below hb);replace LY:=A_ (LY.o.below hb);replace BX:=bb_ BX hb;replace BY:=bb_ BY hb;replace LZ:=A_ (LZ.o.below hb);clear hW hb HK;have qX:=bw4 BX.o;have qY:=bw4 BY.o
 go_upto_region 16 with(first|(go_at_call 16;(with_reducible refine(nk.calls k bx aj ak rx au av Mx ax ay qx U az aA ry aB aC My aD aF qy t1 t2 t3 t4 one _ LX.o.a1 LX.o.a2 LX.o.a3 LX.o.a4 LX.o.a5 LX.o.a6 LY.o.a1 LY.o.a2 LY.o.a3 LY.o.a4 LY.o.a5 LY.o.a6 FA.o.2.1).mono ?_);rintro e bQ ⟨v1,v2,v3,rfl,ha,hn,hc,hb⟩;obtain⟨aG,aH,aI,aJ,aK,aL,rfl,rfl,rfl,hl⟩:=Ln.of ha (Kd.zM hn) hc;have LW:=A_ hl;replace HB:=bs_ HB hb;replace LX:=A_ (LX.o.below hb);replace LY:=A_ (LY.o.below hb);replace BX:=bb_ BX hb;replace BY:=bb_ BY hb;replace LZ:=A_ (LZ.o.below hb);replace BZ:=bb_ BZ hb;clear ha hn hc hl hb)|((with_reducible refine gt_ 15 ?_);refine be_ 15 #[.int .i64 0,.slice none 0 0,.slice none 0 0,.slice none 0 0] 33 ?_;intro gW hg cB J hb;have BW:=A_ J;have HK:=A_ (And.intro hb (Nat.le_of_eq hg.symm));have qW:=bw4 BW.o;clear hb J hg))
 clear qX qY qW
 generalize hW:(((cB.setCell ⟨gW,0,none⟩ (.int .i64 t1)).setCell ⟨gW,1,none⟩ (.slice aG t2.length aH)).setCell ⟨gW,2,none⟩ (.slice aI t3.length aJ)).setCell ⟨gW,3,none⟩ (.slice aK t4.length aL)=bR
 have hb:Below bQ.heap.size bQ bR:=hW▸vR HK.o.1 HK.o.2
 replace BW:=A_ (hW▸(tF BW.o).2.2.2:bR.heap[gW]? =some (.cells #[.int .i64 t1,.slice aG t2.length aH,.slice aI t3.length aJ,.slice aK t4.length aL] 33 (0,0)));replace HB:=bs_ HB hb;replace LX:=A_ (LX.o.below hb);replace LY:=A_ (LY.o.below hb);replace BX:=bb_ BX hb;replace BY:=bb_ BY hb;replace LZ:=A_ (LZ.o.below hb);replace BZ:=bb_ BZ hb;replace LW:=A_ (LW.o.below hb);clear hW hb HK
 go_upto_region 17 with(go_at_call 17;(with_reducible refine(zG.calls A0 c0 l 3 mm _ (Kd.mO HC.o HB.o) HL.o HA.o).mono ?_);rintro e bH ⟨rfl,hd⟩;have hb:=hd.below;replace HB:=bs_ HB hb;replace LX:=A_ (LX.o.below hb);replace LY:=A_ (LY.o.below hb);replace BX:=bb_ BX hb;replace BY:=bb_ BY hb;replace LZ:=A_ (LZ.o.below hb);replace BZ:=bb_ BZ hb;replace LW:=A_ (LW.o.below hb);replace BW:=bb_ BW hb;clear hd hb)
 go_cut [140] (fun ab wc=>ab=.bool false∧Aside0 (Below w.heap.size w wc))
 case first=>as_aux_lemma=>
  cases one
  ·
    try go_wp2
    have hb:=qw (Below.refl bH.heap.size bH);replace HB:=bs_ HB hb;replace LX:=A_ (LX.o.below hb);replace LY:=A_ (LY.o.below hb);replace BX:=bb_ BX hb;replace BY:=bb_ BY hb;replace LZ:=A_ (LZ.o.below hb);replace BZ:=bb_ BZ hb;replace LW:=A_ (LW.o.below hb);replace BW:=bb_ BW hb;clear hb;refine rM (n:=25) (S:=fun w'=>cA4 gX (.int .i64 bx) (.slice aj rx.length ak) (.slice au Mx.length av) (.slice ax qx.length ay) w' (cA4 gY (.int .i64 U) (.slice az ry.length aA) (.slice aB My.length aC) (.slice aD qy.length aF) w' (cA4 gZ (.int .i64 s1) (.slice aV s2.length aW) (.slice aX s3.length aY) (.slice aZ s4.length a_) w' (cB4 gW (.int .i64 t1) (.slice aG t2.length aH) (.slice aI t3.length aJ) (.slice aK t4.length aL) w')))) (ds:=[]) (mk_ 25 0) K_ rfl rfl ⟨bz0 BX.o,bz1 BX.o,bz2 BX.o,bz3 BX.o,bz0 BY.o,bz1 BY.o,bz2 BY.o,bz3 BY.o,bz0 BZ.o,bz1 BZ.o,bz2 BZ.o,bz3 BZ.o,bz0 BW.o,bz1 BW.o,bz2 BW.o,bz3 BW.o⟩ (fun aa=>?_);refine pz_ 0 116 (mk_ 25 1) ?_;refine pz_ 1 117 (mk_ 25 3) ?_;refine pz_ 2 118 (mk_ 25 7) ?_;refine pz_ 3 119 (mk_ 25 15) ?_;refine tz_ 4 120 (mk_ 25 31) aa ?_;refine tz_ 5 121 (mk_ 25 63) aa ?_
    refine oz_ 6 (mk_ 25 127) (fun K hK=>?_);refine cT_ E12 (oh.calls k s1 aV aW s2 aX aY s3 aZ a_ s4 t1 aG aH t2 aI aJ t3 aK aL t4 true _ LZ.o.a1 LZ.o.a2 LZ.o.a3 LZ.o.a4 LZ.o.a5 LZ.o.a6 LW.o.a1 LW.o.a2 LW.o.a3 LW.o.a4 LW.o.a5 LW.o.a6 FA.o.2.2.1) ?_;rintro e cK ⟨rfl,hb⟩;refine⟨_,rfl,?_⟩;replace HB:=bs_ HB hb;replace LX:=A_ (LX.o.below hb);replace LY:=A_ (LY.o.below hb);replace BX:=bb_ BX hb;replace BY:=bb_ BY hb;replace LZ:=A_ (LZ.o.below hb);replace BZ:=bb_ BZ hb;replace LW:=A_ (LW.o.below hb);replace BW:=bb_ BW hb;clear hb aa;refine hK.out _ _ ⟨bz0 BX.o,bz1 BX.o,bz2 BX.o,bz3 BX.o,bz0 BY.o,bz1 BY.o,bz2 BY.o,bz3 BY.o,bz0 BZ.o,bz1 BZ.o,bz2 BZ.o,bz3 BZ.o,bz0 BW.o,bz1 BW.o,bz2 BW.o,bz3 BW.o⟩ (fun aa=>?_);clear hK K;refine nm_ 122 ?_;refine pz_ 7 123 (mk_ 25 255) ?_;refine pz_ 8 124 (mk_ 25 511) ?_;refine pz_ 9 125 (mk_ 25 1023) ?_;refine pz_ 10 126 (mk_ 25 2047) ?_;refine pz_ 11 127 (mk_ 25 4095) ?_;refine uz_ 12 128 (mk_ 25 8191) ?_;refine uz_ 13 129 (mk_ 25 16383) ?_;refine uz_ 14 130 (mk_ 25 32767) ?_;refine uz_ 15 131 (mk_ 25 65535) ?_;refine uz_ 16 132 (mk_ 25 131071) ?_;refine uz_ 17 133 (mk_ 25 262143) ?_;refine uz_ 18 134 (mk_ 25 524287) ?_;refine uz_ 19 135 (mk_ 25 1048575) ?_;refine uz_ 20 136 (mk_ 25 2097151) ?_;refine uz_ 21 137 (mk_ 25 4194303) ?_;refine uz_ 22 138 (mk_ 25 8388607) ?_;refine pz_ 23 139 (mk_ 25 16777215) ?_;refine pz_ 24 140 (mk_ 25 33554431) ?_
    refine sZ K_ ?_;clear aa
    go_wp2
    go_meet
    case rel=>exact⟨rfl,HB⟩
  ·obtain⟨e1,e2,fe⟩:=FA.o.2.2.2 (by first|rfl|trivial)
   have FE:=A_ fe;clear fe
   try go_wp2
   have hb:=qw (Below.refl bH.heap.size bH);replace HB:=bs_ HB hb;replace LX:=A_ (LX.o.below hb);replace LY:=A_ (LY.o.below hb);replace BX:=bb_ BX hb;replace BY:=bb_ BY hb;replace LZ:=A_ (LZ.o.below hb);replace BZ:=bb_ BZ hb;replace LW:=A_ (LW.o.below hb);replace BW:=bb_ BW hb;clear hb;refine rM (n:=25) (S:=fun w'=>cA4 gX (.int .i64 bx) (.slice aj rx.length ak) (.slice au Mx.length av) (.slice ax qx.length ay) w' (cA4 gY (.int .i64 U) (.slice az ry.length aA) (.slice aB My.length aC) (.slice aD qy.length aF) w' (cA4 gZ (.int .i64 s1) (.slice aV s2.length aW) (.slice aX s3.length aY) (.slice aZ s4.length a_) w' (cB4 gW (.int .i64 t1) (.slice aG t2.length aH) (.slice aI t3.length aJ) (.slice aK t4.length aL) w')))) (ds:=[]) (mk_ 25 0) K_ rfl rfl ⟨bz0 BX.o,bz1 BX.o,bz2 BX.o,bz3 BX.o,bz0 BY.o,bz1 BY.o,bz2 BY.o,bz3 BY.o,bz0 BZ.o,bz1 BZ.o,bz2 BZ.o,bz3 BZ.o,bz0 BW.o,bz1 BW.o,bz2 BW.o,bz3 BW.o⟩ (fun aa=>?_);refine pz_ 0 116 (mk_ 25 1) ?_;refine pz_ 1 117 (mk_ 25 3) ?_;refine pz_ 2 118 (mk_ 25 7) ?_;refine pz_ 3 119 (mk_ 25 15) ?_;refine tz_ 4 120 (mk_ 25 31) aa ?_;refine tz_ 5 121 (mk_ 25 63) aa ?_
   refine oz_ 6 (mk_ 25 127) (fun K hK=>?_);refine cT_ E12 (oh.calls k s1 aV aW s2 aX aY s3 aZ a_ s4 t1 aG aH t2 aI aJ t3 aK aL t4 true _ LZ.o.a1 LZ.o.a2 LZ.o.a3 LZ.o.a4 LZ.o.a5 LZ.o.a6 LW.o.a1 LW.o.a2 LW.o.a3 LW.o.a4 LW.o.a5 LW.o.a6 FA.o.2.2.1) ?_;rintro e cK ⟨rfl,hb⟩;refine⟨_,rfl,?_⟩;replace HB:=bs_ HB hb;replace LX:=A_ (LX.o.below hb);replace LY:=A_ (LY.o.below hb);replace BX:=bb_ BX hb;replace BY:=bb_ BY hb;replace LZ:=A_ (LZ.o.below hb);replace BZ:=bb_ BZ hb;replace LW:=A_ (LW.o.below hb);replace BW:=bb_ BW hb;clear hb aa;refine hK.out _ _ ⟨bz0 BX.o,bz1 BX.o,bz2 BX.o,bz3 BX.o,bz0 BY.o,bz1 BY.o,bz2 BY.o,bz3 BY.o,bz0 BZ.o,bz1 BZ.o,bz2 BZ.o,bz3 BZ.o,bz0 BW.o,bz1 BW.o,bz2 BW.o,bz3 BW.o⟩ (fun aa=>?_);clear hK K;refine nm_ 122 ?_;refine pz_ 7 123 (mk_ 25 255) ?_;refine pz_ 8 124 (mk_ 25 511) ?_;refine pz_ 9 125 (mk_ 25 1023) ?_;refine pz_ 10 126 (mk_ 25 2047) ?_;refine pz_ 11 127 (mk_ 25 4095) ?_;refine pz_ 13 129 (mk_ 25 12287) ?_;refine pz_ 16 132 (mk_ 25 77823) ?_;refine pz_ 19 135 (mk_ 25 602111) ?_;refine tz_ 12 128 (mk_ 25 606207) aa ?_;refine tz_ 15 131 (mk_ 25 638975) aa ?_;refine tz_ 18 134 (mk_ 25 901119) aa ?_
   refine oz_ 14 (mk_ 25 917503) (fun K hK=>?_);refine cT_ E18 (qd.calls k t1 aG aH t2 aI aJ t3 aK aL t4 mm (wrap64 (e1+e2)) _ LW.o.a1 LW.o.a2 LW.o.a3 LW.o.a4 LW.o.a5 LW.o.a6 FE.o.1) ?_;rintro e dw ⟨rfl,hb⟩;refine⟨_,rfl,?_⟩;replace HB:=bs_ HB hb;replace LX:=A_ (LX.o.below hb);replace LY:=A_ (LY.o.below hb);replace BX:=bb_ BX hb;replace BY:=bb_ BY hb;replace LZ:=A_ (LZ.o.below hb);replace BZ:=bb_ BZ hb;replace LW:=A_ (LW.o.below hb);replace BW:=bb_ BW hb;clear hb aa;refine hK.out _ _ ⟨bz0 BX.o,bz1 BX.o,bz2 BX.o,bz3 BX.o,bz0 BY.o,bz1 BY.o,bz2 BY.o,bz3 BY.o,bz0 BZ.o,bz1 BZ.o,bz2 BZ.o,bz3 BZ.o,bz0 BW.o,bz1 BW.o,bz2 BW.o,bz3 BW.o⟩ (fun aa=>?_);clear hK K;refine nm_ 130 ?_
   refine oz_ 17 (mk_ 25 1048575) (fun K hK=>?_);refine cT_ E19 (mP.calls k bx aj ak rx au av Mx ax ay qx mm e1 _ LX.o.a1 LX.o.a2 LX.o.a3 LX.o.a4 LX.o.a5 LX.o.a6 FE.o.2.1) ?_;rintro e dx ⟨rfl,hb⟩;refine⟨_,rfl,?_⟩;replace HB:=bs_ HB hb;replace LX:=A_ (LX.o.below hb);replace LY:=A_ (LY.o.below hb);replace BX:=bb_ BX hb;replace BY:=bb_ BY hb;replace LZ:=A_ (LZ.o.below hb);replace BZ:=bb_ BZ hb;replace LW:=A_ (LW.o.below hb);replace BW:=bb_ BW hb;clear hb aa;refine hK.out _ _ ⟨bz0 BX.o,bz1 BX.o,bz2 BX.o,bz3 BX.o,bz0 BY.o,bz1 BY.o,bz2 BY.o,bz3 BY.o,bz0 BZ.o,bz1 BZ.o,bz2 BZ.o,bz3 BZ.o,bz0 BW.o,bz1 BW.o,bz2 BW.o,bz3 BW.o⟩ (fun aa=>?_);clear hK K;refine nm_ 133 ?_
   refine oz_ 20 (mk_ 25 2097151) (fun K hK=>?_);refine cT_ E19 (mP.calls k U az aA ry aB aC My aD aF qy mm e2 _ LY.o.a1 LY.o.a2 LY.o.a3 LY.o.a4 LY.o.a5 LY.o.a6 FE.o.2.2) ?_;rintro e dz ⟨rfl,hb⟩;refine⟨_,rfl,?_⟩;replace HB:=bs_ HB hb;replace LX:=A_ (LX.o.below hb);replace LY:=A_ (LY.o.below hb);replace BX:=bb_ BX hb;replace BY:=bb_ BY hb;replace LZ:=A_ (LZ.o.below hb);replace BZ:=bb_ BZ hb;replace LW:=A_ (LW.o.below hb);replace BW:=bb_ BW hb;clear hb aa;refine hK.out _ _ ⟨bz0 BX.o,bz1 BX.o,bz2 BX.o,bz3 BX.o,bz0 BY.o,bz1 BY.o,bz2 BY.o,bz3 BY.o,bz0 BZ.o,bz1 BZ.o,bz2 BZ.o,bz3 BZ.o,bz0 BW.o,bz1 BW.o,bz2 BW.o,bz3 BW.o⟩ (fun aa=>?_);clear hK K;refine nm_ 136 ?_;refine pz_ 21 137 (mk_ 25 4194303) ?_;refine pz_ 22 138 (mk_ 25 8388607) ?_;refine pz_ 23 139 (mk_ 25 16777215) ?_;refine pz_ 24 140 (mk_ 25 33554431) ?_
   refine sZ K_ ?_;clear aa
   go_wp2
   go_meet
   case rel=>exact⟨rfl,HB⟩
 case rest=>
 clear HB FA LX LY LZ LW BX BY BZ BW NX NY HA;obtain⟨rfl,HB⟩:=hcut
 go_upto_region 20 with(first|(go_at_call 20;(with_reducible refine(Ag.dr A0 c0 l _ (Kd.mO HC.o HB.o) HL.o (by have:=HG.o;omega)).mono ?_);rintro e bS ⟨v1,v2,bp,q,bb,n,rfl,hs,hb,hx⟩;obtain⟨aM,aN,Np,aO,cp2,Op,rfl,rfl,hs',hn⟩:=hs.sq hx;have HP:=A_ hs';clear hs';have HN:=A_ hn;replace HB:=bs_ HB hb;clear hs hn hx hb)|((with_reducible refine gt_ 18 ?_);refine be_ 18 #[.int .i64 0,.slice none 0 0,.slice none 0 0] 27 ?_;intro gP hg cO J hb;have BP:=A_ J;have HK:=A_ (And.intro hb (Nat.le_of_eq hg.symm));have qP:=bw3 BP.o;clear hb J hg))
 clear qP
 generalize hW:((cO.setCell ⟨gP,0,none⟩ (.int .i64 bp)).setCell ⟨gP,1,none⟩ (.slice aM Np.length aN)).setCell ⟨gP,2,none⟩ (.slice aO Op.length cp2)=bT
 have hb:Below bS.heap.size bS bT:=hW▸Ew HK.o.1 HK.o.2
 replace BP:=A_ (hW▸(uN BP.o).2.2:bT.heap[gP]? =some (.cells #[.int .i64 bp,.slice aM Np.length aN,.slice aO Op.length cp2] 27 (0,0)));replace HB:=bs_ HB hb;replace HP:=A_ (HP.o.below hb);clear hW hb HK;obtain⟨k,s,f1,f2,f3⟩:=F4.o bp Np Op q HN.o;have FA:=A_ (And.intro f1 (And.intro f2 f3));clear f1 f2 f3;have qP:=bw3 BP.o
 go_upto_region 21 with(go_at_call 21;(with_reducible refine(qc.calls k bp aM aN Np aO cp2 Op q s _ HP.o.a1 HP.o.a2 HP.o.a3 HP.o.a4 FA.o.1).mono ?_);rintro e dA ⟨rfl,hb⟩;replace HB:=bs_ HB hb;replace BP:=bb_ BP hb;replace HP:=A_ (HP.o.below hb);clear qP;have qP:=bw3 BP.o;clear hb)
 go_upto_region 23 with(go_at_call 22;(with_reducible refine(qg.calls k bp aM aN Np aO cp2 Op q s _ HP.o.a1 HP.o.a2 HP.o.a3 HP.o.a4 FA.o.2.1).mono ?_);rintro e cZ ⟨rfl,hb⟩;replace HB:=bs_ HB hb;replace BP:=bb_ BP hb;replace HP:=A_ (HP.o.below hb);clear qP;clear hb)
 go_cut [159] (fun ae wc=>∃x:Bool,ae=.bool x∧(x=true→0≤s∧q≤200)∧wc=cZ)
 case first=>as_aux_lemma=>
  by_cases z0:0≤s
  ·have d0:decide (0≤s)=true:=decide_eq_true z0
   by_cases z1:q≤200
   ·have d1:decide (q≤200)=true:=decide_eq_true z1
    go_wp2
    go_meet
    case rel=>exact⟨true,rfl,fun _=>⟨z0,z1⟩,rfl⟩
   ·have d1:decide (q≤200)=false:=decide_eq_false z1
    go_wp2
    go_meet
    case rel=>exact⟨false,rfl,fun h=>(by cases h),rfl⟩
  ·have d0:decide (0≤s)=false:=decide_eq_false z0
   go_wp2
   go_meet
   case rel=>exact⟨false,rfl,fun h=>(by cases h),rfl⟩
 case rest=>
 obtain⟨x,rfl,hx,rfl⟩:=hcut;have HX:=A_ hx;clear hx
 go_upto_if 159 with fail
 go_cut [] (fun wc=>Aside0 (Below w.heap.size w wc))
 case first=>as_aux_lemma=>
  cases x
  ·go_wp2
   go_meet
   case rel=>exact HB
  ·obtain⟨n,ac,rfl,a0,a1,a2⟩:=FA.o.2.2 (HX.o rfl).1 (HX.o rfl).2
   have HA:=A_ (And.intro a0 (And.intro a1 a2));have df:=A_ (HX.o rfl).2;clear a0 a1 a2
   go_wp2
   go_loopg [21,22] (n+1) (fun kq af ag W=>∃i:Nat,af=.int .i64 (ac i)∧ag=.int .i64 (i:Int)∧i≤n∧n+1 - i≤kq∧Aside0 (Below w.heap.size w W)∧Aside0 (W.heap[gP]? =some (.cells #[.int .i64 bp,.slice aM Np.length aN,.slice aO Op.length cp2] 27 (0,0)))∧Aside0 (Sq W aM aN Np aO cp2 Op))
   case atStart=>exact⟨0,by rw[HA.o.1],rfl,om,om,HB,BP,HP⟩
   case round=>
    clear HB BP HP;obtain⟨i,rfl,rfl,hi,hk,HB,BP,HP⟩:=hrel;have HI:=A_ (And.intro hi hk);clear hi hk
    by_cases hlt:i<n
    ·have cn:decide ((i:Int)<(n:Int))=true:=decide_eq_true om
     have hw:wrap64 ((i:Int)+1)=((i+1:Nat):Int):=by have:=df.o;unfold wrap64;omega
     obtain⟨u,hu,hv⟩:=HA.o.2.2 i hlt;have HU:=A_ hu;have HV:=A_ hv;clear hu hv;have qP:=bw3 BP.o
     go_wp2_with (go_at_call 23;(with_reducible refine(o9.calls k bp aM aN Np aO cp2 Op i u _ HP.o.a1 HP.o.a2 HP.o.a3 HP.o.a4 HU.o).mono ?_);rintro e dB ⟨rfl,hb⟩;replace HB:=bs_ HB hb;replace BP:=bb_ BP hb;replace HP:=A_ (HP.o.below hb);clear qP;clear hb)
     go_roundg (n+1 - (i+1))
     case measure=>have:=HI.o;omega
     case rel=>exact⟨i+1,by rw[←HV.o],by first|rfl|rw[hw],om,Nat.le_refl _,HB,BP,HP⟩
    ·have cn:decide ((i:Int)<(n:Int))=false:=decide_eq_false om
     obtain rfl:i=n:=by have:=HI.o;omega
     have ea:=HA.o.2.1
     go_wp2
     go_meet
     case rel=>exact HB
 case rest=>
 clear HB BP HP FA HX HN;have HB:=hcut;clear hcut
 go_upto_region 32 with(first|(go_at_call 24;(with_reducible refine(yH.dr bK.o A0 c0 l _ (Kd.mO HC.o HB.o) HL.o (by have:=HG.o;omega)).mono ?_);rintro e bU ⟨v1,v2,v3,bl,j,rfl,hx,hb⟩;obtain⟨aP,aQ,rl,aR,aS,Ml,aT,aU,ql,rfl,rfl,rfl,hl,hn⟩:=hx.ln;have LL:=A_ hl;have NX:=A_ hn;clear hl hn hx;replace HB:=bs_ HB hb;clear hb)|((with_reducible refine gt_ 23 ?_);refine be_ 23 #[.int .i64 0,.slice none 0 0,.slice none 0 0,.slice none 0 0] 33 ?_;intro gL hg dh J hb;have BL:=A_ J;have HK:=A_ (And.intro hb (Nat.le_of_eq hg.symm));have qL:=bw4 BL.o;clear hb J hg))
 clear qL
 generalize hW:(((dh.setCell ⟨gL,0,none⟩ (.int .i64 bl)).setCell ⟨gL,1,none⟩ (.slice aP rl.length aQ)).setCell ⟨gL,2,none⟩ (.slice aR Ml.length aS)).setCell ⟨gL,3,none⟩ (.slice aT ql.length aU)=bI
 have hb:Below bU.heap.size bU bI:=hW▸vR HK.o.1 HK.o.2
 replace BL:=A_ (hW▸(tF BL.o).2.2.2:bI.heap[gL]? =some (.cells #[.int .i64 bl,.slice aP rl.length aQ,.slice aR Ml.length aS,.slice aT ql.length aU] 33 (0,0)));replace HB:=bs_ HB hb;replace LL:=A_ (LL.o.below hb);clear hW hb HK;obtain⟨k,e0,t,f1,f2,f3,f4⟩:=F5.o bl rl Ml ql j NX.o;have FA:=A_ (And.intro f1 (And.intro f2 (And.intro f3 f4)));clear f1 f2 f3 f4
 try go_wp2
 have hb:=qw (Below.refl bI.heap.size bI);replace HB:=bs_ HB hb;replace LL:=A_ (LL.o.below hb);replace BL:=bb_ BL hb;clear hb;refine rM (n:=15) (S:=fun w'=>cB4 gL (.int .i64 bl) (.slice aP rl.length aQ) (.slice aR Ml.length aS) (.slice aT ql.length aU) w') (ds:=[]) (mk_ 15 0) K_ rfl rfl (bc4 BL) (fun aa=>?_);refine pz_ 1 179 (mk_ 15 2) ?_;refine pz_ 4 182 (mk_ 15 18) ?_;refine tz_ 0 178 (mk_ 15 19) aa ?_;refine tz_ 3 181 (mk_ 15 27) aa ?_
 refine oz_ 2 (mk_ 15 31) (fun K hK=>?_);refine cT_ E18 (qd.calls k bl aP aQ rl aR aS Ml aT aU ql j e0 _ LL.o.a1 LL.o.a2 LL.o.a3 LL.o.a4 LL.o.a5 LL.o.a6 FA.o.1) ?_;rintro e dC ⟨rfl,hb⟩;refine⟨_,rfl,?_⟩;replace HB:=bs_ HB hb;replace LL:=A_ (LL.o.below hb);replace BL:=bb_ BL hb;clear hb aa;refine hK.out _ _ (bc4 BL) (fun aa=>?_);clear hK K;refine nm_ 180 ?_
 refine oz_ 5 (mk_ 15 63) (fun K hK=>?_);refine cT_ E19 (mP.calls k bl aP aQ rl aR aS Ml aT aU ql j e0 _ LL.o.a1 LL.o.a2 LL.o.a3 LL.o.a4 LL.o.a5 LL.o.a6 FA.o.2.1) ?_;rintro e dD ⟨rfl,hb⟩;refine⟨_,rfl,?_⟩;replace HB:=bs_ HB hb;replace LL:=A_ (LL.o.below hb);replace BL:=bb_ BL hb;clear hb aa;refine hK.out _ _ (bc4 BL) (fun aa=>?_);clear hK K;refine nm_ 183 ?_;refine pz_ 6 184 (mk_ 15 127) ?_;refine pz_ 7 185 (mk_ 15 255) ?_;refine tz_ 8 186 (mk_ 15 511) aa ?_;refine tz_ 10 188 (mk_ 15 1535) aa ?_
 refine oz_ 9 (mk_ 15 2047) (fun K hK=>?_);refine cT_ E13 (nz.calls k bl aP aQ rl aR aS Ml aT aU ql t _ LL.o.a1 LL.o.a2 LL.o.a3 LL.o.a4 LL.o.a5 LL.o.a6 FA.o.2.2.1) ?_;rintro e dE ⟨rfl,hb⟩;refine⟨_,rfl,?_⟩;replace HB:=bs_ HB hb;replace LL:=A_ (LL.o.below hb);replace BL:=bb_ BL hb;clear hb aa;refine hK.out _ _ (bc4 BL) (fun aa=>?_);clear hK K;refine nm_ 187 ?_
 refine oz_ 11 (mk_ 15 4095) (fun K hK=>?_);refine cT_ E25 (mZ.calls k bl aP aQ rl aR aS Ml aT aU ql t _ LL.o.a1 LL.o.a2 LL.o.a3 LL.o.a4 LL.o.a5 LL.o.a6 FA.o.2.2.2) ?_;rintro e dF ⟨rfl,hb⟩;refine⟨_,rfl,?_⟩;replace HB:=bs_ HB hb;replace LL:=A_ (LL.o.below hb);replace BL:=bb_ BL hb;clear hb aa;refine hK.out _ _ (bc4 BL) (fun aa=>?_);clear hK K;refine nm_ 189 ?_;refine pz_ 12 190 (mk_ 15 8191) ?_;refine pz_ 13 191 (mk_ 15 16383) ?_;refine pz_ 14 2 (mk_ 15 32767) ?_
 refine sZ K_ ?_;clear aa
 go_wp2
 refine bodyPost_ret (results_tmp rfl _ _ _) rfl ?_;exact⟨sp,HB.o⟩
end Go.Proofs.Ytiingconapodpaa.PFnLinear
