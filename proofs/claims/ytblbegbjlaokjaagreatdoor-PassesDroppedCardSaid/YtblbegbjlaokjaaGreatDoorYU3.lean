/- The lemmas of the proof, part YO3: how the program and its data lie in memory, and what its functions do. -/
import Derived.Test.YtblbegbjlaokjaaGreatDoorYU2
import Derived.Test.YtblbegbjlaokjaaGreatDoorProg
import Derived.RangeFuncCalls
import Derived.OrdersIn
import Derived.WideKeyEntry
set_option linter.unusedSimpArgs false
set_option linter.unusedVariables false
set_option linter.unusedSectionVars false

set_option maxRecDepth 100000
set_option maxHeartbeats 8000000
namespace Go.Proofs.YtblbegbjlaokjaaGreatDoor
open Go.ChangeMaps (setBlock)
section
open Go.RowKit
attribute [local go_sem] aJ aC aO aL aQ aI aP Value.cells
def Fz (w:We) (a:Wb):Prop:=∀p o,a=some ⟨p,o,none⟩→∃C U,w.heap[p]? =some (.cells C U (0,0))
section
variable {α:Type} {P:Wl} {T E:Wh} {f:α→Wa} {n B:Nat}
theorem vQ (hT:oM P T E f n B) {g o cap len:Nat} (hk:len≤cap) (w:We):
  (Instr.sliceAt T (.slice (some ⟨g,o,none⟩) len cap) none (some (.int .i64 (len:Int))) (some (.int .i64 (len:Int)))).run P w= .ok (.slice (some ⟨g,o,none⟩) len len) w:=by
 obtain⟨i0,z,hi,hz,bj,bp,yj⟩:=hT.info;have ib:(⟨g,o,none⟩:Addr).add (0*n)=⟨g,o,none⟩:=by
  unfold Addr.add;rw[aWy,if_pos rfl]
 have hp:(0:Int)≤(len:Int)∧(len:Int)≤(cap:Int):=⟨by omega,by omega⟩;have ce:(0:Int)≤(len:Int)∧(len:Int)≤(len:Int):=⟨by omega,by omega⟩;simp only[Instr.sliceAt,Instr.slice,Instr.sliceBounds,Instr.sliceBound,asIntOf,sizeOf,typeInfo,run_underlying hT.u,hi,Sem.run_bind,Sem.run_pure,Result.andThen_ok];rw[if_pos hp];simp only[Sem.run_pure,Result.andThen_ok,Go.program,Sem.run,hi,bj,aYj,aWm,ib,Nat.sub_zero,ite_self,ce,and_self,if_true]
theorem rL (hT:oM P T E f n B) (w:We):
  (Instr.sliceAt T (.slice none 0 0) none (some (.int .i64 0)) (some (.int .i64 0))).run P w= .ok (.slice none 0 0) w:=by
 obtain⟨i0,z,hi,hz,bj,bp,yj⟩:=hT.info;simp only[Instr.sliceAt,Instr.slice,Instr.sliceBounds,Instr.sliceBound,asIntOf,sizeOf,typeInfo,run_underlying hT.u,hi,Sem.run_bind,Sem.run_pure,Result.andThen_ok];rw[if_pos ⟨by omega,by omega⟩];simp[Sem.run_pure,Result.andThen_ok,Go.program,Sem.run,hi,bj]
theorem fV (hT:oM P T E f n B) {w:We} {base:Nat} {v:Wg} {l:List α} (h:aE f n E w base v l):
  ∃a c,v= .slice a l.length c∧(∀w2,(Instr.sliceAt T v none (some (.int .i64 (l.length:Int))) (some (.int .i64 (l.length:Int)))).run P w2= .ok (.slice a l.length l.length) w2)∧aS f n w a l∧(∀x,a=some x→base≤x.block∧v.ownBlock=some x.block)∧Fz w a:=by
 obtain⟨a,c,h1,h2,h3,h4⟩:=h.at hT;rcases h.2 with⟨rfl,hn⟩|⟨g,cap,cur,rfl,hb,hg,se,tv,fz,br⟩
 ·obtain rfl:l=[]:=aYn hn;injection h1 with e1 e2 e3
  subst e1;exact⟨none,0,rfl,fun w2=>rL hT w2,h2,fun x hx=>⟨(h3 x hx).1,(h3 x hx).2.2⟩,fun p o e=>by cases e⟩
 ·injection h1 with e1 e2 e3
  subst e1;exact⟨_,cap,rfl,fun w2=>vQ hT se w2,h2,fun x hx=>⟨(h3 x hx).1,(h3 x hx).2.2⟩,fun p o e=>by cases e;exact⟨_,_,hg⟩⟩
end
section
variable {α:Type} {P:Wl} {T E:Wh} {f:α→Wa} {n B:Nat}
def aZ (f:α→Wa) (n:Nat) (E:Wh) (base:Nat) (w:We) (v:Wg) (l:List α):Prop:=
 (v= .slice none 0 0∧l=[])∨∃g cur,v= .slice (some ⟨g,0,none⟩) l.length l.length∧base≤g∧w.heap[g]? =some (.cells cur E (0,0))∧∀(i:Nat) x,l[i]? =some x→cur.extract (i*n) (i*n+n)=f x∧i*n+n≤cur.size
theorem aZ.at {base:Nat} {w:We} {v:Wg} {l:List α} (h:aZ f n E base w v l):∃a,v= .slice a l.length l.length∧aS f n w a l∧∀g o,a=some ⟨g,o,none⟩→base≤g∧g<w.heap.size:=by
 rcases h with⟨rfl,rfl⟩|⟨g,cur,rfl,hb,hg,hc⟩
 ·exact⟨none,rfl,.inl rfl,fun g o e=>by cases e⟩
 ·exact⟨_,rfl,.inr ⟨g,0,cur,_,_,rfl,hg,fun i x hx=>by simpa using hc i x hx⟩,fun g' o e=>by cases e;exact⟨hb,aA hg⟩⟩
theorem aZ.mod {base:Nat} {w w':We} {v:Wg} {l:List α} {S:Nat→Prop} (h:aZ f n E base w v l) (hm:Mod S w w') (hS:∀g,v.ownBlock=some g→¬S g):aZ f n E base w' v l:=by
 rcases h with h|⟨g,cur,rfl,hb,hg,hc⟩
 ·exact .inl h
 ·exact .inr ⟨g,cur,rfl,hb,hm.at hg (hS g rfl),hc⟩
theorem aZ.mod0 {base:Nat} {w w':We} {v:Wg} {l:List α} (h:aZ f n E base w v l) (hm:Mod (fun _=>False) w w'):aZ f n E base w' v l:=h.mod hm (fun _ _ h=>h)
theorem aZ.base {b b':Nat} {w:We} {v:Wg} {l:List α} (h:aZ f n E b w v l) (hb:b'≤b):aZ f n E b' w v l:=by
 rcases h with h|⟨g,cur,e,h1,h2⟩
 ·exact .inl h
 ·exact .inr ⟨g,cur,e,aYb hb h1,h2⟩
theorem aZ.lt {base:Nat} {w:We} {v:Wg} {l:List α} (h:aZ f n E base w v l):∀g,v.ownBlock=some g→base≤g∧g<w.heap.size:=by
 intro g hg;rcases h with⟨rfl,_⟩|⟨g',cur,rfl,h1,h2,_⟩
 ·cases hg
 ·cases hg;exact⟨h1,aA h2⟩
theorem mM {w:We} {base q:Nat} (hb:base≤q) (hg:w.heap[q]? =some (.cells #[] E (0,0))):aE f n E w base (.slice (some ⟨q,0,none⟩) 0 0) ([]:List α):=
 ⟨by simp[cellsOf],.inr ⟨q,0,#[],rfl,hb,hg,aZq _,by simp[maxLen],by simp,by simp[cellsOf]⟩⟩
theorem aE.clip (hT:oM P T E f n B) {w:We} {base:Nat} {v:Wg} {l:List α} (h:aE f n E w base v l):
  ∃a c v2,v= .slice a l.length c∧(∀w2,(Instr.sliceAt T v none (some (.int .i64 (l.length:Int))) (some (.int .i64 (l.length:Int)))).run P w2= .ok v2 w2)∧aZ f n E base w v2 l:=by
 rcases h.2 with⟨rfl,hn⟩|⟨g,cap,cur,rfl,hb,hg,se,tv,fz,br⟩
 ·obtain rfl:l=[]:=aYn hn;exact⟨none,0,_,rfl,fun w2=>rL hT w2,.inl ⟨rfl,rfl⟩⟩
 ·refine⟨_,cap,_,rfl,fun w2=>vQ hT se w2,.inr ⟨g,cur,rfl,hb,hg,fun i x hx=> ?_⟩⟩;obtain⟨a,c,e,hat,_⟩:=h.at hT;injection e with e1 _ _
  subst e1;obtain⟨b,o,C,U,fr,e2,cq,he,dh⟩:=hat.block hx;cases e2;rw[hg]at cq;cases cq;simpa using Ai he dh
end
theorem XV (w:We):(Instr.buildSlice 29 0 #[]).run Tryz.prog w= .ok (.slice (some ⟨w.heap.size,0,none⟩) 0 0) (w.alloc (.cells #[] 5)):=by kernel_rfl
theorem QA (w:We) (a:Wb) (n c:Nat):(binOp .eql 29 (.slice a n c) (.slice none 0 0)).run Tryz.prog w= .ok (.bool a.isNone) w:=by
 cases a<;>kernel_rfl
theorem GJ {w:We} {a:Wb} {l:List Wk} {c:Nat} (hl:aS uc 1 w a l) (ag:l.length≤1000000):Calls Tryz.prog 123 #[.slice a l.length c] w fun e w'=>∃v,e= .returned v∧aE uc 1 5 w' w.heap.size v l∧Mod (fun _=>False) w w':=by
 have he:=QA;cases a with
 |none=>
  obtain rfl:l=[]:=by
   rcases hl with h|⟨_,_,_,_,_,h,_⟩
   ·exact h
   ·cases h
  go_enter Tryz.func123,Tryz.ntmps123;go_wp2_with fail;go_ret;exact⟨_,rfl,aE.nil _ _,Mod.refl _ _⟩
 |some p=>
  have HL:=Hi hl;have ep:=XV;generalize bw:l.length=ll at *;have cr:=Hi bw;clear hl bw;go_enter Tryz.func123,Tryz.ntmps123;go_upto_region 3 with fail;refine ZP0 [3,0,5,0] ?_;refine Zy ep fun p5 ip=> ?_;refine Zv ?_;refine Zi fun w1 hr=> ?_;obtain⟨gp5,kp5⟩:=hr.b p5;have m1:=hr.mod;clear hr;obtain⟨v3,w6,az,im,m6,ju⟩:=aE.append GF (c:=c) (mM (f:=uc) (n:=1) gp5 kp5) (HL.out.mod0 m1) (by simp;have:=cr.out;omega) (by decide) m1.size 29;have mF:Mod (fun _=>False) w w6:=m1.then m6 (fun i hi e=>by
   have e2:p5=i:=aZz e;omega)
  rw[cr.out]at az;have HO:=Hi im;clear ju m6 im;refine ZA az ?_;refine Ze ?_;refine TE.nil ?_;go_wp2_with fail;go_ret;exact⟨_,rfl,HO.out,mF⟩
theorem clipB_c (v2:Wg) (w:We) (n:Nat) {a:Wb} {c:Nat} (h:∀w2,(Instr.sliceAt 29 (.slice a n c) none (some (.int .i64 (n:Int))) (some (.int .i64 (n:Int)))).run Tryz.prog w2= .ok v2 w2):
  Calls Tryz.prog 122 #[.slice a n c] w fun e w'=>e= .returned v2∧w'=w:=by
 go_enter Tryz.func122,Tryz.ntmps122;go_wp2_with fail;go_ret;exact⟨rfl,rfl⟩
theorem rG {w:We} {a:Wb} {l:List Wk} {c:Nat} (hl:aS uc 1 w a l) (ag:l.length≤1000000):Calls Tryz.prog 81 #[.slice a l.length c] w fun e w'=>∃v,e= .returned v∧aZ uc 1 5 w.heap.size w' v l∧Mod (fun _=>False) w w':=by
 have HC:=Hi (fun(_:True)=>GJ (c:=c) hl ag);generalize bw:l.length=ll at *;have cr:=Hi bw;clear hl ag bw;go_enter Tryz.func81,Tryz.ntmps81;go_wp2_with fail;go_at_call 123;refine(HC.out trivial).mono ?_;rintro e w1 ⟨v,rfl,hO,m1⟩;obtain⟨a2,c2,v2,rfl,dg,hN⟩:=hO.clip GF;have HN:=Hi hN;rw[cr.out]at dg;have ui:=Hi dg;rw[cr.out];clear hO hN dg;go_wp2_with fail;go_at_call 122;refine(clipB_c v2 _ ll ui.out).mono ?_;rintro e w2 ⟨rfl,rfl⟩;go_wp2_with fail;go_ret;exact⟨_,rfl,HN.out,m1⟩
theorem XZ (w:We):(Instr.buildSlice 42 0 #[]).run Tryz.prog w= .ok (.slice (some ⟨w.heap.size,0,none⟩) 0 0) (w.alloc (.cells #[] 178)):=by kernel_rfl
theorem QF (w:We) (a:Wb) (n c:Nat):(binOp .eql 42 (.slice a n c) (.slice none 0 0)).run Tryz.prog w= .ok (.bool a.isNone) w:=by
 cases a<;>kernel_rfl
theorem GO {w:We} {a:Wb} {l:List aT} {c:Nat} (hl:aS rcr 34 w a l) (ag:l.length≤1000000):Calls Tryz.prog 125 #[.slice a l.length c] w fun e w'=>∃v,e= .returned v∧aE rcr 34 178 w' w.heap.size v l∧Mod (fun _=>False) w w':=by
 have he:=QF;cases a with
 |none=>
  obtain rfl:l=[]:=by
   rcases hl with h|⟨_,_,_,_,_,h,_⟩
   ·exact h
   ·cases h
  go_enter Tryz.func125,Tryz.ntmps125;go_wp2_with fail;go_ret;exact⟨_,rfl,aE.nil _ _,Mod.refl _ _⟩
 |some p=>
  have HL:=Hi hl;have ep:=XZ;generalize bw:l.length=ll at *;have cr:=Hi bw;clear hl bw;go_enter Tryz.func125,Tryz.ntmps125;go_upto_region 3 with fail;refine ZP0 [3,0,5,0] ?_;refine Zy ep fun p5 ip=> ?_;refine Zv ?_;refine Zi fun w1 hr=> ?_;obtain⟨gp5,kp5⟩:=hr.b p5;have m1:=hr.mod;clear hr;obtain⟨v3,w6,az,im,m6,ju⟩:=aE.append J4 (c:=c) (mM (f:=rcr) (n:=34) gp5 kp5) (HL.out.mod0 m1) (by simp;have:=cr.out;omega) (by decide) m1.size 42;have mF:Mod (fun _=>False) w w6:=m1.then m6 (fun i hi e=>by
   have e2:p5=i:=aZz e;omega)
  rw[cr.out]at az;have HO:=Hi im;clear ju m6 im;refine ZA az ?_;refine Ze ?_;refine TE.nil ?_;go_wp2_with fail;go_ret;exact⟨_,rfl,HO.out,mF⟩
theorem clipR_c (v2:Wg) (w:We) (n:Nat) {a:Wb} {c:Nat} (h:∀w2,(Instr.sliceAt 42 (.slice a n c) none (some (.int .i64 (n:Int))) (some (.int .i64 (n:Int)))).run Tryz.prog w2= .ok v2 w2):
  Calls Tryz.prog 124 #[.slice a n c] w fun e w'=>e= .returned v2∧w'=w:=by
 go_enter Tryz.func124,Tryz.ntmps124;go_wp2_with fail;go_ret;exact⟨rfl,rfl⟩
theorem RO {w:We} {a:Wb} {l:List aT} {c:Nat} (hl:aS rcr 34 w a l) (ag:l.length≤1000000):Calls Tryz.prog 82 #[.slice a l.length c] w fun e w'=>∃v,e= .returned v∧aZ rcr 34 178 w.heap.size w' v l∧Mod (fun _=>False) w w':=by
 have HC:=Hi (fun(_:True)=>GO (c:=c) hl ag);generalize bw:l.length=ll at *;have cr:=Hi bw;clear hl ag bw;go_enter Tryz.func82,Tryz.ntmps82;go_wp2_with fail;go_at_call 125;refine(HC.out trivial).mono ?_;rintro e w1 ⟨v,rfl,hO,m1⟩;obtain⟨a2,c2,v2,rfl,dg,hN⟩:=hO.clip J4;have HN:=Hi hN;rw[cr.out]at dg;have ui:=Hi dg;rw[cr.out];clear hO hN dg;go_wp2_with fail;go_at_call 124;refine(clipR_c v2 _ ll ui.out).mono ?_;rintro e w2 ⟨rfl,rfl⟩;go_wp2_with fail;go_ret;exact⟨_,rfl,HN.out,m1⟩
theorem X0 (w:We):(Instr.buildSlice 30 0 #[]).run Tryz.prog w= .ok (.slice (some ⟨w.heap.size,0,none⟩) 0 0) (w.alloc (.cells #[] 92)):=by kernel_rfl
theorem QG (w:We) (a:Wb) (n c:Nat):(binOp .eql 30 (.slice a n c) (.slice none 0 0)).run Tryz.prog w= .ok (.bool a.isNone) w:=by
 cases a<;>kernel_rfl
theorem GP {w:We} {a:Wb} {l:List Sg} {c:Nat} (hl:aS sgc 64 w a l) (ag:l.length≤1000000):Calls Tryz.prog 127 #[.slice a l.length c] w fun e w'=>∃v,e= .returned v∧aE sgc 64 92 w' w.heap.size v l∧Mod (fun _=>False) w w':=by
 have he:=QG;cases a with
 |none=>
  obtain rfl:l=[]:=by
   rcases hl with h|⟨_,_,_,_,_,h,_⟩
   ·exact h
   ·cases h
  go_enter Tryz.func127,Tryz.ntmps127;go_wp2_with fail;go_ret;exact⟨_,rfl,aE.nil _ _,Mod.refl _ _⟩
 |some p=>
  have HL:=Hi hl;have ep:=X0;generalize bw:l.length=ll at *;have cr:=Hi bw;clear hl bw;go_enter Tryz.func127,Tryz.ntmps127;go_upto_region 3 with fail;refine ZP0 [3,0,5,0] ?_;refine Zy ep fun p5 ip=> ?_;refine Zv ?_;refine Zi fun w1 hr=> ?_;obtain⟨gp5,kp5⟩:=hr.b p5;have m1:=hr.mod;clear hr;obtain⟨v3,w6,az,im,m6,ju⟩:=aE.append YS (c:=c) (mM (f:=sgc) (n:=64) gp5 kp5) (HL.out.mod0 m1) (by simp;have:=cr.out;omega) (by decide) m1.size 30;have mF:Mod (fun _=>False) w w6:=m1.then m6 (fun i hi e=>by
   have e2:p5=i:=aZz e;omega)
  rw[cr.out]at az;have HO:=Hi im;clear ju m6 im;refine ZA az ?_;refine Ze ?_;refine TE.nil ?_;go_wp2_with fail;go_ret;exact⟨_,rfl,HO.out,mF⟩
theorem clipS_c (v2:Wg) (w:We) (n:Nat) {a:Wb} {c:Nat} (h:∀w2,(Instr.sliceAt 30 (.slice a n c) none (some (.int .i64 (n:Int))) (some (.int .i64 (n:Int)))).run Tryz.prog w2= .ok v2 w2):
  Calls Tryz.prog 126 #[.slice a n c] w fun e w'=>e= .returned v2∧w'=w:=by
 go_enter Tryz.func126,Tryz.ntmps126;go_wp2_with fail;go_ret;exact⟨rfl,rfl⟩
theorem RP {w:We} {a:Wb} {l:List Sg} {c:Nat} (hl:aS sgc 64 w a l) (ag:l.length≤1000000):Calls Tryz.prog 83 #[.slice a l.length c] w fun e w'=>∃v,e= .returned v∧aZ sgc 64 92 w.heap.size w' v l∧Mod (fun _=>False) w w':=by
 have HC:=Hi (fun(_:True)=>GP (c:=c) hl ag);generalize bw:l.length=ll at *;have cr:=Hi bw;clear hl ag bw;go_enter Tryz.func83,Tryz.ntmps83;go_wp2_with fail;go_at_call 127;refine(HC.out trivial).mono ?_;rintro e w1 ⟨v,rfl,hO,m1⟩;obtain⟨a2,c2,v2,rfl,dg,hN⟩:=hO.clip YS;have HN:=Hi hN;rw[cr.out]at dg;have ui:=Hi dg;rw[cr.out];clear hO hN dg;go_wp2_with fail;go_at_call 126;refine(clipS_c v2 _ ll ui.out).mono ?_;rintro e w2 ⟨rfl,rfl⟩;go_wp2_with fail;go_ret;exact⟨_,rfl,HN.out,m1⟩
theorem XX (w:We):(Instr.buildSlice 33 0 #[]).run Tryz.prog w= .ok (.slice (some ⟨w.heap.size,0,none⟩) 0 0) (w.alloc (.cells #[] 107)):=by kernel_rfl
theorem QD (w:We) (a:Wb) (n c:Nat):(binOp .eql 33 (.slice a n c) (.slice none 0 0)).run Tryz.prog w= .ok (.bool a.isNone) w:=by
 cases a<;>kernel_rfl
theorem GM {w:We} {a:Wb} {l:List aN} {c:Nat} (hl:aS kc 32 w a l) (ag:l.length≤1000000):Calls Tryz.prog 129 #[.slice a l.length c] w fun e w'=>∃v,e= .returned v∧aE kc 32 107 w' w.heap.size v l∧Mod (fun _=>False) w w':=by
 have he:=QD;cases a with
 |none=>
  obtain rfl:l=[]:=by
   rcases hl with h|⟨_,_,_,_,_,h,_⟩
   ·exact h
   ·cases h
  go_enter Tryz.func129,Tryz.ntmps129;go_wp2_with fail;go_ret;exact⟨_,rfl,aE.nil _ _,Mod.refl _ _⟩
 |some p=>
  have HL:=Hi hl;have ep:=XX;generalize bw:l.length=ll at *;have cr:=Hi bw;clear hl bw;go_enter Tryz.func129,Tryz.ntmps129;go_upto_region 3 with fail;refine ZP0 [3,0,5,0] ?_;refine Zy ep fun p5 ip=> ?_;refine Zv ?_;refine Zi fun w1 hr=> ?_;obtain⟨gp5,kp5⟩:=hr.b p5;have m1:=hr.mod;clear hr;obtain⟨v3,w6,az,im,m6,ju⟩:=aE.append OR (c:=c) (mM (f:=kc) (n:=32) gp5 kp5) (HL.out.mod0 m1) (by simp;have:=cr.out;omega) (by decide) m1.size 33;have mF:Mod (fun _=>False) w w6:=m1.then m6 (fun i hi e=>by
   have e2:p5=i:=aZz e;omega)
  rw[cr.out]at az;have HO:=Hi im;clear ju m6 im;refine ZA az ?_;refine Ze ?_;refine TE.nil ?_;go_wp2_with fail;go_ret;exact⟨_,rfl,HO.out,mF⟩
theorem clipK_c (v2:Wg) (w:We) (n:Nat) {a:Wb} {c:Nat} (h:∀w2,(Instr.sliceAt 33 (.slice a n c) none (some (.int .i64 (n:Int))) (some (.int .i64 (n:Int)))).run Tryz.prog w2= .ok v2 w2):
  Calls Tryz.prog 128 #[.slice a n c] w fun e w'=>e= .returned v2∧w'=w:=by
 go_enter Tryz.func128,Tryz.ntmps128;go_wp2_with fail;go_ret;exact⟨rfl,rfl⟩
theorem RM {w:We} {a:Wb} {l:List aN} {c:Nat} (hl:aS kc 32 w a l) (ag:l.length≤1000000):Calls Tryz.prog 84 #[.slice a l.length c] w fun e w'=>∃v,e= .returned v∧aZ kc 32 107 w.heap.size w' v l∧Mod (fun _=>False) w w':=by
 have HC:=Hi (fun(_:True)=>GM (c:=c) hl ag);generalize bw:l.length=ll at *;have cr:=Hi bw;clear hl ag bw;go_enter Tryz.func84,Tryz.ntmps84;go_wp2_with fail;go_at_call 129;refine(HC.out trivial).mono ?_;rintro e w1 ⟨v,rfl,hO,m1⟩;obtain⟨a2,c2,v2,rfl,dg,hN⟩:=hO.clip OR;have HN:=Hi hN;rw[cr.out]at dg;have ui:=Hi dg;rw[cr.out];clear hO hN dg;go_wp2_with fail;go_at_call 128;refine(clipK_c v2 _ ll ui.out).mono ?_;rintro e w2 ⟨rfl,rfl⟩;go_wp2_with fail;go_ret;exact⟨_,rfl,HN.out,m1⟩
theorem XW (w:We):(Instr.buildSlice 36 0 #[]).run Tryz.prog w= .ok (.slice (some ⟨w.heap.size,0,none⟩) 0 0) (w.alloc (.cells #[] 106)):=by kernel_rfl
theorem QB (w:We) (a:Wb) (n c:Nat):(binOp .eql 36 (.slice a n c) (.slice none 0 0)).run Tryz.prog w= .ok (.bool a.isNone) w:=by
 cases a<;>kernel_rfl
theorem GK {w:We} {a:Wb} {l:List oU} {c:Nat} (hl:aS inr 3 w a l) (ag:l.length≤1000000):Calls Tryz.prog 131 #[.slice a l.length c] w fun e w'=>∃v,e= .returned v∧aE inr 3 106 w' w.heap.size v l∧Mod (fun _=>False) w w':=by
 have he:=QB;cases a with
 |none=>
  obtain rfl:l=[]:=by
   rcases hl with h|⟨_,_,_,_,_,h,_⟩
   ·exact h
   ·cases h
  go_enter Tryz.func131,Tryz.ntmps131;go_wp2_with fail;go_ret;exact⟨_,rfl,aE.nil _ _,Mod.refl _ _⟩
 |some p=>
  have HL:=Hi hl;have ep:=XW;generalize bw:l.length=ll at *;have cr:=Hi bw;clear hl bw;go_enter Tryz.func131,Tryz.ntmps131;go_upto_region 3 with fail;refine ZP0 [3,0,5,0] ?_;refine Zy ep fun p5 ip=> ?_;refine Zv ?_;refine Zi fun w1 hr=> ?_;obtain⟨gp5,kp5⟩:=hr.b p5;have m1:=hr.mod;clear hr;obtain⟨v3,w6,az,im,m6,ju⟩:=aE.append IZ (c:=c) (mM (f:=inr) (n:=3) gp5 kp5) (HL.out.mod0 m1) (by simp;have:=cr.out;omega) (by decide) m1.size 36;have mF:Mod (fun _=>False) w w6:=m1.then m6 (fun i hi e=>by
   have e2:p5=i:=aZz e;omega)
  rw[cr.out]at az;have HO:=Hi im;clear ju m6 im;refine ZA az ?_;refine Ze ?_;refine TE.nil ?_;go_wp2_with fail;go_ret;exact⟨_,rfl,HO.out,mF⟩
theorem clipI_c (v2:Wg) (w:We) (n:Nat) {a:Wb} {c:Nat} (h:∀w2,(Instr.sliceAt 36 (.slice a n c) none (some (.int .i64 (n:Int))) (some (.int .i64 (n:Int)))).run Tryz.prog w2= .ok v2 w2):
  Calls Tryz.prog 130 #[.slice a n c] w fun e w'=>e= .returned v2∧w'=w:=by
 go_enter Tryz.func130,Tryz.ntmps130;go_wp2_with fail;go_ret;exact⟨rfl,rfl⟩
theorem RL {w:We} {a:Wb} {l:List oU} {c:Nat} (hl:aS inr 3 w a l) (ag:l.length≤1000000):Calls Tryz.prog 85 #[.slice a l.length c] w fun e w'=>∃v,e= .returned v∧aZ inr 3 106 w.heap.size w' v l∧Mod (fun _=>False) w w':=by
 have HC:=Hi (fun(_:True)=>GK (c:=c) hl ag);generalize bw:l.length=ll at *;have cr:=Hi bw;clear hl ag bw;go_enter Tryz.func85,Tryz.ntmps85;go_wp2_with fail;go_at_call 131;refine(HC.out trivial).mono ?_;rintro e w1 ⟨v,rfl,hO,m1⟩;obtain⟨a2,c2,v2,rfl,dg,hN⟩:=hO.clip IZ;have HN:=Hi hN;rw[cr.out]at dg;have ui:=Hi dg;rw[cr.out];clear hO hN dg;go_wp2_with fail;go_at_call 130;refine(clipI_c v2 _ ll ui.out).mono ?_;rintro e w2 ⟨rfl,rfl⟩;go_wp2_with fail;go_ret;exact⟨_,rfl,HN.out,m1⟩
theorem XY (w:We):(Instr.buildSlice 37 0 #[]).run Tryz.prog w= .ok (.slice (some ⟨w.heap.size,0,none⟩) 0 0) (w.alloc (.cells #[] 109)):=by kernel_rfl
theorem QE (w:We) (a:Wb) (n c:Nat):(binOp .eql 37 (.slice a n c) (.slice none 0 0)).run Tryz.prog w= .ok (.bool a.isNone) w:=by
 cases a<;>kernel_rfl
theorem GN {w:We} {a:Wb} {l:List o8} {c:Nat} (hl:aS lor 34 w a l) (ag:l.length≤1000000):Calls Tryz.prog 133 #[.slice a l.length c] w fun e w'=>∃v,e= .returned v∧aE lor 34 109 w' w.heap.size v l∧Mod (fun _=>False) w w':=by
 have he:=QE;cases a with
 |none=>
  obtain rfl:l=[]:=by
   rcases hl with h|⟨_,_,_,_,_,h,_⟩
   ·exact h
   ·cases h
  go_enter Tryz.func133,Tryz.ntmps133;go_wp2_with fail;go_ret;exact⟨_,rfl,aE.nil _ _,Mod.refl _ _⟩
 |some p=>
  have HL:=Hi hl;have ep:=XY;generalize bw:l.length=ll at *;have cr:=Hi bw;clear hl bw;go_enter Tryz.func133,Tryz.ntmps133;go_upto_region 3 with fail;refine ZP0 [3,0,5,0] ?_;refine Zy ep fun p5 ip=> ?_;refine Zv ?_;refine Zi fun w1 hr=> ?_;obtain⟨gp5,kp5⟩:=hr.b p5;have m1:=hr.mod;clear hr;obtain⟨v3,w6,az,im,m6,ju⟩:=aE.append B2 (c:=c) (mM (f:=lor) (n:=34) gp5 kp5) (HL.out.mod0 m1) (by simp;have:=cr.out;omega) (by decide) m1.size 37;have mF:Mod (fun _=>False) w w6:=m1.then m6 (fun i hi e=>by
   have e2:p5=i:=aZz e;omega)
  rw[cr.out]at az;have HO:=Hi im;clear ju m6 im;refine ZA az ?_;refine Ze ?_;refine TE.nil ?_;go_wp2_with fail;go_ret;exact⟨_,rfl,HO.out,mF⟩
theorem clipL_c (v2:Wg) (w:We) (n:Nat) {a:Wb} {c:Nat} (h:∀w2,(Instr.sliceAt 37 (.slice a n c) none (some (.int .i64 (n:Int))) (some (.int .i64 (n:Int)))).run Tryz.prog w2= .ok v2 w2):
  Calls Tryz.prog 132 #[.slice a n c] w fun e w'=>e= .returned v2∧w'=w:=by
 go_enter Tryz.func132,Tryz.ntmps132;go_wp2_with fail;go_ret;exact⟨rfl,rfl⟩
theorem RN {w:We} {a:Wb} {l:List o8} {c:Nat} (hl:aS lor 34 w a l) (ag:l.length≤1000000):Calls Tryz.prog 86 #[.slice a l.length c] w fun e w'=>∃v,e= .returned v∧aZ lor 34 109 w.heap.size w' v l∧Mod (fun _=>False) w w':=by
 have HC:=Hi (fun(_:True)=>GN (c:=c) hl ag);generalize bw:l.length=ll at *;have cr:=Hi bw;clear hl ag bw;go_enter Tryz.func86,Tryz.ntmps86;go_wp2_with fail;go_at_call 133;refine(HC.out trivial).mono ?_;rintro e w1 ⟨v,rfl,hO,m1⟩;obtain⟨a2,c2,v2,rfl,dg,hN⟩:=hO.clip B2;have HN:=Hi hN;rw[cr.out]at dg;have ui:=Hi dg;rw[cr.out];clear hO hN dg;go_wp2_with fail;go_at_call 132;refine(clipL_c v2 _ ll ui.out).mono ?_;rintro e w2 ⟨rfl,rfl⟩;go_wp2_with fail;go_ret;exact⟨_,rfl,HN.out,m1⟩
end
structure An where
 a:Nat
 id:Wi
 ch:Wi
 pt:Nat
 ks:List (aN×Bool)
deriving DecidableEq
def An.how (x:An) (k:aN):Option Bool:=lkp k x.ks
def jP (k:aN) (x y:Option Bool):Prop:=match x,y with
 |some a,some b=>a=true∨b=true
 |_,_=>False
def XB (x y:An):Prop:=∃k,jP k (x.how k) (y.how k)
theorem tA {k:aN} {x y:Option Bool} (h:jP k x y):jP k y x:=by
 unfold jP at *;cases x<;>cases y<;>simp_all
 grind
theorem XB.symm {x y:An} (h:XB x y):XB y x:=h.imp fun _=>tA
def stepS (k:aN) (s:Option An×List An) (x:An):Option An×List An:=match x.how k with
 |none=>s
 |some true=>(some x,[])
 |some false=>(s.1,s.2++[x])
def spotOf (k:aN) (L:List An):Option An×List An:=L.foldl (stepS k) (none,[])
@[simp] theorem spotOf_nil (k:aN):spotOf k []=(none,[]):=rfl
theorem spotOf_snoc (k:aN) (L:List An) (x:An):spotOf k (L++[x])=stepS k (spotOf k L) x:=by simp[spotOf]
def mU (L:List An) (k:aN) (wr:Bool):List An:=(spotOf k L).1.toList++if wr then(spotOf k L).2 else []
def d7 (L:List An) (ks:List (aN×Bool)):List An:=ks.flatMap fun p=>mU L p.1 p.2
theorem bB {α:Type} {P:List α→Prop} (h0:P []) (h1:∀l x,P l→P (l++[x])):∀l,P l:=by
 intro l;rw[←List.reverse_reverse l]
 induction l.reverse with
 |nil=>exact h0
 |cons x r ih=>rw[List.reverse_cons];exact h1 _ _ ih
theorem spotOf_writer {k:aN}:∀ {L:List An} {x:An},(spotOf k L).1=some x→x∈L∧x.how k=some true:=by
 intro L
 induction L using bB with
 |h0=>intro x h;simp at h
 |h1 l y ih=>
  intro x h;rw[spotOf_snoc]at h;unfold stepS at h;split at h
  ·obtain⟨h1,h2⟩:=ih h;exact⟨aZl _ h1,h2⟩
  ·cases h;exact⟨by simp,by assumption⟩
  ·obtain⟨h1,h2⟩:=ih h;exact⟨aZl _ h1,h2⟩
theorem dN {k:aN}:∀ {L:List An} {x:An},x∈(spotOf k L).2→x∈L∧x.how k=some false:=by
 intro L
 induction L using bB with
 |h0=>intro x h;simp at h
 |h1 l y ih=>
  intro x h;rw[spotOf_snoc]at h;unfold stepS at h;split at h
  ·obtain⟨h1,h2⟩:=ih h;exact⟨aZl _ h1,h2⟩
  ·cases h
  ·rcases aZh.1 h with h|h
   ·obtain⟨h1,h2⟩:=ih h;exact⟨aZl _ h1,h2⟩
   ·obtain rfl:=aZm.1 h;exact⟨by simp,by assumption⟩
theorem gU {k:aN}:∀ {L:List An} {x:An},x∈L→x.how k=some true→(spotOf k L).1≠none:=by
 intro L
 induction L using bB with
 |h0=>intro x h;simp at h
 |h1 l y ih=>
  intro x h hx;rw[spotOf_snoc];unfold stepS;rcases aZh.1 h with h|h
  ·have:=ih h hx;split<;>simp_all
  ·obtain rfl:=aZm.1 h;rw[hx];simp
theorem spotOf_has_reader {k:aN}:∀ {L:List An} {x:An},x∈L→x.how k=some false→(spotOf k L).1≠none∨x∈(spotOf k L).2:=by
 intro L
 induction L using bB with
 |h0=>intro x h;simp at h
 |h1 l y ih=>
  intro x h hx;rw[spotOf_snoc];unfold stepS;rcases aZh.1 h with h|h
  ·have:=ih h hx;split
   ·exact this
   ·exact .inl (by simp)
   ·exact this.imp _root_.id (fun h=>aZl _ h)
  ·obtain rfl:=aZm.1 h;rw[hx];exact .inr (by simp)
theorem KR {L:List An} {k:aN} {wr:Bool} {x:An} (h:x∈mU L k wr):x∈L∧jP k (x.how k) (some wr):=by
 rcases aZh.1 h with h|h
 ·obtain⟨h1,h2⟩:=spotOf_writer (Option.mem_toList.1 h);exact⟨h1,by rw[h2];exact .inl rfl⟩
 ·cases wr with
  |false=>simp at h
  |true=>
   obtain⟨h1,h2⟩:=dN (show x∈(spotOf k L).2 by simpa using h);exact⟨h1,by rw[h2];exact .inr rfl⟩
theorem N7 {L:List An} {k:aN} {wr:Bool} {x:An} (hx:x∈L) (h:jP k (x.how k) (some wr)):mU L k wr≠[]:=by
 unfold mU;cases hh:x.how k with
 |none=>rw[hh]at h;exact h.elim
 |some b=>
  rw[hh]at h;cases b with
  |true=>
   have:=gU hx hh;cases hs:(spotOf k L).1 with
   |none=>exact absurd hs this
   |some y=>simp
  |false=>
   have hw:wr=true:=by rcases h with h|h<;>simp_all
   subst hw;rcases spotOf_has_reader hx hh with h1|h1
   ·cases hs:(spotOf k L).1 with
    |none=>exact absurd hs h1
    |some y=>simp
   ·intro e;have:=List.append_eq_nil_iff.1 e;have h2:(spotOf k L).2=[]:=by simpa using this.2
    rw[h2]at h1;cases h1
theorem x6 {X Y:List An} {b:An} {k:aN} {wr:Bool} (hb:jP k (b.how k) (some wr)) (hY:∀y∈Y,¬jP k (y.how k) (some wr)):b∈mU (X++b::Y) k wr:=by
 induction Y using bB with
 |h0=>
  unfold mU;rw[spotOf_snoc];unfold stepS;cases hh:b.how k with
  |none=>rw[hh]at hb;exact hb.elim
  |some v=>
   cases v with
   |true=>simp
   |false=>
    have hw:wr=true:=by rw[hh]at hb;rcases hb with h|h<;>simp_all
    subst hw;simp
 |h1 Y y ih=>
  have ih:=ih (fun z hz=>hY z (aZl _ hz));have hy:=hY y (by simp);unfold mU at ih⊢;rw[show X++b::(Y++[y])=(X++b::Y)++[y]by simp,spotOf_snoc];unfold stepS;cases hh:y.how k with
  |none=>exact ih
  |some v=>
   rw[hh]at hy;cases v with
   |true=>exact absurd (.inl rfl) hy
   |false=>
    cases wr with
    |true=>exact absurd (.inr rfl) hy
    |false=>simpa using ih
theorem kF {L:List An} {ks:List (aN×Bool)} {x:An} (h:x∈d7 L ks):x∈L∧∃p∈ks,jP p.1 (x.how p.1) (some p.2):=by
 obtain⟨p,hp,hx⟩:=List.mem_flatMap.1 h;obtain⟨h1,h2⟩:=KR hx;exact⟨h1,p,hp,h2⟩
theorem CQ {L:List An} {ks:List (aN×Bool)} {x:An} (hx:x∈L) {p:aN×Bool} (hp:p∈ks) (h:jP p.1 (x.how p.1) (some p.2)):d7 L ks≠[]:=by
 intro e;have:=List.flatMap_eq_nil_iff.1 e p hp;exact N7 hx h this
theorem x7 {X Y:List An} {b:An} {ks:List (aN×Bool)} {p:aN×Bool} (hp:p∈ks) (hb:jP p.1 (b.how p.1) (some p.2)) (hY:∀y∈Y,∀q∈ks,¬jP q.1 (y.how q.1) (some q.2)):b∈d7 (X++b::Y) ks:=
 List.mem_flatMap.2 ⟨p,hp,x6 hb (fun y hy=>hY y hy p hp)⟩
theorem oR {k:aN} {L1:List An} {p:An} (fx:p∉L1) (hc:p.how k=some true→∀x∈L1,x.how k=none):∀L2:List An,p∉L2→
  spotOf k (L1++L2)=((spotOf k (L1++p::L2)).1.filter (fun x=>decide (x≠p)),(spotOf k (L1++p::L2)).2.filter (fun x=>decide (x≠p))):=by
 intro L2
 induction L2 using bB with
 |h0=>
  intro _;rw[aYx,spotOf_snoc];have hw:∀x,(spotOf k L1).1=some x→x≠p:=fun x hx e=>fx (e▸(spotOf_writer hx).1);have hr:(spotOf k L1).2.filter (fun x=>decide (x≠p))=(spotOf k L1).2:=by
   rw[aX1];intro x hx;exact Dt (fun e=>fx (e▸(dN hx).1))
  have h1:(spotOf k L1).1.filter (fun x=>decide (x≠p))=(spotOf k L1).1:=by
   cases hs:(spotOf k L1).1 with
   |none=>rfl
   |some x=>simp[Option.filter,hw x hs]
  unfold stepS;split
  ·rw[h1,hr]
  ·rename_i hh;have hn:=hc hh
   have:spotOf k L1=(none,[]):=by
    apply Prod.ext
    ·cases hs:(spotOf k L1).1 with
     |none=>rfl
     |some x=>
      obtain⟨h2,h3⟩:=spotOf_writer hs;rw[hn x h2]at h3;cases h3
    ·cases hs:(spotOf k L1).2 with
     |nil=>rfl
     |cons x r=>
      obtain⟨h2,h3⟩:=dN (k:=k) (L:=L1) (x:=x) (by rw[hs];simp);rw[hn x h2]at h3;cases h3
   rw[this];simp[Option.filter]
  ·rw[aZ6,hr,h1];simp
 |h1 Y y ih=>
  intro hy;have hyp:y≠p:=fun e=>hy (by simp[e]);have ih:=ih (fun h=>hy (aZl _ h));rw[show L1++(Y++[y])=(L1++Y)++[y]by simp,show L1++p::(Y++[y])=(L1++p::Y)++[y]by simp,spotOf_snoc,spotOf_snoc,ih];unfold stepS;split
  ·rfl
  ·simp[Option.filter,hyp]
  ·rw[aZ6];simp[hyp]
theorem E0 {k:aN} {wr:Bool} {L1 L2:List An} {p:An} (fx:p∉L1) (ce:p∉L2) (hc:p.how k=some true→∀x∈L1,x.how k=none):mU (L1++L2) k wr=(mU (L1++p::L2) k wr).filter (fun x=>decide (x≠p)):=by
 unfold mU;rw[oR fx hc L2 ce,aZ6];congr 1
 ·cases(spotOf k (L1++p::L2)).1 with
  |none=>rfl
  |some x=>
   by_cases e:x=p<;>simp[Option.filter,e]
 ·split<;>simp
theorem E2 {ks:List (aN×Bool)} {L1 L2:List An} {p:An} (fx:p∉L1) (ce:p∉L2) (hc:∀k,p.how k=some true→∀x∈L1,x.how k=none):d7 (L1++L2) ks=(d7 (L1++p::L2) ks).filter (fun x=>decide (x≠p)):=by
 unfold d7
 induction ks with
 |nil=>rfl
 |cons q r ih=>rw[aWe,aWe,aZ6,ih,E0 fx ce (hc q.1)]
section
open Go.RowKit
theorem fN:oM Tryz.prog 236 238 pc 1 8 where
 u:=Tryz.underlying236
 info:=by
  obtain⟨i0,hi,cy,bj,bp⟩:=info_parts (show(Tryz.prog.info? 238).map (fun i=>(i.zero,i.size,i.bytes))=some (some (.pointer none),1,8)by kernel_rfl);exact⟨i0,_,hi,cy,bj,bp,rfl⟩
 pos:=by omega
 size x:=rfl
 one x u hu:=by
  simp[pc]at hu;subst hu;rfl
theorem iN {w:We} {base:Nat} {v:Wg} {L:Wd} (h:aE pc 1 238 w base v L) (hL:L≠[]):
  ∃g cap cur,v= .slice (some ⟨g,0,none⟩) L.length cap∧base≤g∧w.heap[g]? =some (.cells cur 238 (0,0))∧L.length≤cap∧cap=cur.size∧(∀(i b:Nat),L[i]? =some b→cur[i]? =some (ptrV b))∧
   ∀(w':We) (cur':Wa) (L':Wd),w'.heap[g]? =some (.cells cur' 238 (0,0))→cur'.size=cur.size→L'.length=L.length→(∀(i b:Nat),L'[i]? =some b→cur'[i]? =some (ptrV b))→aE pc 1 238 w' base v L':=by
 obtain⟨h0,h⟩:=h;rcases h with⟨_,hn⟩|⟨g,cap,cur,rfl,hb,hg,se,tv,fz,br⟩
 ·exact absurd (aYn hn) hL
 ·rw[aYp]at fz br;refine⟨g,cap,cur,rfl,hb,hg,se,fz.symm,fun i b hi=> ?_,fun w' cur' L' gj fu hl hc=>⟨?_,.inr ⟨g,cap,cur',by rw[hl],hb,gj,by omega,tv,by omega,?_⟩⟩⟩
  ·rw[bU]at br;have h1:=congrArg (fun l=>l[i]?) br;have hlt:=(aZa.1 hi).1;simp only[aY7,aZv,hi,aYj,if_pos hlt]at h1;simpa using h1
  ·rw[bU];simp
  ·rw[bU,aYp];apply aXm;intro i;rw[aY7,aZv];by_cases hi:i<L'.length
   ·rw[if_pos hi,aZb hi];have:=hc i _ (aZb hi);simpa using this
   ·rw[if_neg hi,aY1 (by omega)];rfl
theorem lN {w:We} {v:Wg} {L:Wd} {base:Nat} (h:aE pc 1 238 w base v L) {g:Nat} (hg:v.ownBlock=some g):∃cur,w.heap[g]? =some (.cells cur 238 (0,0)):=by
 rcases h.2 with⟨rfl,_⟩|⟨g',cap,cur,rfl,_,gj,_⟩
 ·cases hg
 ·cases hg;exact⟨cur,gj⟩
def bv (b:Bool):Wg:= .int .i64 (if b then 1 else 0)
structure Nr where
 id:Wi
 ch:Wi
 pt:Nat
 wt:Nat
 nv:Wg
 nx:Wd
 kb:Nat
 ks:List (aN×Bool)
abbrev LJ (x:Nr):Array Value:= #[.int .i64 x.id.toInt,.int .i64 x.ch.toInt,.int .i64 (x.pt:Int),.int .i64 (x.wt:Int),x.nv,.map (some x.kb)]
abbrev wA:=Nat→Option (Nat×Nat)
structure wF (tag:wA) (w:We) (a:Nat) (x:Nr):Prop where
 c:w.heap[a]? =some (.cells (LJ x) 244 (0,0))
 o:aE pc 1 238 w 0 x.nv x.nx
 k:∃es c,w.heap[x.kb]? =some (.map es c)∧aR kv bv es c x.ks
 ta:tag a=some (a,0)
 tk:tag x.kb=some (a,1)
 tn:∀g,x.nv.ownBlock=some g→tag g=some (a,2)
structure Sr where
 wr:Option Nat
 rv:Wg
 rs:Wd
abbrev AE (o:Option Nat):Value:= .pointer (o.map fun b=>⟨b,0,none⟩)
abbrev W2 (x:Sr):Array Value:= #[AE x.wr,x.rv]
structure DD (tag:wA) (w:We) (a:Nat) (x:Sr):Prop where
 c:w.heap[a]? =some (.cells (W2 x) 248 (0,0))
 o:aE pc 1 238 w 0 x.rv x.rs
 ta:tag a=some (a,3)
 tr:∀g,x.rv.ownBlock=some g→tag g=some (a,4)
structure dX (tag:wA) (w:We) (g nb sb:Nat) (pu:Nat) (A:Wd) (N:List (Wi×Nat)) (S:List (aN×Nat)) (nd:Nat→Nr) (sp:Nat→Sr):Prop where
 c:w.heap[g]? =some (.cells #[.map (some nb),.map (some sb),.int .i64 (pu:Int)] 182 (0,0))
 kn:∃es c,w.heap[nb]? =some (.map es c)∧aR uP ptrV es c N
 ks:∃es c,w.heap[sb]? =some (.map es c)∧aR kv ptrV es c S
 nodes:∀a∈A,wF tag w a (nd a)
 spots:∀p∈S,DD tag w p.2 (sp p.2)
 tg:tag g=some (g,5)
 tnb:tag nb=some (g,6)
 tsb:tag sb=some (g,7)
section
variable {tag tag':wA} {w w':We} {g nb sb pu:Nat} {A:Wd} {N:List (Wi×Nat)} {S:List (aN×Nat)} {nd:Nat→Nr} {sp:Nat→Sr}
theorem wF.mod {a:Nat} {x:Nr} {M:Nat→Prop} (h:wF tag w a x) (hm:Mod M w w') (hM:∀i r,tag i=some (a,r)→r≤2→¬M i) (ht:∀i,i<w.heap.size→tag' i=tag i):wF tag' w' a x:=by
 obtain⟨es,c,hk,M'⟩:=h.k;refine⟨hm.at h.c (hM _ 0 h.ta (by omega)),h.o.mod hm (fun i hi=>hM _ 2 (h.tn i hi) (by omega)),⟨es,c,hm.at hk (hM _ 1 h.tk (by omega)),M'⟩,(ht _ (aA h.c)).trans h.ta,(ht _ (aA hk)).trans h.tk,fun i hi=> ?_⟩;exact(ht _ (h.o.lt _ hi).2).trans (h.tn i hi)
theorem DD.mod {a:Nat} {x:Sr} {M:Nat→Prop} (h:DD tag w a x) (hm:Mod M w w') (hM:∀i r,tag i=some (a,r)→3≤r→r≤4→¬M i) (ht:∀i,i<w.heap.size→tag' i=tag i):DD tag' w' a x:=by
 refine⟨hm.at h.c (hM _ 3 h.ta (by omega) (by omega)),h.o.mod hm (fun i hi=>hM _ 4 (h.tr i hi) (by omega) (by omega)),(ht _ (aA h.c)).trans h.ta,fun i hi=> ?_⟩;exact(ht _ (h.o.lt _ hi).2).trans (h.tr i hi)
theorem dX.mod {M:Nat→Prop} (h:dX tag w g nb sb pu A N S nd sp) (hm:Mod M w w') (hM:∀i,tag i≠none→¬M i):dX tag w' g nb sb pu A N S nd sp:=by
 obtain⟨es,c,hk,M1⟩:=h.kn;obtain⟨es2,c2,jy,M2⟩:=h.ks;have q:∀ {i p},tag i=some p→¬M i:=fun{i p} e=>hM i (by simp[e]);exact⟨hm.at h.c (q h.tg),⟨es,c,hm.at hk (q h.tnb),M1⟩,⟨es2,c2,hm.at jy (q h.tsb),M2⟩,fun a ha=>(h.nodes a ha).mod hm (fun i r e _=>q e) (fun _ _=>rfl),fun p hp=>(h.spots p hp).mod hm (fun i r e _ _=>q e) (fun _ _=>rfl),h.tg,h.tnb,h.tsb⟩
def fR {β:Type} (f:Nat→β) (a:Nat) (x:β):Nat→β:=fun i=>if i=a then x else f i
@[simp] theorem upd_same {β:Type} (f:Nat→β) (a:Nat) (x:β):fR f a x a=x:=by simp[fR]
theorem dK {β:Type} (f:Nat→β) {a b:Nat} (x:β) (h:b≠a):fR f a x b=f b:=by simp[fR,h]
theorem dX.node {M:Nat→Prop} {a:Nat} {x:Nr} (h:dX tag w g nb sb pu A N S nd sp) (hm:Mod M w w') (hM:∀i b r,tag i=some (b,r)→M i→b=a∧r≤2) (ht:∀i,i<w.heap.size→tag' i=tag i) (hx:wF tag' w' a x):dX tag' w' g nb sb pu A N S (fR nd a x) sp:=by
 obtain⟨es,c,hk,M1⟩:=h.kn;obtain⟨es2,c2,jy,M2⟩:=h.ks;refine⟨hm.at h.c (fun e=> ?_),⟨es,c,hm.at hk (fun e=> ?_),M1⟩,⟨es2,c2,hm.at jy (fun e=> ?_),M2⟩,fun b hb=> ?_,fun p hp=>(h.spots p hp).mod hm (fun i r e h3 h4 hi=> ?_) ht,(ht _ (aA h.c)).trans h.tg,(ht _ (aA hk)).trans h.tnb,(ht _ (aA jy)).trans h.tsb⟩
 ·have:=(hM _ _ _ h.tg e).2;omega
 ·have:=(hM _ _ _ h.tnb e).2;omega
 ·have:=(hM _ _ _ h.tsb e).2;omega
 ·by_cases e:b=a
  ·subst e;rw[upd_same];exact hx
  ·rw[dK _ _ e];exact(h.nodes b hb).mod hm (fun i r e' _ hi=>e (hM _ _ _ e' hi).1) ht
 ·have:=(hM _ _ _ e hi).2;omega
theorem dX.spot {M:Nat→Prop} {a:Nat} {x:Sr} (h:dX tag w g nb sb pu A N S nd sp) (hm:Mod M w w') (hM:∀i b r,tag i=some (b,r)→M i→b=a∧3≤r∧r≤4) (ht:∀i,i<w.heap.size→tag' i=tag i) (hx:DD tag' w' a x):dX tag' w' g nb sb pu A N S nd (fR sp a x):=by
 obtain⟨es,c,hk,M1⟩:=h.kn;obtain⟨es2,c2,jy,M2⟩:=h.ks;refine⟨hm.at h.c (fun e=> ?_),⟨es,c,hm.at hk (fun e=> ?_),M1⟩,⟨es2,c2,hm.at jy (fun e=> ?_),M2⟩,fun b hb=>(h.nodes b hb).mod hm (fun i r e h3 hi=> ?_) ht,fun p hp=> ?_,(ht _ (aA h.c)).trans h.tg,(ht _ (aA hk)).trans h.tnb,(ht _ (aA jy)).trans h.tsb⟩
 ·have:=(hM _ _ _ h.tg e).2;omega
 ·have:=(hM _ _ _ h.tnb e).2;omega
 ·have:=(hM _ _ _ h.tsb e).2;omega
 ·have:=(hM _ _ _ e hi).2;omega
 ·by_cases e:p.2=a
  ·rw[e,upd_same];exact hx
  ·rw[dK _ _ e];exact(h.spots p hp).mod hm (fun i r e' _ _ hi=>e (hM _ _ _ e' hi).1) ht
theorem dX.fewer {A':Wd} (h:dX tag w g nb sb pu A N S nd sp) (hA:∀a∈A',a∈A):dX tag w g nb sb pu A' N S nd sp:=
 ⟨h.c,h.kn,h.ks,fun b hb=>h.nodes b (hA b hb),h.spots,h.tg,h.tnb,h.tsb⟩
end
def wJ (x:Sr) (s:Option An×List An):Prop:=x.wr=s.1.map An.a∧x.rs=s.2.map An.a
def LO (x:Nr) (n:An):Prop:=x.id=n.id∧x.ch=n.ch∧x.pt=n.pt∧x.ks=n.ks
structure eN (pu:Nat) (L:List An) (N:List (Wi×Nat)) (S:List (aN×Nat)) (nd:Nat→Nr) (sp:Nat→Sr):Prop where
 N:N.Perm (L.map fun x=>(x.id,x.a))
 ad:(L.map An.a).Nodup
 pts:(L.map An.pt).Pairwise (·<·)
 ptu:∀x∈L,x.pt<pu
 pub:pu≤900
 kl:∀x∈L,x.ks.length≤1000
 nxl:∀b∈L,(nd b.a).nx.length≤pu*1000000
 nds:∀x∈L,LO (nd x.a) x
 kn:∀x∈L,(x.ks.map Prod.fst).Nodup
 sn:(S.map Prod.snd).Nodup
 sps:∀k,(∀s,lkp k S=some s→wJ (sp s) (spotOf k L))∧(lkp k S=none→spotOf k L=(none,[]))
 wts:∀X x Y,L=X++x::Y→(nd x.a).wt=(d7 X x.ks).length
 nxs:∀X x Y,L=X++x::Y→∀b∈L,(nd b.a).nx.count x.a=(d7 X x.ks).count b
 nxm:∀b∈L,∀y∈(nd b.a).nx,∃x∈L,x.a=y
structure Cn where
 id:Wi
 ch:Wi
 how:aN→Option Bool
def An.cn (x:An):Cn:=⟨x.id,x.ch,x.how⟩
def AY (g q:Nat) (C:List Cn) (T:Nat→Prop) (w:We):Prop:=∃tag nb sb L N S nd sp,dX tag w g nb sb q (L.map An.a) N S nd sp∧eN q L N S nd sp∧C=L.map An.cn∧∀i,tag i≠none→T i
theorem AY.good (g q:Nat) (C:List Cn):aH (AY g q C) where
 cl:=by
  rintro T w w' ⟨tag,nb,sb,L,N,S,nd,sp,H,I,hC,hT⟩ hm;exact⟨tag,nb,sb,L,N,S,nd,sp,H.mod hm (fun i hi hn=>hn (hT i hi)),I,hC,hT⟩
 gr:=by
  rintro T T' w hT ⟨tag,nb,sb,L,N,S,nd,sp,H,I,hC,hO⟩;exact⟨tag,nb,sb,L,N,S,nd,sp,H,I,hC,fun i hi=>hT i (hO i hi)⟩
end
section
open Go.RowKit
attribute [local go_sem] aJ aC aO aL aQ aI aP Value.cells
theorem lM (w:We) (r:Option Nat):(binOp .neq 179 (.map r) (.map none)).run Tryz.prog w= .ok (.bool !r.isNone) w:=run_neq_map_nil w _ _ _ _ Tryz.underlying179
attribute [local go_sem] lM
theorem there_cG {w:We} {g b:Nat} {y z:Wg} (kh:w.heap[g]? =some (.cells #[.map (some b),y,z] 182 (0,0))):Calls Tryz.prog 103 #[ptrV g] w fun e w'=>e= .returned (.bool true)∧w'=w:=by
 go_enter Tryz.func103,Tryz.ntmps103;go_wp2_with fail;go_ret;exact⟨rfl,rfl⟩
theorem V8 (w:We) (a b c:Obj):(((w.alloc a).alloc b).alloc c).heap.size=w.heap.size+3:=by
 show(((w.heap.push a).push b).push c).size=_;simp
theorem eN.nil (nd:Nat→Nr) (sp:Nat→Sr):eN 0 [] [] [] nd sp where
 N:= .refl _
 ad:=aWn
 pts:=List.Pairwise.nil
 ptu _ h:=by cases h
 pub:=by omega
 kl _ h:=by cases h
 nxl _ h:=by cases h
 nds _ h:=by cases h
 kn _ h:=by cases h
 sn:=aWn
 sps k:=⟨fun s h=>(by cases h),fun _=>rfl⟩
 wts X x Y h:=by simp at h
 nxs X x Y h:=by simp at h
 nxm _ h:=by cases h
theorem RE (w:We):Calls Tryz.prog 30 #[] w fun e w'=>∃g,e= .returned (ptrV g)∧∃T,AY g 0 [] T w'∧Mod (fun _=>False) w w'∧(∀i,T i→w.heap.size≤i∧i<w'.heap.size):=by
 have Gk:= @run_makeMap Tryz.prog;go_enter Tryz.func30,Tryz.ntmps30;go_wp2_with fail;go_ret;obtain⟨k0,k1,k2⟩:=qS w (.map #[] 0) (.map #[] 0) (.cells #[.map (some w.heap.size),.map (some (w.heap.size+1)),.int .i64 0] 182);have hs:(((w.alloc (.map #[] 0)).alloc (.map #[] 0)).alloc (.cells #[.map (some w.heap.size),.map (some (w.heap.size+1)),.int .i64 0] 182)).heap.size=w.heap.size+3:=V8 _ _ _ _;have m0:Mod (fun _=>False) w (((w.alloc (.map #[] 0)).alloc (.map #[] 0)).alloc (.cells #[.map (some w.heap.size),.map (some (w.heap.size+1)),.int .i64 0] 182)):=(((Mod.refl _ _).alloc _).alloc _).alloc _;generalize(((w.alloc (.map #[] 0)).alloc (.map #[] 0)).alloc (.cells #[.map (some w.heap.size),.map (some (w.heap.size+1)),.int .i64 0] 182))=w1 at *;generalize hb:w.heap.size=b at *;refine⟨b+2,rfl,fun i=>b≤i∧i<w1.heap.size,⟨fun i=>if i=b then some (b+2,6)else if i=b+1 then some (b+2,7)else if i=b+2 then some (b+2,5)else none,b,b+1,[],[],[],fun _=>⟨0,0,0,0,.slice none 0 0,[],0,[]⟩,fun _=>⟨none,.slice none 0 0,[]⟩,⟨k2,⟨_,_,k0,aR.empty uP ptrV⟩,⟨_,_,k1,aR.empty kv ptrV⟩,fun _ h=>(by cases h),fun _ h=>(by cases h),by simp,by simp,by simp⟩,eN.nil _ _,rfl,fun i hi=> ?_⟩,m0,fun i hi=>hi⟩;rw[hs];by_cases e0:i=b
 ·omega
 ·by_cases e1:i=b+1
  ·omega
  ·by_cases e2:i=b+2
   ·omega
   ·simp[e0,e1,e2]at hi
theorem MP {tag:wA} {w:We} {a:Nat} {x:Nr} (h:wF tag w a x) (hx:0<x.wt) (th:x.wt≤1000000000000):Calls Tryz.prog 108 #[ptrV a] w fun e w'=>e= .returned (.tuple #[])∧w'.heap[a]? =some (.cells (LJ {x with wt:=x.wt-1}) 244 (0,0))∧Mod (fun i=>i=a) w w':=by
 have kc:=h.c;have hw:IntKind.i64.wrap ((x.wt:Int)-1)=((x.wt-1:Nat):Int):=by
  rw[IntKind.wrap_i64];omega
 clear h;go_enter Tryz.func108,Tryz.ntmps108;go_wp2_with fail;go_end0;refine⟨rfl,?_,(Mod.refl _ _).setCell _ (fun _=>rfl)⟩;rw[setCell_blk kc,aF _ _ (aA kc)];rfl
section
variable {pu:Nat} {L:List An} {N:List (Wi×Nat)} {S:List (aN×Nat)} {nd:Nat→Nr} {sp:Nat→Sr}
theorem eN.look (I:eN pu L N S nd sp) (hN:(N.map Prod.fst).Nodup) (id:Wi):(lkp id N=none∧∀x∈L,x.id≠id)∨∃x∈L,x.id=id∧lkp id N=some x.a:=by
 cases h:lkp id N with
 |none=>
  refine .inl ⟨rfl,fun x hx e=> ?_⟩;rw[eQ]at h;exact h (aZj.2 ⟨(x.id,x.a),I.N.mem_iff.2 (aZj.2 ⟨x,hx,rfl⟩),e⟩)
 |some b=>
  right;obtain⟨x,hx,e⟩:=aZj.1 (I.N.mem_iff.1 (cP h));cases e;exact⟨x,hx,rfl,rfl⟩
theorem eN.len (I:eN pu L N S nd sp):N.length=L.length:=by simpa using I.N.length_eq
theorem eN.ids (I:eN pu L N S nd sp) (hN:(N.map Prod.fst).Nodup):(L.map An.id).Nodup:=by
 have:=(I.N.map Prod.fst).nodup_iff.1 hN;rwa[aX0]at this
end
theorem Q2 {g q:Nat} {C:List Cn} {T:Nat→Prop} {w:We} (hA:AY g q C T w):Calls Tryz.prog 98 #[ptrV g] w fun e w'=>e= .returned (.int .i64 (C.length:Int))∧w'=w:=by
 obtain⟨tag,nb,sb,L,N,S,nd,sp,H,I,rfl,hO⟩:=hA;obtain⟨es,c,kb,M⟩:=H.kn;have kh:=H.c;have dh:∀ty,(Builtin.len_ #[179] ty #[.map (some nb)]).run Tryz.prog w= .ok (.int .i64 N.length) w:=fun ty=>M.len Tryz.underlying179 w kb;rw[I.len]at dh;rw[aZs];clear H hO M I;go_enter Tryz.func98,Tryz.ntmps98;go_wp2_with fail;go_at_call 103;refine(there_cG kh).mono ?_;rintro e w2 ⟨rfl,rfl⟩;go_wp2_with fail;go_ret;exact⟨rfl,rfl⟩
theorem MC {g q:Nat} {C:List Cn} {T:Nat→Prop} {w:We} (hA:AY g q C T w) (id:Wi):Calls Tryz.prog 70 #[ptrV g,.int .i64 id.toInt] w fun e w'=>w'=w∧
  ((e= .returned (.tuple #[.int .i64 0,.int .i64 11])∧∀x∈C,x.id≠id)∨∃x∈C,x.id=id∧e= .returned (.tuple #[.int .i64 x.ch.toInt,.int .i64 0])):=by
 obtain⟨tag,nb,sb,L,N,S,nd,sp,H,I,rfl,hO⟩:=hA;obtain⟨es,c,kb,M⟩:=H.kn;have kh:=H.c;have cd:∀wq,wq.heap[nb]? =some (.map es c)→(Instr.lookup 179 (.map (some nb)) (.int .i64 id.toInt) false).run Tryz.prog wq=_:=fun wq hq=>M.lookup IT Tryz.underlying179 (z:= .pointer none) (fun w=>by kernel_rfl) wq hq id false;rcases I.look M.nodup id with⟨h1,h2⟩|⟨x,hx,h1,h2⟩
 ·have HR:=Hi h2;have hl:=cd w kb;simp only[h1,Option.map_none,Option.getD_none,aZr,if_false]at hl;clear H I hO M cd h1 h2;go_enter Tryz.func70,Tryz.ntmps70;go_wp2_with fail;go_at_call 103;refine(there_cG kh).mono ?_;rintro e w2 ⟨rfl,rfl⟩;go_wp2_with fail;refine bodyPost_ret (results_tmp2 rfl _ _ _) rfl ⟨rfl,.inl ⟨rfl,fun y hy=> ?_⟩⟩;obtain⟨z,hz,rfl⟩:=aZj.1 hy;exact HR.out z hz
 ·have kx:=(H.nodes _ (aZj.2 ⟨x,hx,rfl⟩)).c;have Lx:(nd x.a).ch=x.ch:=(I.nds x hx).2.1;have hl:=cd w kb;simp only[h2,aYj,zE,aZr,if_false]at hl;have HX:=Hi (Ai hx h1);clear H I hO M cd h1 h2 hx;go_enter Tryz.func70,Tryz.ntmps70;go_wp2_with fail;go_at_call 103;refine(there_cG kh).mono ?_;rintro e w2 ⟨rfl,rfl⟩;go_wp2_with fail;refine bodyPost_ret (results_tmp2 rfl _ _ _) rfl ⟨rfl,.inr ⟨x.cn,aZj.2 ⟨x,HX.out.1,rfl⟩,HX.out.2,rfl⟩⟩
end
section
open Go.RowKit
section
variable {P:Wl} {ops:Array Oper} {Q:Exit→Act→We→Prop}
theorem NK {l n:Nat} {o:Oper} {a:Act} {w:We} {next:Act→We→Prop} (hd:∀c,o.op≠ .defer c) (h:o.wp P a w next Q):o.wpIn (Fence.wide.inRound l) n P a w next Q:=by
 refine⟨fun _ _=>trivial,?_⟩;rw[Fence.inRound_round,Oper.semAt_some _ _ _ hd];unfold Oper.wp at h
 revert h
 generalize(execOp a.eval o).run P w=R;intro h;unfold Oper.upon at h;unfold Oper.uponIn;split at h
 ·exact h
 ·exact h
 ·exact h
 ·exact⟨fun e=>(by cases e),callsIn_wide.2 h⟩
 ·refine⟨fun e=>(by cases e),fun c cs hr=> ?_⟩;obtain⟨v,w',h1,h2⟩:=h c cs;exact⟨v,w',h1,stepsIn_wide.2 h2⟩
 ·exact h
 ·exact h.elim
theorem PP {l n:Nat} {md:Region.Mode} (hd:∀(i:Nat) o,ops[i]? =some o→∀c,o.op≠ .defer c) (hL:¬LetsOut Q):∀(fuel:Nat) (listed:Array Bool) (a:Act) (w:We),wpAny P md ops Q fuel listed a w→wpAnyIn (Fence.wide.inRound l) n P md ops Q fuel listed a w:=by
 intro fuel
 induction fuel with
 |zero=>exact fun listed a w h=>h
 |succ fuel ih=>
  intro listed a w h;refine⟨h.1,fun i hi=> ?_⟩;have h2:=h.2 i hi;unfold wpOp at h2;unfold wpOpIn;split
  ·rename_i ho;simp only[ho]at h2;exact ih _ _ _ h2
  ·rename_i o ho;simp only[ho]at h2;split
   ·rename_i hw;simp only[hw,if_true]at h2;rcases h2 with h2|h2
    ·exact Oper.wpIn_mono (fun a w h=>ih _ a w h) (NK (hd i o ho) h2)
    ·exact absurd h2.2 hL
   ·rename_i hw;simp only[hw]at h2;exact⟨fun _ _=>trivial,ih _ _ _ h2⟩
def noDefer (ops:Array Oper):Bool:=ops.all fun o=>match o.op with
 | .defer _=>false
 |_=>true
theorem vA (h:noDefer ops=true):∀(i:Nat) o,ops[i]? =some o→∀c,o.op≠ .defer c:=by
 intro i o ho c e;unfold noDefer at h;rw[aZ5]at h;have:=h o (Array.mem_of_getElem? ho);rw[e]at this;cases this
theorem tG {l n id:Nat} {a:Act} {w:We} (hm:P.follows .mixedOrders=true) (hd:noDefer ops=true) (hL:¬LetsOut Q)
  (h:wpAny P .any ops Q ops.size (Array.replicate ops.size false) a {w with drawn:=w.drawn+1}):(Code.region id ops true).wpIn (Fence.wide.inRound l) n P Q a w:=
 wpIn_region_any hm (PP (vA hd) hL _ _ _ _ h)
end
section
variable {P:Wl} {ops:Array Oper} {Q:Exit→Act→We→Prop} {T0:Nat→Prop} {κ:Nat→Nat} {υ:Nat→List Tmp}
theorem fZ {m n id:Nat} {a:Act} {w:We} {K:aK} (l:Wd) (hm:P.follows .mixedOrders=true) (hd:noDefer ops=true) (hL:¬LetsOut Q) (ak:qU ops κ υ l=true) (hK:bX K) (hk:K T0 w) (hlt:∀i,T0 i→i<w.heap.size)
  (h:TG P ops Q T0 w κ υ l a Bx.nil K):(Code.region id ops true).wpIn (Fence.wide.inRound m) n P Q a w:=
 tG hm hd hL (IE l ak hK ⟨T0,hK T0 w w.drew hk (Mod.refl _ w).drew,hlt,fun _ _ h=>h,(Mod.refl _ w).drew,fun _ _ hh=>by cases hh⟩ h)
theorem IU {m n id:Nat} {a:Act} {w:We} {K:aK} (l rest:Wd) (hm:P.follows .mixedOrders=true) (hd:noDefer ops=true) (hL:¬LetsOut Q) (ak:qJ ops κ υ l rest=true) (hK:bX K) (hk:K T0 w) (hlt:∀i,T0 i→i<w.heap.size)
  (h:TG P ops (fun _ a w=>TE P ops Q κ rest a w) T0 w κ υ l a Bx.nil K):(Code.region id ops true).wpIn (Fence.wide.inRound m) n P Q a w:=
 tG hm hd hL (GY l rest ak hK ⟨T0,hK T0 w w.drew hk (Mod.refl _ w).drew,hlt,fun _ _ h=>h,(Mod.refl _ w).drew,fun _ _ hh=>by cases hh⟩ h)
end
end
section
open Go.RowKit Go.Shelf
attribute [local go_sem] Oper.semAt_some aJ aC aO aL aQ aI aP Value.cells
theorem ahead_cG (s:Nat) (b:Bool) (w:We):Calls Tryz.prog 140 #[ptrV s,.bool b] w fun e w'=>e= .returned (.func (.func 158) #[] #[.pointer (some ⟨w.heap.size,0,none⟩),.pointer (some ⟨w.heap.size+1,0,none⟩)])∧w'=(w.alloc (.cells #[ptrV s] 246)).alloc (.cells #[.bool b] 4):=by
 go_enter Tryz.func140,Tryz.ntmps140;go_wp2_with fail;go_ret;exact⟨rfl,rfl⟩
def sK (R:Nat→Prop) (W W':We):Prop:=∀i,R i→W'.heap[i]? =W.heap[i]?
theorem MY {R:Nat→Prop} {A B C:We} (h:sK R A B) (k:sK R B C):sK R A C:=fun i hi=>(k i hi).trans (h i hi)
def tV (Bs Bw s:Nat) (rv:Wg) (i:Nat):Prop:=i=Bs∨i=Bw∨i=s∨rv.ownBlock=some i
def dH {α:Type} (zw:Option α) (zr:List α) (b:Bool):List α:=zw.toList++if b then zr else []
section
variable {α:Type} (f:α→Nat)
theorem yP (n l Bs Bw s:Nat) (zw:Option α) (b:Bool) (ad:Wb) (c:Nat) (J Jx:List α→We→Prop)
  (hY:∀pre x W1,J pre W1→pre.length<(dH zw [] b).length→YieldAt Fence.wide n Tryz.prog l #[ptrV (f x)] W1 fun e W'=>
   (e= .returned (.bool true)∧J (pre++[x]) W'∧sK (tV Bs Bw s (.slice ad 0 c)) W1 W')∨(e= .returned (.bool false)∧Jx (pre++[x]) W'))
  (W:We) (kb:W.heap[Bs]? =some (.cells #[ptrV s] 246 (0,0))) (kw:W.heap[Bw]? =some (.cells #[.bool b] 4 (0,0)))
  (ks:W.heap[s]? =some (.cells #[AE (zw.map f),.slice ad 0 c] 248 (0,0))) (h0:J [] W):
  CallsIn Fence.wide (n+1) Tryz.prog 158 #[.func (.yield l) #[] #[],.pointer (some ⟨Bs,0,none⟩),.pointer (some ⟨Bw,0,none⟩)] W fun e W'=>(∃v,e= .returned v)∧
   (J (dH zw [] b) W'∨∃pre,Jx pre W'):=by
 refine callsIn_of_wp Tryz.func158 rfl trivial ?_ rfl;simp only[Tryz.ntmps158,aYs,aZu,aYw,Nat.reduceAdd,Nat.reduceSub,aXd,aXc,aXo,aXj,aYq,aYg];cases b with
 |false=>
  cases zw with
  |none=>
   replace ks:W.heap[s]? =some (.cells #[.pointer none,.slice ad 0 c] 248 (0,0)):=ks
   gi_wp2
   refine⟨fun _ h=>(by cases h),?_⟩
   gi_wp2
   refine bodyPost_ret (results_none rfl _ _ _) rfl ?_;exact⟨⟨_,rfl⟩,.inl h0⟩
  |some x=>
   obtain⟨fn,tmps,assign,body,hy,hR⟩:=hY [] x W h0 (by simp[dH]);replace ks:W.heap[s]? =some (.cells #[ptrV (f x),.slice ad 0 c] 248 (0,0)):=ks
   gi_wp2
   refine hR.mono ?_;rintro e W3 (⟨rfl,hJ,jt⟩|⟨rfl,jb⟩)
   ·replace kw:=(jt Bw (.inr (.inl rfl))).trans kw
    gi_wp2
    refine bodyPost_ret (results_none rfl _ _ _) rfl ?_;exact⟨⟨_,rfl⟩,.inl hJ⟩
   ·gi_wp2
    refine bodyPost_ret (results_none rfl _ _ _) rfl ?_;exact⟨⟨_,rfl⟩,.inr ⟨_,jb⟩⟩
 |true=>
  cases zw with
  |none=>
   replace ks:W.heap[s]? =some (.cells #[.pointer none,.slice ad 0 c] 248 (0,0)):=ks
   gi_wp2
   refine⟨fun _ h=>(by cases h),?_⟩
   gi_wp2
   have hJ:=h0
   gi_loopw [29] (fun i wr=>i= .int .i64 0∧J ([]:List α) wr) (fun _ _=>0)
   case atStart=>exact⟨rfl,hJ⟩
   case round=>
    obtain⟨rfl,pk⟩:=hrel
    gi_wp2
    go_end0;exact⟨⟨_,rfl⟩,.inl pk⟩
  |some x=>
   obtain⟨fn,tmps,assign,body,hy,hR⟩:=hY [] x W h0 (by simp[dH]);replace ks:W.heap[s]? =some (.cells #[ptrV (f x),.slice ad 0 c] 248 (0,0)):=ks
   gi_wp2
   refine hR.mono ?_;rintro e W3 (⟨rfl,hJ,jt⟩|⟨rfl,jb⟩)
   ·replace kw:=(jt Bw (.inr (.inl rfl))).trans kw;replace kb:=(jt Bs (.inl rfl)).trans kb;replace ks:=(jt s (.inr (.inr (.inl rfl)))).trans ks
    gi_wp2
    gi_loopw [29] (fun i wr=>i= .int .i64 0∧J [x] wr) (fun _ _=>0)
    case atStart=>exact⟨rfl,hJ⟩
    case round=>
     obtain⟨rfl,pk⟩:=hrel
     gi_wp2
     go_end0;exact⟨⟨_,rfl⟩,.inl pk⟩
   ·gi_wp2
    refine bodyPost_ret (results_none rfl _ _ _) rfl ?_;exact⟨⟨_,rfl⟩,.inr ⟨_,jb⟩⟩
theorem yQ (n l Bs Bw s:Nat) (zw:Option α) (b:Bool) (zr:List α) (g c:Nat) (cur:Wa) (ag:zr.length≤1000000) (bx:∀(i:Nat) (x:α),zr[i]? =some x→cur[i]? =some (ptrV (f x))) (J Jx:List α→We→Prop)
  (hY:∀pre x W1,J pre W1→pre.length<(dH zw zr b).length→YieldAt Fence.wide n Tryz.prog l #[ptrV (f x)] W1 fun e W'=>
   (e= .returned (.bool true)∧J (pre++[x]) W'∧sK (tV Bs Bw s (.slice (some ⟨g,0,none⟩) zr.length c)) W1 W')∨(e= .returned (.bool false)∧Jx (pre++[x]) W'))
  (W:We) (kb:W.heap[Bs]? =some (.cells #[ptrV s] 246 (0,0))) (kw:W.heap[Bw]? =some (.cells #[.bool b] 4 (0,0)))
  (ks:W.heap[s]? =some (.cells #[AE (zw.map f),.slice (some ⟨g,0,none⟩) zr.length c] 248 (0,0))) (kg:W.heap[g]? =some (.cells cur 238 (0,0))) (h0:J [] W):
  CallsIn Fence.wide (n+1) Tryz.prog 158 #[.func (.yield l) #[] #[],.pointer (some ⟨Bs,0,none⟩),.pointer (some ⟨Bw,0,none⟩)] W fun e W'=>(∃v,e= .returned v)∧
   (J (dH zw zr b) W'∨∃pre,Jx pre W'):=by
 refine callsIn_of_wp Tryz.func158 rfl trivial ?_ rfl;simp only[Tryz.ntmps158,aYs,aZu,aYw,Nat.reduceAdd,Nat.reduceSub,aXd,aXc,aXo,aXj,aYq,aYg];have HC:=Hi bx;clear bx;cases b with
 |false=>
  cases zw with
  |none=>
   replace ks:W.heap[s]? =some (.cells #[.pointer none,.slice (some ⟨g,0,none⟩) zr.length c] 248 (0,0)):=ks
   gi_wp2
   refine⟨fun _ h=>(by cases h),?_⟩
   gi_wp2
   refine bodyPost_ret (results_none rfl _ _ _) rfl ?_;exact⟨⟨_,rfl⟩,.inl h0⟩
  |some x=>
   obtain⟨fn,tmps,assign,body,hy,hR⟩:=hY [] x W h0 (by simp[dH]);replace ks:W.heap[s]? =some (.cells #[ptrV (f x),.slice (some ⟨g,0,none⟩) zr.length c] 248 (0,0)):=ks
   gi_wp2
   refine hR.mono ?_;rintro e W3 (⟨rfl,hJ,jt⟩|⟨rfl,jb⟩)
   ·replace kw:=(jt Bw (.inr (.inl rfl))).trans kw
    gi_wp2
    refine bodyPost_ret (results_none rfl _ _ _) rfl ?_;exact⟨⟨_,rfl⟩,.inl hJ⟩
   ·gi_wp2
    refine bodyPost_ret (results_none rfl _ _ _) rfl ?_;exact⟨⟨_,rfl⟩,.inr ⟨_,jb⟩⟩
 |true=>
  cases zw with
  |none=>
   replace ks:W.heap[s]? =some (.cells #[.pointer none,.slice (some ⟨g,0,none⟩) zr.length c] 248 (0,0)):=ks
   gi_wp2
   refine⟨fun _ h=>(by cases h),?_⟩
   gi_wp2
   have hJ:=h0
   gi_loopw [29] (fun i wr=>∃k:Nat,k≤zr.length∧i= .int .i64 k∧J (([]:List α)++zr.take k) wr∧wr.heap[g]? =some (.cells cur 238 (0,0)))
    (fun i _=>zr.length-(intOf i).toNat)
   case atStart=>exact⟨0,aYf _,rfl,by simpa using hJ,kg⟩
   case round=>
    obtain⟨k,hk,rfl,pk,kg⟩:=hrel;by_cases hlt:k<zr.length
    ·have hx:zr[k]? =some zr[k]:=aZb hlt;generalize zr[k]=y at hx;have Lz:=HC.out k y hx;have HX:=Hi hx;clear hx;obtain⟨fn,tmps,assign,body,hy,hR⟩:=hY (([]:List α)++zr.take k) y wr pk (by simp[dH];omega)
     gi_wp2
     refine hR.mono ?_;rintro e W3 (⟨rfl,Ce,jt⟩|⟨rfl,jb⟩)
     ·have kg3:=(jt g (.inr (.inr (.inr rfl)))).trans kg
      gi_wp2
      go_roundw
      case rel=>exact⟨k+1,by omega,by simp,by rw[aYa,HX.out,Option.toList_some,←aZw];exact Ce,kg3⟩
      case measure=>simp[intOf];omega
     ·gi_wp2
      refine bodyPost_ret (results_none rfl _ _ _) rfl ?_;exact⟨⟨_,rfl⟩,.inr ⟨_,jb⟩⟩
    ·obtain rfl:k=zr.length:=by omega
     gi_wp2
     go_end0;refine⟨⟨_,rfl⟩,.inl ?_⟩;rw[aY5]at pk;exact pk
  |some x=>
   obtain⟨fn,tmps,assign,body,hy,hR⟩:=hY [] x W h0 (by simp[dH]);replace ks:W.heap[s]? =some (.cells #[ptrV (f x),.slice (some ⟨g,0,none⟩) zr.length c] 248 (0,0)):=ks
   gi_wp2
   refine hR.mono ?_;rintro e W3 (⟨rfl,hJ,jt⟩|⟨rfl,jb⟩)
   ·replace kw:=(jt Bw (.inr (.inl rfl))).trans kw;replace kb:=(jt Bs (.inl rfl)).trans kb;replace ks:=(jt s (.inr (.inr (.inl rfl)))).trans ks;replace kg:=(jt g (.inr (.inr (.inr rfl)))).trans kg
    gi_wp2
    gi_loopw [29] (fun i wr=>∃k:Nat,k≤zr.length∧i= .int .i64 k∧J ([x]++zr.take k) wr∧wr.heap[g]? =some (.cells cur 238 (0,0)))
     (fun i _=>zr.length-(intOf i).toNat)
    case atStart=>exact⟨0,aYf _,rfl,by simpa using hJ,kg⟩
    case round=>
     obtain⟨k,hk,rfl,pk,kg⟩:=hrel;by_cases hlt:k<zr.length
     ·have hx:zr[k]? =some zr[k]:=aZb hlt;generalize zr[k]=y at hx;have Lz:=HC.out k y hx;have HX:=Hi hx;clear hx;obtain⟨fn,tmps,assign,body,hy,hR⟩:=hY ([x]++zr.take k) y wr pk (by simp[dH];omega)
      gi_wp2
      refine hR.mono ?_;rintro e W3 (⟨rfl,Ce,jt⟩|⟨rfl,jb⟩)
      ·have kg3:=(jt g (.inr (.inr (.inr rfl)))).trans kg
       gi_wp2
       go_roundw
       case rel=>exact⟨k+1,by omega,by simp,by rw[aYa,HX.out,Option.toList_some,←aZw];exact Ce,kg3⟩
       case measure=>simp[intOf];omega
      ·gi_wp2
       refine bodyPost_ret (results_none rfl _ _ _) rfl ?_;exact⟨⟨_,rfl⟩,.inr ⟨_,jb⟩⟩
     ·obtain rfl:k=zr.length:=by omega
      gi_wp2
      go_end0;refine⟨⟨_,rfl⟩,.inl ?_⟩;rw[aY5]at pk;exact pk
   ·gi_wp2
    refine bodyPost_ret (results_none rfl _ _ _) rfl ?_;exact⟨⟨_,rfl⟩,.inr ⟨_,jb⟩⟩
theorem wM (n Bs Bw s:Nat) (zw:Option α) (zr:List α) (b:Bool) (rv:Wg) (w:We) (kb:w.heap[Bs]? =some (.cells #[ptrV s] 246 (0,0))) (kw:w.heap[Bw]? =some (.cells #[.bool b] 4 (0,0)))
  (ks:w.heap[s]? =some (.cells #[AE (zw.map f),rv] 248 (0,0))) (ho:aE pc 1 238 w 0 rv (zr.map f)) (ag:zr.length≤1000000):
  SeqStopsK Fence.wide (n+1) Tryz.prog 158 #[.pointer (some ⟨Bs,0,none⟩),.pointer (some ⟨Bw,0,none⟩)] (fun x:α=> #[ptrV (f x)]) (sK (tV Bs Bw s rv)) (fun ys=>ys=dH zw zr b) (fun _=>True) (dH zw zr b).length w:=by
 intro l J Jx W hW _ _ hY h0;have hb:∀ {i o},w.heap[i]? =some o→W.heap[i]? =some o:=fun{i o} h=>(hW.block i (aA h)).trans h;by_cases hz:zr=[]
 ·subst hz;obtain⟨ad,c,rfl,_,_,_⟩:=ho.at fN;refine(yP f n l Bs Bw s zw b ad c J Jx hY W (hb kb) (hb kw) (hb ks) h0).mono ?_;rintro e W' ⟨h1,h2⟩;exact⟨h1,h2.imp (fun h=>⟨_,rfl,h⟩) (fun⟨p,h⟩=>⟨p,trivial,h⟩)⟩
 ·obtain⟨g,c,cur,rfl,_,kg,_,_,bx,_⟩:=iN ho (by simpa using hz);simp only[aZs]at ks⊢;refine(yQ f n l Bs Bw s zw b zr g c cur ag (fun i x hx=>bx i (f x) (by simp[hx])) J Jx hY W (hb kb) (hb kw) (hb ks) (hb kg) h0).mono ?_;rintro e W' ⟨h1,h2⟩;exact⟨h1,h2.imp (fun h=>⟨_,rfl,h⟩) (fun⟨p,h⟩=>⟨p,trivial,h⟩)⟩
end
end
section
theorem sY {es:Array MapEntry} {j:Nat} {e0:MapEntry} (hn:(es.toList.map (·.born)).Nodup) (h:es.toList[j]? =some e0):es.findIdx? (fun e=>((e.born:Nat):Int)==((e0.born:Nat):Int))=some j:=by
 rw[Array.findIdx?_eq_some_iff_getElem];have hj:j<es.size:=by simpa using(aZa.1 h).1
 have he:es[j]=e0:=by
  have:=(aZa.1 h).2;simpa using this
 refine⟨hj,by simp[he],fun i hi=> ?_⟩;intro e;have rf:i<es.size:=by omega
 have e2:es[i].born=e0.born:=by
  have:=beq_iff_eq.1 e
  exact_mod_cast this
 rw[aWx,List.pairwise_iff_getElem]at hn;have:=hn i j (by simpa using rf) (by simpa using hj) hi;simp at this;exact this (by rw[e2,←he])
section
variable {κ ν:Type} [DecidableEq κ] {P:Wl} {T K E:Wh} {f:κ→Wg} {g:ν→Wg}
theorem aR.entry {es:Array MapEntry} {clock:Nat} {m:List (κ×ν)} (h:aR f g es clock m) (hk:lX P K f) (hT:P.underlying T=some (.map K E)) {z:ν} (hz:∀w,(zeroValue E).run P w= .ok (g z) w)
  (w:We) {b:Nat} (hb:w.heap[b]? =some (.map es clock)) (k:κ):
  ∃st es1 c1,(Instr.mapEntry T (.map (some b)) (f k)).run P w= .ok (.tuple #[g ((lkp k m).getD z),goInt st]) (setBlock w b (.map es1 c1))∧aR f g es1 c1 (put k ((lkp k m).getD z) m)∧
   ∀(w2:We) (x:ν),w2.heap[b]? =some (.map es1 c1)→∃es' c',(Instr.entryStore T (.map (some b)) (goInt st) (g x)).run P w2= .ok () (setBlock w2 b (.map es' c'))∧aR f g es' c' (put k x m):=by
 obtain⟨l,hl⟩:=hk.lit k;rcases h.find hk w k with⟨h1,h2⟩|⟨j,u,e,hm,he,Is,du,h1,h2⟩
 ·refine⟨clock,es.push ⟨f k,g z,clock⟩,clock+1,?_,?_,fun w2 x ny=>⟨es.push ⟨f k,g x,clock⟩,clock+1,?_,?_⟩⟩
  ·simp[Instr.mapEntry,run_underlying hT,MapKept.run_getObj_map hb,hk.law.check w _ hl,h2,h1,hz,MapKept.run_setObj_map _ hb,Result.andThen,setBlock]
  ·obtain⟨es',c',hr,M⟩:=h.update hk hT w hb k z;have e1:(Instr.mapUpdate T (.map (some b)) (f k) (g z)).run P w= .ok () (setBlock w b (.map (es.push ⟨f k,g z,clock⟩) (clock+1))):=by
    simp[Instr.mapUpdate,run_underlying hT,MapKept.run_getObj_map hb,hk.law.check w _ hl,h2,MapKept.run_setObj_map _ hb,Result.andThen,setBlock]
   rw[e1]at hr;have e2:=congrArg (fun r=>match r with| .ok _ w=>w.heap[b]? |_=>none) hr;simp only[aF w _ (aA hb)]at e2;cases e2;rw[h1];exact M
  ·have ry:(es.push ⟨f k,g z,clock⟩).findIdx? (fun e=>((e.born:Nat):Int)==((clock:Nat):Int))=some es.size:=by
    have:=sY (es:=es.push ⟨f k,g z,clock⟩) (j:=es.size) (e0:=⟨f k,g z,clock⟩) (by
     simp only[Array.toList_push,List.map_append,aZo,aYo];refine aZ7.2 ⟨h.apart,by simp,fun a ha c hc e1=> ?_⟩;simp only[aZm]at hc;obtain⟨x,hx,rfl⟩:=aZj.1 ha;have:=h.lt x hx;omega) (by simp)
    exact this
   have Jg:(es.push ⟨f k,g z,clock⟩).modify es.size (fun e=> {e with val:=g x})=es.push ⟨f k,g x,clock⟩:=by
    apply Array.ext';rw[aWw,Array.toList_push,Array.toList_push,←aYd,iL _ (e:=⟨f k,g z,clock⟩) (by simp)];simp
   simp[Instr.entryStore,MapKept.run_getObj_map ny,asInt,asIntOf,goInt,ry,Jg,MapKept.run_setObj_map _ ny,Result.andThen,setBlock]
  ·obtain⟨es',c',hr,M⟩:=h.update hk hT w hb k x;have e1:(Instr.mapUpdate T (.map (some b)) (f k) (g x)).run P w= .ok () (setBlock w b (.map (es.push ⟨f k,g x,clock⟩) (clock+1))):=by
    simp[Instr.mapUpdate,run_underlying hT,MapKept.run_getObj_map hb,hk.law.check w _ hl,h2,MapKept.run_setObj_map _ hb,Result.andThen,setBlock]
   rw[e1]at hr;have e2:=congrArg (fun r=>match r with| .ok _ w=>w.heap[b]? |_=>none) hr;simp only[aF w _ (aA hb)]at e2;cases e2;exact M
 ·have hj:es[j]? =some e:=by simpa using he
  have wj:es.modify j (fun e=> {e with key:=f k})=es:=by
   apply Array.ext';rw[aWw,iL _ he]
   have:({e with key:=f k}:MapEntry)=e:=by rw[←Is]
   rw[this];exact set_same he
  refine⟨e.born,es,clock,?_,?_,fun w2 x ny=>⟨es.modify j (fun e'=> {e' with key:=f k,val:=g x}),clock,?_,?_⟩⟩
  ·simp[Instr.mapEntry,run_underlying hT,MapKept.run_getObj_map hb,hk.law.check w _ hl,h2,hj,Is,hk.law.stays w hl,wj,MapKept.run_setObj_map _ hb,Result.andThen,setBlock,h1]
  ·rw[h1,zE,JQ h.nodup hm,set_same hm];exact h
  ·have ry:es.findIdx? (fun e'=>((e'.born:Nat):Int)==((e.born:Nat):Int))=some j:=sY h.apart he;have Jg:es.modify j (fun e=> {e with val:=g x})=es.modify j (fun e'=> {e' with key:=f k,val:=g x}):=by
    apply Array.ext';rw[aWw,aWw,iL _ he,iL _ he,←Is]
   simp[Instr.entryStore,MapKept.run_getObj_map ny,asInt,asIntOf,goInt,ry,Jg,MapKept.run_setObj_map _ ny,Result.andThen,setBlock]
  ·obtain⟨es',c',hr,M⟩:=h.update hk hT w hb k x;have e1:(Instr.mapUpdate T (.map (some b)) (f k) (g x)).run P w= .ok () (setBlock w b (.map (es.modify j (fun e'=> {e' with key:=f k,val:=g x})) clock)):=by
    simp[Instr.mapUpdate,run_underlying hT,MapKept.run_getObj_map hb,hk.law.check w _ hl,h2,hj,Is,hk.law.stays w hl,MapKept.run_setObj_map _ hb,Result.andThen,setBlock]
   rw[e1]at hr;have e2:=congrArg (fun r=>match r with| .ok _ w=>w.heap[b]? |_=>none) hr;simp only[aF w _ (aA hb)]at e2;cases e2;exact M
end
section
variable {P:Wl} {ops:Array Oper}
theorem DZ {i:Nat} {a:Act} {o:Oper} {K:Act→We→Prop} {w w':We} {T:Wh} {x y:Wm} {X Y v:Wg} {Q:Exit→Act→We→Prop} (ho:ops[i]? =some o) (hw:Region.wanted o (yielded ops a.tmps)=true)
  (aj:o.op= .mapEntry T x y) (hx:a.eval x=X) (hy:a.eval y=Y) (hr:(Instr.mapEntry T X Y).run P w= .ok v w') (h:K (a.put o.dst v) w'):wpOp P ops Q i K a w:=
 eX ho hw (by subst hx;subst hy;simp[execOp,aj,hr,Result.andThen]) h
theorem G0 {i:Nat} {a:Act} {o:Oper} {K:Act→We→Prop} {w w':We} {T:Wh} {x y:Wm} {b:Bool} {X Y v:Wg} {Q:Exit→Act→We→Prop} (ho:ops[i]? =some o) (hw:Region.wanted o (yielded ops a.tmps)=true)
  (aj:o.op= .lookup T x y b) (hx:a.eval x=X) (hy:a.eval y=Y) (hr:(Instr.lookup T X Y b).run P w= .ok v w') (h:K (a.put o.dst v) w'):wpOp P ops Q i K a w:=
 eX ho hw (by subst hx;subst hy;simp[execOp,aj,hr,Result.andThen]) h
theorem zN {i:Nat} {a:Act} {o:Oper} {K:Act→We→Prop} {w w':We} {T:Wh} {x y z:Wm} {X Y Z:Wg} {Q:Exit→Act→We→Prop} (ho:ops[i]? =some o) (hw:Region.wanted o (yielded ops a.tmps)=true)
  (aj:o.op= .entryStore T x y z) (hx:a.eval x=X) (hy:a.eval y=Y) (hz:a.eval z=Z) (hr:(Instr.entryStore T X Y Z).run P w= .ok () w') (h:K (a.put o.dst undef) w'):wpOp P ops Q i K a w:=
 l9 ho hw (by subst hx;subst hy;subst hz;simp[execOp,aj,hr,Result.andThen]) h
theorem ZL {P:Wl} {ops:Array Oper} {Q:Exit→Act→We→Prop} {i:Nat} {a:Act} {o:Oper} {K:Act→We→Prop} {w w':We} {T:Wh} {x y:Wm} {b:Bool} {X Y v:Wg} (hr:(Instr.lookup T X Y b).run P w= .ok v w') (h:K (a.put o.dst v) w') (ho:ops[i]? =some o:=by simp only[zK];rfl) (hw:Region.wanted o (yielded ops a.tmps)=true:=by rfl) (aj:o.op= .lookup T x y b:=by rfl) (hx:a.eval x=X:=by(try simp only[zM]);(try rfl)) (hy:a.eval y=Y:=by(try simp only[zM]);(try rfl)):wpOp P ops Q i K a w:=G0 ho hw aj hx hy hr h
theorem ZF {P:Wl} {ops:Array Oper} {Q:Exit→Act→We→Prop} {i:Nat} {a:Act} {o:Oper} {K:Act→We→Prop} {w w':We} {T:Wh} {x y:Wm} {X Y v:Wg} (hr:(Instr.mapEntry T X Y).run P w= .ok v w') (h:K (a.put o.dst v) w') (ho:ops[i]? =some o:=by simp only[zK];rfl) (hw:Region.wanted o (yielded ops a.tmps)=true:=by rfl) (aj:o.op= .mapEntry T x y:=by rfl) (hx:a.eval x=X:=by(try simp only[zM]);(try rfl)) (hy:a.eval y=Y:=by(try simp only[zM]);(try rfl)):wpOp P ops Q i K a w:=DZ ho hw aj hx hy hr h
theorem ZW {P:Wl} {ops:Array Oper} {Q:Exit→Act→We→Prop} {i:Nat} {a:Act} {o:Oper} {K:Act→We→Prop} {w w':We} {T:Wh} {x y z:Wm} {X Y Z:Wg} (hr:(Instr.entryStore T X Y Z).run P w= .ok () w') (h:K (a.put o.dst undef) w') (ho:ops[i]? =some o:=by simp only[zK];rfl) (hw:Region.wanted o (yielded ops a.tmps)=true:=by rfl) (aj:o.op= .entryStore T x y z:=by rfl) (hx:a.eval x=X:=by(try simp only[zM]);(try rfl)) (hy:a.eval y=Y:=by(try simp only[zM]);(try rfl)) (hz:a.eval z=Z:=by(try simp only[zM]);(try rfl)):wpOp P ops Q i K a w:=zN ho hw aj hx hy hz hr h
theorem TE.mid_setG {κ:Nat→Nat} {Q:Exit→Act→We→Prop} {r:Wd} {a:Act} {w:We} {p:Nat} {o o':Obj} (hb:w.heap[p]? =some o) (h:∀w',w'.heap[p]? =some o'→Mod (fun i=>i=p) w w'→TE P ops Q κ r a w'):TE P ops Q κ r a (setBlock w p o'):=
 h _ (aF w _ (aA hb)) (bM w p o')
theorem TE.mid_setCellG {κ:Nat→Nat} {Q:Exit→Act→We→Prop} {r:Wd} {a:Act} {w:We} {p i:Nat} {cs:Wa} {U:Wh} {fr:Nat×Nat} {v:Wg} (hb:w.heap[p]? =some (.cells cs U fr))
  (h:∀w',w'.heap[p]? =some (.cells (cs.setIfInBounds i v) U fr)→Mod (fun i=>i=p) w w'→TE P ops Q κ r a w'):TE P ops Q κ r a (w.setCell ⟨p,i,none⟩ v):=by
 rw[setCell_blk hb];exact TE.mid_setG hb h
end
end
section
section
variable {P:Wl} {ops:Array Oper} {Q:Exit→Act→We→Prop} {T0:Nat→Prop} {w0:We} {κ:Nat→Nat} {υ:Nat→List Tmp}
theorem TG.soundX (hsel:∀(j:Nat) (p:Oper) cs b,ops[j]? =some p→p.op≠ .select cs b)
  (au:∀i o,ops[i]? =some o→∀e∈o.after,Region.binds .any e=true→e.on<i) {rest:Wd} {E:Act→We→Prop} (hE:∀listed a w,cA ops listed rest→E a w→wpAny P .any ops Q rest.length listed a w):
  ∀(fuel:Nat) (l:Wd) (listed:Array Bool) (a:Act) (B:Bx) (K:aK) (w:We),l.length=fuel→(l++rest).Nodup→(∀i∈l++rest,i<ops.size)→cN ops κ υ l=true→
   (∀x∈l,∀y∈rest,x≠y∧(cU ops x).testBit y=true)→cA ops listed (l++rest)→bX K→
   RG T0 w0 B K w→TG P ops (fun _ a w=>E a w) T0 w0 κ υ l a B K→wpAny P .any ops Q (rest.length+fuel) listed a w:=by
 intro fuel
 induction fuel with
 |zero=>
  intro l listed a B K w hl hn hlt hp hb hL hK hR h;obtain rfl:l=[]:=aY2.1 hl;have Sx:E a w:=by
   cases h with|nil h=>exact h w hR
  exact hE listed a w (by simpa using hL) Sx
 |succ fuel ih=>
  intro l listed a B K w hl hn hlt hp hb hL hK hR h;refine⟨fun et=> ?_,fun i hi=> ?_⟩
  ·exfalso
   match l,hl with
   |i::l',_=>exact cF au hL hlt i i (by simp) (aZq _) et
  ·obtain⟨vj,o,ho,bm⟩:=mem_ready.1 hi;have jx:i∈l:=by
    rcases aZh.1 ((hL.mem i).2 vj)with io|io
    ·exact io
    ·exfalso;clear h
     match l,hl with
     |x::l',_=>
      have Cr:=hb x (by simp) i io;obtain⟨_,bo⟩:=(bN Cr.2).resolve_left (fun e=>Cr.1 e.symm);have jj:=bS hL.closed _ x i o ho bm bo;have ec:=aX ((hL.mem x).1 (by simp));rw[jj]at ec;cases ec
   obtain⟨pre,post,rfl⟩:=aXf jx;obtain⟨h1,h2⟩:=dW hp;have hf:=TG.front hsel ho pre a B K hK ⟨w,hR⟩ (fun x hx=>by
    have:=h1 x hx;unfold kK at this;have qf:ops[x]? =some (ops[x]'(hlt x (by simp[hx]))):=aYe _;rw[qf,ho]at this;simp only[aY4,aZy]at this;rcases this with bo|ak
    ·obtain⟨_,bo⟩:=(bN bo.2).resolve_left (fun e=>by have:=bo.1;simp[e]at this);have jj:=bS hL.closed _ x i o ho bm bo;have ec:=aX ((hL.mem x).1 (by simp[hx]));rw[jj]at ec;cases ec
    ·exact⟨_,qf,ak.1,ak.2⟩) h
   have gk:(pre++post).length=fuel:=by simp at hl⊢;omega
   have bd:((pre++post)++rest).Sublist ((pre++i::post)++rest):=List.Sublist.append_right (aYy (aYk _ _) _) _;have ii:((pre++post)++rest).Nodup:=hn.sublist bd;have cg:∀j∈(pre++post)++rest,j<ops.size:=fun j hj=>hlt j (bd.subset hj);have el:∀x∈pre++post,∀y∈rest,x≠y∧(cU ops x).testBit y=true:=fun x hx=>hb x ((aYy (aYk i post) pre).subset hx);have gz:cA ops (listed.setIfInBounds i true) ((pre++post)++rest):=by
    have:=cA.next (pre:=pre) (post:=post++rest) (i:=i) (by simpa using hL) (by simpa using hn) ho bm;simpa using this
   rcases hf.kinds with ko|ko|ko|ko
   ·obtain⟨v,hy,ht⟩:=hf.inv_val ko ho;obtain⟨T,fg⟩:=hR;exact YieldsIf.wpOp ho hy fg.mod (ih _ _ _ _ _ _ gk ii cg h2 el gz hK ⟨T,fg⟩ ht)
   ·obtain⟨hw,d,T,z,V,hd,hr,ht⟩:=hf.inv_alloc ko ho;obtain⟨U,fg⟩:=hR;have zl:RG T0 w0 (B.set w.heap.size ⟨z,T,d⟩) K (w.alloc (LB.o ⟨z,T,d⟩)):=⟨U,fg.alloc hK z T d⟩;unfold wpOp;simp only[ho,hw,if_true];refine .inl ?_;unfold Oper.wp;rw[hr.2 w];exact ih _ _ _ _ _ _ gk ii cg h2 el gz hK zl (ht _ fg.none ⟨_,zl⟩)
   ·obtain⟨hw,hd,d,T,y,p,b,aj,du,Ch,bu,hr,ht⟩:=hf.inv_store ko ho;obtain⟨U,fg⟩:=hR;unfold wpOp;simp only[ho,hw,if_true];refine .inl ?_;unfold Oper.wp;rw[hr w (fg.box p b Ch).2.2];simp only[Oper.upon,hd];exact ih _ _ _ _ _ _ gk ii cg h2 el gz hK ⟨U,fg.store hK Ch _⟩ ht
   ·obtain⟨hw,K',hE,ht⟩:=hf.inv_eff ko ho;obtain⟨U,fg⟩:=hR;exact(hE.step fg).wp ho hw fun v w' hv=>ih _ _ _ _ _ _ gk ii cg h2 el gz (hE.cl v) hv (ht v ⟨w',hv⟩)
def IS (ops:Array Oper) (rest:Wd) (i:Nat):Bool:=rest.all fun j=>j==i|| !(cU ops j).testBit i
def FL (P:Wl) (ops:Array Oper) (Q:Exit→Act→We→Prop):Nat→Wd→Act→We→Prop
 |0,_,a,w=>Q .normal a w
 |n+1,rest,a,w=>∀i∈rest,IS ops rest i=true→wpOp P ops Q i (FL P ops Q n (rest.erase i)) a w
theorem bA {rest:Wd} {a:Act} {w:We} (h:Q .normal a w):FL P ops Q 0 rest a w:=h
theorem aD {b:Bool} {p:Prop} (hf:b=false) (hb:b=true):p:=by
 rw[hf]at hb;cases hb
theorem F1 (hsel:∀(j:Nat) (p:Oper) cs b,ops[j]? =some p→p.op≠ .select cs b)
  (au:∀i o,ops[i]? =some o→∀e∈o.after,Region.binds .any e=true→e.on<i):∀(n:Nat) (rest:Wd),rest.length=n→rest.Nodup→(∀i∈rest,i<ops.size)→
  ∀(listed:Array Bool) (a:Act) (w:We),cA ops listed rest→FL P ops Q n rest a w→wpAny P .any ops Q n listed a w:=by
 intro n
 induction n with
 |zero=>
  intro rest hl hn hlt listed a w hL h;obtain rfl:=aY2.1 hl;exact TE.sound (κ:=fun _=>0) hsel au 0 [] listed a w rfl aWn (by simp) rfl hL (.nil h)
 |succ n ih=>
  intro rest hl hn hlt listed a w hL h;have aw:rest≠[]:=by intro e;rw[e]at hl;cases hl
  refine⟨fun et=> ?_,fun i hi=> ?_⟩
  ·exfalso;obtain⟨x,hx⟩:=List.exists_mem_of_ne_nil _ aw;exact cF au hL hlt x x hx (aZq _) et
  ·obtain⟨vj,o,ho,bm⟩:=mem_ready.1 hi;have io:=(hL.mem i).2 vj;have Pp:IS ops rest i=true:=by
    unfold IS;rw[aYh];intro j hj;by_cases e:j=i
    ·simp[e]
    ·cases hb:(cU ops j).testBit i with
     |false=>simp
     |true=>
      exfalso;obtain⟨_,bo⟩:=(bN hb).resolve_left (fun e'=>e e'.symm);have jj:=bS hL.closed _ j i o ho bm bo;have ec:=aX ((hL.mem j).1 hj);rw[jj]at ec;cases ec
   obtain⟨pre,post,hr⟩:=aXf io;have hN:=cA.next (pre:=pre) (post:=post) (i:=i) (by rw[←hr];exact hL) (by rw[←hr];exact hn) ho bm;have hq:(rest.erase i).Perm (pre++post):=List.Perm.cons_inv ((List.perm_cons_erase io).symm.trans (by rw[hr];exact List.perm_middle));refine wpOp_mono (fun a' w' hk=> ?_) (h i io Pp);refine ih (rest.erase i) (by rw[List.length_erase_of_mem io];omega) (hn.erase i) (fun x hx=>hlt x (List.mem_of_mem_erase hx)) _ a' w' ⟨hN.size,fun x=>(hq.mem_iff).trans (hN.mem x),hN.closed⟩ hk
def AR (ops:Array Oper) (κ:Nat→Nat) (υ:Nat→List Tmp) (l rest:Wd):Bool:=
 Region.noSelect ops&&((List.range ops.size).all fun i=>match ops[i]? with|none=>false|some o=>o.after.all fun e=> !Region.binds .any e||decide (e.on<i))&&
 (decide (rest.length+l.length=ops.size)&&((l++rest).all (fun i=>decide (i<ops.size))&&((List.range ops.size).all fun i=>(l++rest).contains i)))&&
 (decide (l++rest).Nodup&&cN ops κ υ l&&
  l.all (fun x=>rest.all fun y=> !(x==y)&&(cU ops x).testBit y))
theorem WM {a:Act} {w1:We} {K:aK} (l rest:Wd) (ak:AR ops κ υ l rest=true) (hK:bX K) (hR:RG T0 w0 Bx.nil K w1)
  (h:TG P ops (fun _ a w=>FL P ops Q rest.length rest a w) T0 w0 κ υ l a Bx.nil K):wpAny P .any ops Q ops.size (Array.replicate ops.size false) a w1:=by
 simp only[AR,aZy,aYh,decide_eq_true_eq]at ak;obtain⟨⟨⟨h1,h2⟩,h3,h4,h5⟩,⟨ct,h6⟩,h8⟩:=ak;have au:∀i o,ops[i]? =some o→∀e∈o.after,Region.binds .any e=true→e.on<i:=fun i o ho e he hb=>by
  have:=h2 i (aYu.2 (aZf.1 ho).1);rw[ho]at this;have:=aZ5.1 this e he;simpa[hb] using this
 rw[←h3];have Qv:rest.Nodup:=(aZ7.1 ct).2.1;refine TG.soundX (Region.noSelect_spec h1) au (fun listed a w hL hE=>F1 (Region.noSelect_spec h1) au rest.length rest rfl Qv (fun i hi=>h4 i (aYi _ hi)) listed a w hL hE) _ l _ a _ _ _ rfl ct h4 h6 (fun x hx y hy=> ?_) ?_ hK hR h
 ·have:=h8 x hx y hy;exact⟨by simpa using this.1,this.2⟩
 ·rw[h3];refine⟨by simp,fun i=> ?_,fun i o hi=> ?_⟩
  ·constructor
   ·intro hi;have:=h4 i hi;simp[this]
   ·intro hi
    have:i<ops.size:=by
     rcases aYt i ops.size with h'|h'
     ·exact h'
     ·simp[Nat.not_lt.2 h']at hi
    simpa using h5 i (aYu.2 this)
  ·exfalso
   have:(Array.replicate ops.size false).getD i false=false:=by
    by_cases h':i<ops.size
    ·simp[h']
    ·simp[h']
   rw[this]at hi;cases hi
theorem kI {id:Nat} {a:Act} {w:We} {K:aK} (l rest:Wd) (hm:P.follows .mixedOrders=true) (ak:AR ops κ υ l rest=true) (hK:bX K) (hk:K T0 w) (hlt:∀i,T0 i→i<w.heap.size)
  (h:TG P ops (fun _ a w=>FL P ops Q rest.length rest a w) T0 w κ υ l a Bx.nil K):(Code.region id ops true).wp P Q a w:=
 wp_region_any hm (WM l rest ak hK ⟨T0,hK T0 w w.drew hk (Mod.refl _ w).drew,hlt,fun _ _ h=>h,(Mod.refl _ w).drew,fun _ _ hh=>by cases hh⟩ h)
end
end
section
theorem pair_len {q:Nat}:∀(l:Wd) (m:Nat),l.Pairwise (·<·)→(∀x∈l,m≤x∧x<q)→l=[]∨l.length+m≤q
 |[],_,_,_=> .inl rfl
 |x::r,m,hp,h=>by
  right;rw[List.pairwise_cons]at hp;obtain⟨h1,h2⟩:=h x (by simp);rcases pair_len r (x+1) hp.2 (fun y hy=>⟨hp.1 y hy,(h y (by simp[hy])).2⟩)with e|e
  ·subst e;simp;omega
  ·simp;omega
section
variable {q:Nat} {L:List An} {N:List (Wi×Nat)} {S:List (aN×Nat)} {nd:Nat→Nr} {sp:Nat→Sr}
theorem eN.Llen (I:eN q L N S nd sp):L.length≤q:=by
 rcases pair_len (q:=q) (L.map An.pt) 0 I.pts (fun x hx=>⟨aYf _,by
  obtain⟨y,hy,rfl⟩:=aZj.1 hx;exact I.ptu y hy⟩)with e|e
 ·have:L=[]:=by simpa using e
  subst this;simp
 ·simpa using e
theorem eN.ainj (I:eN q L N S nd sp) {b c:An} (hb:b∈L) (hc:c∈L) (h:b.a=c.a):b=c:=by
 have h1:∀(L:List An),(L.map An.a).Nodup→b∈L→c∈L→b=c:=by
  intro L
  induction L with
  |nil=>intro _ h;cases h
  |cons x r ih=>
   intro hp hb hc;rw[aZo,aYc]at hp;rcases aZc.1 hb with e1|hb<;>rcases aZc.1 hc with e2|hc
   ·rw[e1,e2]
   ·exact absurd (aZj.2 ⟨c,hc,by rw[←h,e1]⟩) hp.1
   ·exact absurd (aZj.2 ⟨b,hb,by rw[h,e2]⟩) hp.1
   ·exact ih hp.2 hb hc
 exact h1 L I.ad hb hc
end
theorem mT (k:aN) (L:List An):(spotOf k L).2.length≤L.length:=by
 induction L using bB with
 |h0=>simp
 |h1 l x ih=>
  rw[spotOf_snoc,aZg];unfold stepS;split
  ·simp;omega
  ·simp
  ·simp;omega
theorem KQ (L:List An) (k:aN) (wr:Bool):(mU L k wr).length≤L.length+1:=by
 unfold mU;have:=mT k L;rw[aZg];have h1:(spotOf k L).1.toList.length≤1:=by cases(spotOf k L).1<;>simp
 split
 ·omega
 ·simp;omega
theorem mV (L:List An) (ks:List (aN×Bool)):(d7 L ks).length≤ks.length*(L.length+1):=by
 unfold d7
 induction ks with
 |nil=>simp
 |cons p r ih=>
  rw[aWe,aZg,aZu,aWh];have:=KQ L p.1 p.2;omega
theorem E5 {L:List An} {ks js:List (aN×Bool)} (h:ks.Perm js):(d7 L ks).Perm (d7 L js):=by
 unfold d7
 induction h with
 |nil=>exact .refl _
 |cons x _ ih=>rw[aWe,aWe];exact ih.append_left _
 |swap x y l=>
  simp only[aWe];rw[←aZw,←aZw];exact List.perm_append_comm.append_right _
 |trans _ _ h1 h2=>exact h1.trans h2
def VK (s:Int×Wi) (b:An):Int×Wi:=if s.1<(b.pt:Int)then((b.pt:Int),b.ch)else s
def lc (id:Wi) (E:List An):Int×Wi:=E.foldl VK (-1,id)
theorem uV (id:Wi) (E:List An) (b:An):lc id (E++[b])=VK (lc id E) b:=by simp[lc]
theorem lc_spec (id:Wi) (E:List An):E=[]∨∃b∈E,lc id E=((b.pt:Int),b.ch)∧∀c∈E,c.pt≤b.pt:=by
 induction E using bB with
 |h0=>exact .inl rfl
 |h1 l x ih=>
  right;rw[uV];unfold VK;rcases ih with rfl|⟨b,hb,h1,h2⟩
  ·refine⟨x,by simp,?_,fun c hc=> ?_⟩
   ·rw[if_pos (by simp[lc];omega)]
   ·simp at hc;rw[hc];exact aZq _
  ·rw[h1];by_cases h:(b.pt:Int)<x.pt
   ·rw[if_pos h];refine⟨x,by simp,rfl,fun c hc=> ?_⟩;rcases aZh.1 hc with hc|hc
    ·have:=h2 c hc;omega
    ·simp at hc;rw[hc];exact aZq _
   ·rw[if_neg h];refine⟨b,aZl _ hb,rfl,fun c hc=> ?_⟩;rcases aZh.1 hc with hc|hc
    ·exact h2 c hc
    ·simp at hc;rw[hc];omega
def uN (how:aN→Option Bool) (ks:List (aN×Bool)):Bool:=ks.any fun p=>match how p.1 with
 |some b=>b||p.2
 |none=>false
theorem mH {x:An} {ks:List (aN×Bool)}:uN x.how ks=true↔∃p∈ks,jP p.1 (x.how p.1) (some p.2):=by
 unfold uN;rw[aYv];refine exists_congr fun p=>and_congr_right fun _=> ?_;unfold jP;cases x.how p.1<;>simp
def eW (C:List Cn) (id:Wi) (ks:List (aN×Bool)):Wi:=((C.filter fun x=>uN x.how ks).getLast?.map Cn.ch).getD id
theorem last_split {α:Type} {p:α→Bool}:∀(L:List α),(L.filter p=[]∧∀x∈L,p x=false)∨∃X b Y,L=X++b::Y∧p b=true∧(∀y∈Y,p y=false)∧(L.filter p).getLast? =some b:=by
 intro L
 induction L using bB with
 |h0=>exact .inl ⟨rfl,fun _ h=>by cases h⟩
 |h1 l x ih=>
  by_cases h:p x=true
  ·right;refine⟨l,x,[],rfl,h,(fun _ h=>by cases h),?_⟩;rw[aZ6];simp[h]
  ·have hf:p x=false:=by simpa using h
   rcases ih with⟨h1,h2⟩|⟨X,b,Y,rfl,hb,hY,hl⟩
   ·left;refine⟨by rw[aZ6,h1];simp[hf],fun y hy=> ?_⟩;rcases aZh.1 hy with hy|hy
    ·exact h2 y hy
    ·simp at hy;rw[hy];exact hf
   ·right;refine⟨X,b,Y++[x],by simp,hb,fun y hy=> ?_,by rw[aZ6];simp[hf]at hl⊢;exact hl⟩;rcases aZh.1 hy with hy|hy
    ·exact hY y hy
    ·simp at hy;rw[hy];exact hf
theorem vE {X Y:List An} {b c:An} (h:((X++b::Y).map An.pt).Pairwise (·<·)) (hc:c∈X):c.pt<b.pt:=by
 rw[List.map_append,List.pairwise_append]at h;exact h.2.2 c.pt (aZj.2 ⟨c,hc,rfl⟩) b.pt (by simp)
section
variable {q:Nat} {L:List An} {N:List (Wi×Nat)} {S:List (aN×Nat)} {nd:Nat→Nr} {sp:Nat→Sr}
theorem eN.chain (I:eN q L N S nd sp) (id:Wi) {ks:List (aN×Bool)} {E:List An} (hE:E.Perm (d7 L ks)):(lc id E).2=eW (L.map An.cn) id ks:=by
 unfold eW;rw[List.filter_map,List.getLast?_map];have e:((fun x=>uN x.how ks)∘An.cn)=fun x:An=>uN x.how ks:=rfl;rw[e];rcases last_split (p:=fun x:An=>uN x.how ks) L with⟨h1,h2⟩|⟨X,b,Y,hL,hb,hY,hl⟩
 ·rw[h1]
  have:E=[]:=by
   cases hE0:E with
   |nil=>rfl
   |cons c r=>
    obtain⟨h3,h4⟩:=kF (hE.mem_iff.1 (show c∈E by rw[hE0];simp));have h5:=h2 c h3;rw[mH.2 h4]at h5;cases h5
  rw[this];rfl
 ·rw[hl];obtain⟨p,hp,hh⟩:=mH.1 hb;have hbE:b∈E:=by
   rw[hE.mem_iff,hL];refine x7 hp hh (fun y hy r hr dm=> ?_);have h5:=hY y hy;simp only[mH.2 ⟨r,hr,dm⟩]at h5;cases h5
  rcases lc_spec id E with h|⟨c,hc,h1,h2⟩
  ·rw[h]at hbE;cases hbE
  ·have Vn:=kF (hE.mem_iff.1 hc)
   have:c=b:=by
    have h3:=h2 b hbE;have h4:c∈X++b::Y:=hL▸Vn.1;rcases aZh.1 h4 with h5|h5
    ·have:=vE (hL▸I.pts) h5;omega
    ·rcases aZc.1 h5 with h5|h5
     ·exact h5
     ·have h6:=hY c h5;simp only[mH.2 Vn.2]at h6;cases h6
   rw[h1,this];rfl
end
structure TU (L:List An) (nd0 nd:Nat→Nr) (a:Nat) (id:Wi) (pu kb:Nat) (ks:List (aN×Bool)) (E:List An):Prop where
 old:∀b∈L,∃v,nd b.a= {nd0 b.a with nv:=v,nx:=(nd0 b.a).nx++List.replicate (E.count b) a}
 new:nd a=⟨id,(lc id E).2,pu,E.length,.slice none 0 0,[],kb,ks⟩
structure LQ (L:List An) (x:An) (D:List (aN×Bool)) (S:List (aN×Nat)) (sp:Nat→Sr):Prop where
 sn:(S.map Prod.snd).Nodup
 done:∀k,(∃h,(k,h)∈D)→∃s,lkp k S=some s∧wJ (sp s) (spotOf k (L++[x]))
 left:∀k,(∀h,(k,h)∉D)→(∀s,lkp k S=some s→wJ (sp s) (spotOf k L))∧(lkp k S=none→spotOf k L=(none,[]))
theorem TU.edge {L:List An} {nd0 nd:Nat→Nr} {a:Nat} {id:Wi} {pu kb:Nat} {ks:List (aN×Bool)} {E:List An} (h:TU L nd0 nd a id pu kb ks E) {b:An} (hb:b∈L) (ha:∀c∈L,c.a≠a) (hi:∀c∈L,c.a=b.a→c=b) (v:Wg):
  TU L nd0 (fR (fR nd b.a {nd b.a with nv:=v,nx:=(nd b.a).nx++[a]}) a {nd a with wt:=E.length+1,ch:=(lc id (E++[b])).2}) a id pu kb ks (E++[b]) where
 old c hc:=by
  obtain⟨u,hu⟩:=h.old c hc;rw[dK _ _ (ha c hc)];by_cases e:c.a=b.a
  ·obtain rfl:=hi c hc e;refine⟨v,?_⟩;rw[upd_same,hu,List.count_append];simp[aZw,List.replicate_succ']
  ·refine⟨u,?_⟩;rw[dK _ _ e,hu,List.count_append]
   have:c≠b:=fun h=>e (by rw[h]);simp[List.count_singleton,Ne.symm this]
 new:=by
  rw[upd_same,h.new,aZg];rfl
theorem snoc_split {α:Type} {L X Y:List α} {x y:α} (h:L++[x]=X++y::Y):(Y=[]∧y=x∧X=L)∨∃Y',Y=Y'++[x]∧L=X++y::Y':=by
 rcases List.eq_nil_or_concat Y with rfl|⟨Y',z,rfl⟩
 ·left;have:=List.append_inj' h rfl;exact⟨rfl,by simpa using this.2.symm,this.1.symm⟩
 ·right;rw[List.concat_eq_append,show X++y::(Y'++[z])=(X++y::Y')++[z]by simp]at h;have:=List.append_inj' h rfl;have h2:x=z:=by simpa using this.2
  exact⟨Y',by rw[List.concat_eq_append,h2],this.1⟩
theorem qI {α:Type} [BEq α] [LawfulBEq α] {l:List α} {x:α} (h:x∉l):l.count x=0:=List.count_eq_zero.2 h
theorem eN.put {q:Nat} {L:List An} {N:List (Wi×Nat)} {S S':List (aN×Nat)} {nd nd':Nat→Nr} {sp sp':Nat→Sr} (I:eN q L N S nd sp) (hq:q<900) {a kb:Nat} {id:Wi} {ks D:List (aN×Bool)} (ha:∀c∈L,c.a≠a) (dx:lkp id N=none)
  (hk:(ks.map Prod.fst).Nodup) (Gf:ks.length≤1000) (hD:D.Perm ks) (hN:TU L nd nd' a id q kb ks (d7 L D)) (hS:LQ L ⟨a,id,eW (L.map An.cn) id ks,q,ks⟩ D S' sp'):
  eN (q+1) (L++[⟨a,id,eW (L.map An.cn) id ks,q,ks⟩]) (put id a N) S' nd' sp':=by
 have af:=E5 (L:=L) hD;have ag:∀ {l:List An} (b:An),l.count b≤l.length:=fun b=>aWg;have fy:(d7 L D).length≤1000000:=by
  rw[af.length_eq];have h1:=mV L ks;have h2:=I.Llen;have h3:ks.length*(L.length+1)≤1000*1000:=Nat.mul_le_mul Gf (by omega);omega
 have Al:∀b∈L,LO (nd' b.a) b∧(nd' b.a).wt=(nd b.a).wt∧(nd' b.a).nx=(nd b.a).nx++List.replicate ((d7 L D).count b) a:=fun b hb=>by
  obtain⟨v,hv⟩:=hN.old b hb;rw[hv];exact⟨I.nds b hb,rfl,rfl⟩
 have hxa:∀y∈L,y≠(⟨a,id,eW (L.map An.cn) id ks,q,ks⟩:An):=fun y hy e=>ha y hy (by rw[e]);refine⟨?_,?_,?_,?_,by omega,?_,?_,?_,?_,hS.sn,?_,?_,?_,?_⟩
 ·rw[j6 dx,List.map_append];exact I.N.append_right _
 ·rw[List.map_append,aZ7];refine⟨I.ad,by simp,fun c hc d hd e=> ?_⟩;obtain⟨y,hy,rfl⟩:=aZj.1 hc;simp at hd;exact ha y hy (e.trans hd)
 ·rw[List.map_append,List.pairwise_append];refine⟨I.pts,by simp,fun c hc d hd=> ?_⟩;obtain⟨y,hy,rfl⟩:=aZj.1 hc;simp at hd;rw[hd];exact I.ptu y hy
 ·intro y hy;rcases aZh.1 hy with hy|hy
  ·have:=I.ptu y hy;omega
  ·simp at hy;rw[hy];simp
 ·intro y hy;rcases aZh.1 hy with hy|hy
  ·exact I.kl y hy
  ·simp at hy;rw[hy];exact Gf
 ·intro y hy;rcases aZh.1 hy with hy|hy
  ·rw[(Al y hy).2.2,aZg,aZ9];have h1:=I.nxl y hy;have h2:=ag (l:=d7 L D) y;omega
  ·simp at hy;subst hy;rw[hN.new];simp
 ·intro y hy;rcases aZh.1 hy with hy|hy
  ·exact(Al y hy).1
  ·simp at hy;subst hy;dsimp only;rw[hN.new];exact⟨rfl,I.chain id af,rfl,rfl⟩
 ·intro y hy;rcases aZh.1 hy with hy|hy
  ·exact I.kn y hy
  ·simp at hy;subst hy;exact hk
 ·intro k;by_cases hk:∃h,(k,h)∈D
  ·obtain⟨s,h1,h2⟩:=hS.done k hk;refine⟨fun s' h3=> ?_,fun h3=> ?_⟩
   ·rw[h1]at h3;cases h3;exact h2
   ·rw[h1]at h3;cases h3
  ·have cu:∀h,(k,h)∉D:=fun h hh=>hk ⟨h,hh⟩;have e:spotOf k (L++[⟨a,id,eW (L.map An.cn) id ks,q,ks⟩])=spotOf k L:=by
    rw[spotOf_snoc];unfold stepS
    have:An.how ⟨a,id,eW (L.map An.cn) id ks,q,ks⟩ k=none:=by
     unfold An.how;dsimp only;rw[eQ];intro hm;obtain⟨p,hp,rfl⟩:=aZj.1 hm;exact cu p.2 (hD.mem_iff.2 hp)
    rw[this]
   rw[e];exact hS.left k cu
 ·intro X y Y hL;rcases snoc_split hL with⟨_,rfl,rfl⟩|⟨Y',rfl,gz⟩
  ·dsimp only;rw[hN.new,af.length_eq]
  ·have hy:y∈L:=by rw[gz];simp
   rw[(Al y hy).2.1];exact I.wts X y Y' gz
 ·intro X y Y hL b hb;rcases aZh.1 hb with hb|hb
  ·rw[(Al b hb).2.2,List.count_append,List.count_replicate];rcases snoc_split hL with⟨_,rfl,rfl⟩|⟨Y',rfl,gz⟩
   ·have h0:(nd b.a).nx.count a=0:=qI (fun hm=>by
     obtain⟨z,hz,e⟩:=I.nxm b hb _ hm;exact ha z hz e)
    simp[h0,af.count_eq]
   ·have hy:y∈L:=by rw[gz];simp
    have aw:¬a=y.a:=fun e=>ha y hy e.symm;rw[I.nxs X y Y' gz b hb];simp[aw]
  ·simp at hb;subst hb;dsimp only;rw[hN.new];dsimp only;rw[List.count_nil];refine(qI fun hm=> ?_).symm;have h1:=(kF hm).1;rcases snoc_split hL with⟨_,rfl,rfl⟩|⟨Y',rfl,gz⟩
   ·exact hxa _ h1 rfl
   ·have h2:∀z,z∈X→z∈L:=fun z hz=>by rw[gz];exact aZl _ hz
    exact hxa _ (h2 _ h1) rfl
 ·intro b hb y hy;rcases aZh.1 hb with hb|hb
  ·rw[(Al b hb).2.2]at hy;rcases aZh.1 hy with hy|hy
   ·obtain⟨z,hz,e⟩:=I.nxm b hb y hy;exact⟨z,aZl _ hz,e⟩
   ·have:=aXy hy;exact⟨_,aYi _ (aZm.2 rfl),this.symm⟩
  ·simp at hb;subst hb;dsimp only at hy;rw[hN.new]at hy;cases hy
end
section
open Go.RowKit
def eO (n:Nat) (ds:List Deferred) (w:We):Prop:=∃Ds:Wd,ds=Ds.map (fun D=>({target:= .collected D,args:= #[]}:Deferred))∧Ds.Nodup∧∀D∈Ds,n≤D∧w.heap[D]? =some (.deferred (some []))
theorem eO.nil (n:Nat) (w:We):eO n [] w:=⟨[],rfl,aWn,fun _ h=>by cases h⟩
theorem eO.mod {n:Nat} {ds:List Deferred} {w w':We} {M:Nat→Prop} (h:eO n ds w) (hm:Mod M w w') (hM:∀i,w.heap[i]? =some (.deferred (some []))→¬M i):eO n ds w':=by
 obtain⟨Ds,e,h1,h2⟩:=h;exact⟨Ds,e,h1,fun D hD=>⟨(h2 D hD).1,hm.at (h2 D hD).2 (hM D (h2 D hD).2)⟩⟩
theorem eO.cons {n D:Nat} {ds:List Deferred} {w w':We} {M:Nat→Prop} (h:eO n ds w) (hm:Mod M w w') (hM:∀i,w.heap[i]? =some (.deferred (some []))→¬M i) (hn:n≤w.heap.size) (hD:w.heap.size≤D) (hk:w'.heap[D]? =some (.deferred (some []))):
  eO n (({target:= .collected D,args:= #[]}:Deferred)::ds) w':=by
 obtain⟨Ds,e,h1,h2⟩:=h;refine⟨D::Ds,by rw[e];rfl,aYc.2 ⟨fun hh=> ?_,h1⟩,fun E hE=> ?_⟩
 ·have:=aA (h2 D hh).2;omega
 ·rcases aZc.1 hE with rfl|hE
  ·exact⟨by omega,hk⟩
  ·exact⟨(h2 E hE).1,hm.at (h2 E hE).2 (hM E (h2 E hE).2)⟩
theorem eO.keeps {n:Nat} {ds:List Deferred} {w w':We} (h:eO n ds w) (hm:KeepsOthers w w'):eO n ds w':=by
 obtain⟨Ds,e,h1,h2⟩:=h;exact⟨Ds,e,h1,fun D hD=>⟨(h2 D hD).1,hm.same _ _ (h2 D hD).2 rfl⟩⟩
theorem eO.cons' {n D:Nat} {ds:List Deferred} {w w':We} (h:eO n ds w) (hm:KeepsOthers w w') (hn:n≤w.heap.size) (hD:w.heap.size≤D) (hk:w'.heap[D]? =some (.deferred (some []))):eO n (({target:= .collected D,args:= #[]}:Deferred)::ds) w':=by
 obtain⟨Ds,e,h1,h2⟩:=h;refine⟨D::Ds,by rw[e];rfl,aYc.2 ⟨fun hh=> ?_,h1⟩,fun E hE=> ?_⟩
 ·have:=aA (h2 D hh).2;omega
 ·rcases aZc.1 hE with rfl|hE
  ·exact⟨by omega,hk⟩
  ·exact⟨(h2 E hE).1,hm.same _ _ (h2 E hE).2 rfl⟩
theorem o4 (w:We) (b:Nat) (o:Obj):w.putObj b o=setBlock w b o:=rfl
theorem uX {F:Fence} {m:Nat} {P:Wl} {fn:Func} {tmps:Wa} {R:Ending→We→Prop} {n:Nat}:∀(ds:List Deferred) (w:We),eO n ds w→
  (∀w',Mod (fun i=>n≤i∧w.heap[i]? =some (.deferred (some []))) w w'→∃v,(results fn tmps).run P w'= .ok v w'∧R (.returned v) w')→LeavesInM F m P fn tmps R ds .returning w:=by
 intro ds
 induction ds with
 |nil=>exact fun w _ h=>h w (Mod.refl _ _)
 |cons d ds ih=>
  rintro w ⟨Ds,e,h1,h2⟩ h;cases Ds with
  |nil=>cases e
  |cons D Ds=>
   rw[aZo,List.cons.injEq]at e;obtain⟨rfl,e⟩:=e;rw[aYc]at h1;obtain⟨hD,hk⟩:=h2 D (by simp);refine⟨by simp,.inl ⟨D,_,rfl,run_takeDeferred hk,?_⟩⟩;have hm:Mod (fun i=>i=D) w (w.putObj D (.deferred none)):=by rw[o4];exact bM w D _
   refine ih _ ⟨Ds,e,h1.2,fun E hE=>⟨(h2 E (by simp[hE])).1,hm.at (h2 E (by simp[hE])).2 (fun e=>h1.1 (e▸hE))⟩⟩ fun w' vk=> ?_;refine h w' ((hm.mono (fun i _ e=>by rw[e];exact⟨hD,hk⟩)).then vk (fun i hi hh=>⟨hh.1,?_⟩));by_cases e:i=D
   ·rw[e];exact hk
   ·rw[←hm.block i hi e];exact hh.2
section
variable {tag tag':wA} {w w':We} {g nb sb pu:Nat} {A:Wd} {N:List (Wi×Nat)} {S:List (aN×Nat)} {nd nd':Nat→Nr} {sp:Nat→Sr}
theorem dX.nds {M:Nat→Prop} (h:dX tag w g nb sb pu A N S nd sp) (hm:Mod M w w') (hM:∀i c r,tag i=some (c,r)→M i→r≤2) (ht:∀i,i<w.heap.size→tag' i=tag i) (hx:∀c∈A,wF tag' w' c (nd' c)):dX tag' w' g nb sb pu A N S nd' sp:=by
 obtain⟨es,c,hk,M1⟩:=h.kn;obtain⟨es2,c2,jy,M2⟩:=h.ks;refine⟨hm.at h.c (fun e=> ?_),⟨es,c,hm.at hk (fun e=> ?_),M1⟩,⟨es2,c2,hm.at jy (fun e=> ?_),M2⟩,hx,fun p hp=>(h.spots p hp).mod hm (fun i r e h3 h4 hi=> ?_) ht,(ht _ (aA h.c)).trans h.tg,(ht _ (aA hk)).trans h.tnb,(ht _ (aA jy)).trans h.tsb⟩
 ·have:=hM _ _ _ h.tg e;omega
 ·have:=hM _ _ _ h.tnb e;omega
 ·have:=hM _ _ _ h.tsb e;omega
 ·have:=hM _ _ _ e hi;omega
theorem dX.turn {M:Nat→Prop} {B:Nat} (h:dX tag w g nb sb pu A N S nd sp) (hm:Mod M w w') (hM:∀i,M i→B≤i∧∀cs T,w.heap[i]? ≠some (.cells cs T (0,0))) (h1:nb<B) (h2:sb<B) (h3:∀a∈A,(nd a).kb<B):dX tag w' g nb sb pu A N S nd sp:=by
 obtain⟨es,c,hk,M1⟩:=h.kn;obtain⟨es2,c2,jy,M2⟩:=h.ks;have hc:∀ {i cs T},w.heap[i]? =some (.cells cs T (0,0))→¬M i:=fun e hi=>(hM _ hi).2 _ _ e;have hb:∀ {i},i<B→¬M i:=fun e hi=>by have:=(hM _ hi).1;omega
 have ho:∀ {v:Wg} {l:Wd},aE pc 1 238 w 0 v l→aE pc 1 238 w' 0 v l:=fun h=>h.mod hm (fun g hg=>by
  obtain⟨cur,hk⟩:=lN h hg;exact hc hk)
 refine⟨hm.at h.c (hc h.c),⟨es,c,hm.at hk (hb h1),M1⟩,⟨es2,c2,hm.at jy (hb h2),M2⟩,fun a ha=> ?_,fun p hp=> ?_,h.tg,h.tnb,h.tsb⟩
 ·have hn:=h.nodes a ha;obtain⟨es,c,hk,M'⟩:=hn.k;exact⟨hm.at hn.c (hc hn.c),ho hn.o,⟨es,c,hm.at hk (hb (h3 a ha)),M'⟩,hn.ta,hn.tk,hn.tn⟩
 ·have hs:=h.spots p hp;exact⟨hm.at hs.c (hc hs.c),ho hs.o,hs.ta,hs.tr⟩
end
theorem DK (t:Wa):t=((List.range t.size).map (fun i=>t.getD i undef)).toArray:=by
 apply Array.ext
 ·simp
 ·intro i h1 h2;simp[h1]
theorem yT (t:Wa) (h:t.size=157):∃u:Nat→Wg,(∀i,t.getD i undef=u i)∧t=(List.toArray (u 0::u 1::u 2::u 3::u 4::u 5::u 6::u 7::u 8::u 9::u 10::u 11::u 12::u 13::u 14::u 15::u 16::u 17::u 18::u 19::u 20::u 21::u 22::u 23::u 24::u 25::u 26::u 27::u 28::u 29::u 30::u 31::u 32::u 33::u 34::u 35::u 36::u 37::u 38::u 39::u 40::u 41::u 42::u 43::u 44::u 45::u 46::u 47::u 48::u 49::u 50::u 51::u 52::u 53::u 54::u 55::u 56::u 57::u 58::u 59::u 60::u 61::u 62::u 63::u 64::u 65::u 66::u 67::u 68::u 69::u 70::u 71::u 72::u 73::u 74::u 75::u 76::u 77::u 78::u 79::u 80::u 81::u 82::u 83::u 84::u 85::u 86::u 87::u 88::u 89::u 90::u 91::u 92::u 93::u 94::u 95::u 96::u 97::u 98::u 99::u 100::u 101::u 102::u 103::u 104::u 105::u 106::u 107::u 108::u 109::u 110::u 111::u 112::u 113::u 114::u 115::u 116::u 117::u 118::u 119::u 120::u 121::u 122::u 123::u 124::u 125::u 126::u 127::u 128::u 129::u 130::u 131::u 132::u 133::u 134::u 135::u 136::u 137::u 138::u 139::u 140::u 141::u 142::u 143::u 144::u 145::u 146::u 147::u 148::u 149::u 150::u 151::u 152::u 153::u 154::u 155::u 156::[])):=
 ⟨fun i=>t.getD i undef,fun _=>rfl,by
  have:=DK t;rw[h]at this;exact this⟩
def j9:Code→Option Code
 | .rangeFunc _ _ _ c=>some c
 | .loop c=>j9 c
 | .seq a b=>match j9 a with
  |some c=>some c
  |none=>j9 b
 | .block _ c=>j9 c
 | .scope c=>j9 c
 | .cond _ a b=>match j9 a with
  |some c=>some c
  |none=>j9 b
 |_=>none
def jD:Code→Option Code
 | .rangeFunc a b c d=>some (.rangeFunc a b c d)
 | .loop c=>jD c
 | .seq a b=>match jD a with
  |some c=>some c
  |none=>jD b
 | .block _ c=>jD c
 | .scope c=>jD c
 | .cond _ a b=>match jD a with
  |some c=>some c
  |none=>jD b
 |_=>none
def lP:Code→Option Code
 | .loop c=>(jD c).map fun _=>c
 | .seq a b=>match lP a with
  |some c=>some c
  |none=>lP b
 | .block _ c=>lP c
 | .scope c=>lP c
 | .cond _ a b=>match lP a with
  |some c=>some c
  |none=>lP b
 |_=>none
noncomputable def edgeBody:Code:=((Tryz.f102).body.bind j9).getD .skip
noncomputable def edgeCode:Code:=((Tryz.f102).body.bind jD).getD .skip
noncomputable def keysBody:Code:=((Tryz.f102).body.bind lP).getD .skip
end
section
open Go.RowKit Go.Shelf
attribute [local go_sem] Oper.semAt_some aO aL aQ aI aP aJ aC Value.cells
structure lV (g nb sb q:Nat) (L:List An) (a:Nat) (id:Wi) (kb:Nat) (ks:List (aN×Bool)) (N:List (Wi×Nat)) (S:List (aN×Nat)) (nd0:Nat→Nr) (sp:Nat→Sr) (b7 p10:Nat) (E:List An) (tag:wA) (nd:Nat→Nr) (W:We):Prop where
 mem:dX tag W g nb sb (q+1) (L.map An.a++[a]) N S nd sp
 ndp:TU L nd0 nd a id q kb ks E
 k7:W.heap[b7]? =some (.cells #[ptrV a] 238 (0,0))
 kl:W.heap[p10]? =some (.cells #[.int .i64 (lc id E).1] 3 (0,0))
 hlt:∀i,tag i≠none→i<W.heap.size
 n7:tag b7=none
 nl:tag p10=none
theorem qY {M:Nat→Prop} {W W':We} (hm:Mod M W W') (hM:∀i,M i→∃cs T,W.heap[i]? =some (.cells cs T (0,0))):KeepsOthers W W':=⟨hm.size,fun k o hk ho=>hm.at hk (fun h=>by
 obtain⟨cs,T,e⟩:=hM k h;rw[hk]at e;cases e;cases ho)⟩
def sU (tag:wA) (p10:Nat) (i:Nat):Prop:=i=p10∨∃c r,tag i=some (c,r)∧(r=0∨r=2)
def tS (l:Wd) (v:Wg):aK:=fun T w=>aE pc 1 238 w 0 v l∧∀g,v.ownBlock=some g→T g
theorem fG (l:Wd) (v:Wg):aH (tS l v) where
 cl:=fun T w w' h hm=>⟨h.1.mod hm (fun b hb hn=>hn (h.2 b hb)),h.2⟩
 gr:=fun T T' w hT h=>⟨h.1,fun g hg=>hT g (h.2 g hg)⟩
theorem LU {w:We} {l q:Wd} {c:Nat} {v:Wg} {a:Wb} {T:Nat→Prop} (hv:tS l v T w) (hs:aS pc 1 w a q) (hq:l.length+q.length≤1000000000000):∃v' w',(Builtin.append_ #[236,236] 236 #[v,.slice a q.length c]).run Tryz.prog w= .ok v' w'∧Mod T w w'∧tS (l++q) v' (Grow T w w') w':=by
 obtain⟨v',w',az,hO,m,hn⟩:=aE.appendB fN (c:=c) hv.1 hs hq (by omega) (aYf _) 236;refine⟨v',w',az,m.mono (fun i _ e=>hv.2 i e),hO,fun g hg=> ?_⟩;rcases hn with h|h
 ·rw[hg]at h;exact .inl (hv.2 g h.symm)
 ·rw[hg]at h;cases h;exact .inr ⟨aZq _,(hO.lt _ hg).2⟩
theorem JF {w:We} {p b:Nat} (h:w.heap[p]? =some (.cells #[ptrV b] 238 (0,0))):aS pc 1 w (some ⟨p,0,none⟩) [b]:= .inr ⟨p,0,_,_,_,rfl,h,fun i x hx=>by
 cases i with
 |zero=>
  simp at hx;subst hx;exact⟨rfl,by simp⟩
 |succ i=>simp at hx⟩
theorem wQ {w:We} {l:Wd} {p b:Nat} {v:Wg} {T:Nat→Prop} (hv:tS l v T w) (hs:w.heap[p]? =some (.cells #[ptrV b] 238 (0,0))) (hq:l.length+1≤1000000000000):∃v' w',(Builtin.append_ #[236,236] 236 #[v,.slice (some ⟨p,0,none⟩) 1 1]).run Tryz.prog w= .ok v' w'∧Mod T w w'∧tS (l++[b]) v' (Grow T w w') w':=by
 have h:=LU (c:=1) hv (JF hs) (by rw[aZx];exact hq);rw[aZx]at h;exact h
theorem ZC (b:Nat):∀w,(Instr.buildSlice 236 1 #[(0,ptrV b)]).run Tryz.prog w= .ok (.slice (some ⟨w.heap.size,0,none⟩) 1 1) (w.alloc (.cells #[ptrV b] 238)):=fun w=>by
 go_simp
theorem Z0 {w:We} {p i:Nat} {cs:Wa} {T:Wh} (h:w.heap[p]? =some (.cells cs T (0,0))) (hi:i<cs.size) (z:Int):(Instr.storeAt 3 (.pointer (some ⟨p,i,none⟩)) (.int .i64 z)).run Tryz.prog w= .ok () (w.setCell ⟨p,i,none⟩ (.int .i64 z)):=by
 have hc:w.cell? ⟨p,i,none⟩=some cs[i]:=by rw[aJ,h];simp[hi]
 have hf:w.frozen? ⟨p,i,none⟩=some false:=by
  rw[aC,h];rfl
 go_simp
theorem P9 {g nb sb q:Nat} {L:List An} {a:Nat} {id:Wi} {kb:Nat} {ks:List (aN×Bool)} {N:List (Wi×Nat)} {S:List (aN×Nat)} {nd0:Nat→Nr} {sp:Nat→Sr} {b7 p10:Nat} {E:List An} {tag:wA} {nd:Nat→Nr} {W:We} (H:lV g nb sb q L a id kb ks N S nd0 sp b7 p10 E tag nd W)
  {b:An} (hb:b∈L) (ha:∀c∈L,c.a≠a) (hi:∀c∈L,c.a=b.a→c=b) (ct:LO (nd0 b.a) b) (hpt:b.pt≤1000000) (nf:(nd0 b.a).nx.length≤900000000) (hE:E.length≤1000000) (hq:q≤1000000) (u:Nat→Wg) {l m:Nat} {Q:Exit→Act→We→Prop} (hL:¬LetsOut Q)
  (hQ:∀a' W',(∃tag' nd',lV g nb sb q L a id kb ks N S nd0 sp b7 p10 (E++[b]) tag' nd' W'∧∀i,i<W.heap.size→tag' i=tag i)→Mod (sU tag p10) W W'→KeepsOthers W W'→Q .normal a' W'):
  edgeBody.wpIn (Fence.wide.inRound l) m Tryz.prog Q ⟨(List.toArray (u 0::u 1::u 2::u 3::u 4::u 5::u 6::ptrV b7::u 8::u 9::ptrV p10::u 11::u 12::u 13::u 14::ptrV b.a::u 16::u 17::u 18::u 19::u 20::u 21::u 22::u 23::u 24::u 25::u 26::u 27::u 28::u 29::u 30::u 31::u 32::u 33::u 34::u 35::u 36::u 37::u 38::u 39::u 40::u 41::u 42::u 43::u 44::u 45::u 46::u 47::u 48::u 49::u 50::u 51::u 52::u 53::u 54::u 55::u 56::u 57::u 58::u 59::u 60::u 61::u 62::u 63::u 64::u 65::u 66::u 67::u 68::u 69::u 70::u 71::u 72::u 73::u 74::u 75::u 76::u 77::u 78::u 79::u 80::u 81::u 82::u 83::u 84::u 85::u 86::u 87::u 88::u 89::u 90::u 91::u 92::u 93::u 94::u 95::u 96::u 97::u 98::u 99::u 100::u 101::u 102::u 103::u 104::u 105::u 106::u 107::u 108::u 109::u 110::u 111::u 112::u 113::u 114::u 115::u 116::u 117::u 118::u 119::u 120::u 121::u 122::u 123::u 124::u 125::u 126::u 127::u 128::u 129::u 130::u 131::u 132::u 133::u 134::u 135::u 136::u 137::u 138::u 139::u 140::u 141::u 142::u 143::u 144::u 145::u 146::u 147::u 148::u 149::u 150::u 151::u 152::u 153::u 154::u 155::u 156::[])),[]⟩ W:=by
 obtain⟨v0,ik⟩:=H.ndp.old b hb;have hba:=ha b hb;have hX:=H.mem.nodes b.a (by simp;exact .inl ⟨b,hb,rfl⟩);have hY:=H.mem.nodes a (by simp);rw[ik]at hX;rw[H.ndp.new]at hY;obtain⟨i1,i2,i3,i4⟩:=ct;have kb1:=hX.c;have ka1:=hY.c;have ho:=hX.o;dsimp only at ho;obtain⟨ad,c0,e0,-,-,-⟩:=ho.at fN;subst e0;generalize oz:((nd0 b.a).nx++List.replicate (E.count b) a).length=ln at *;have hlnb:ln≤901000000:=by
  rw[←oz,aZg,aZ9];have:=aWg (a:=b) (l:=E);omega
 have HC:=Hi H;have HX:=Hi hX;have HY:=Hi hY;have k7:=H.k7;have kl:=H.kl;replace kb1:W.heap[b.a]? =some (.cells #[.int .i64 (nd0 b.a).id.toInt,.int .i64 (nd0 b.a).ch.toInt,.int .i64 ((nd0 b.a).pt:Int),.int .i64 ((nd0 b.a).wt:Int),.slice ad ln c0,.map (some (nd0 b.a).kb)] 244 (0,0)):=kb1;replace ka1:W.heap[a]? =some (.cells #[.int .i64 id.toInt,.int .i64 (lc id E).2.toInt,.int .i64 (q:Int),.int .i64 (E.length:Int),.slice none 0 0,.map (some kb)] 244 (0,0)):=ka1;rw[i2,i3]at kb1;clear H hX hY
 conv=>arg 4;whnf
 have nTb:¬(Value.slice ad ln c0).ownBlock=some b.a:=fun e=>by
  have h1:=HX.out.tn _ e;rw[HX.out.ta]at h1;cases h1
 have nT7:¬(Value.slice ad ln c0).ownBlock=some b7:=fun e=>by
  have h1:=HX.out.tn _ e;rw[HC.out.n7]at h1;cases h1
 have nTl:¬(Value.slice ad ln c0).ownBlock=some p10:=fun e=>by
  have h1:=HX.out.tn _ e;rw[HC.out.nl]at h1;cases h1
 have nTa:¬(Value.slice ad ln c0).ownBlock=some a:=fun e=>by
  have h1:=HX.out.tn _ e;rw[HY.out.ta]at h1;cases h1
 have n7b:b7≠b.a:=fun e=>by
  have h1:=HX.out.ta;rw[←e,HC.out.n7]at h1;cases h1
 have nlb:p10≠b.a:=fun e=>by
  have h1:=HX.out.ta;rw[←e,HC.out.nl]at h1;cases h1
 have n7a:b7≠a:=fun e=>by
  have h1:=HY.out.ta;rw[←e,HC.out.n7]at h1;cases h1
 have nla:p10≠a:=fun e=>by
  have h1:=HY.out.ta;rw[←e,HC.out.nl]at h1;cases h1
 have n7l:b7≠p10:=aB k7 kl (aM (by decide));have HP:=Hi (Ai hb (Ai ha (Ai hi (Ai ik (Ai i2 (Ai i3 (Ai i4 i1)))))));have HQ:=Hi hQ;have HO:=Hi ho;have HL:=Hi oz;clear hb ha hi ik i2 i3 i4 i1 hQ oz;generalize hlx:(nd0 b.a).nx++List.replicate (E.count b) a=LX at *;have HLX:=Hi hlx;clear hlx
 gi_wp2
 have Lkb1:=aA kb1;have Lka1:=aA ka1;have Lk7:=aA k7;have Lkl:=aA kl;refine IU (T0:=fun i=>(Value.slice ad ln c0).ownBlock=some i) (K:=tS LX (.slice ad ln c0)) (κ:=fun i=>[0,0,0,0,0,0,3,6,0,0,6].getD i 0) (υ:=fun i=>[[],[],[],[],[],[],[],[105],[],[],[]].getD i []) [0,1,2,3,4,5,6,7] [8,9,10] (by kernel_rfl) (by kernel_rfl) (by rintro⟨_,_,h⟩;exact hL ⟨_,_,h⟩) (by kernel_rfl) (fG LX (.slice ad ln c0)).cl (⟨ho,fun g hg=>hg⟩) (fun i hi=>(ho.lt i hi).2) ?_;have gK:=fG LX (.slice ad ln c0)
 iterate 4 refine Zg ?_
 (refine Zk ?_ (hy:=by intro wq ae;have kb1q:=ae.atn kb1;have ka1q:=ae.atn ka1;have k7q:=ae.atn k7;have klq:=ae.atn kl;go_simp;try with_reducible rfl));(refine Zk ?_ (hy:=by intro wq ae;have kb1q:=ae.atn kb1;have ka1q:=ae.atn ka1;have k7q:=ae.atn k7;have klq:=ae.atn kl;go_simp;try with_reducible rfl));(refine TG.bslice (by simp only[zK];rfl) rfl (by rfl) rfl rfl ?Ku (ZC a) (fun p105 hp105 _=> ?n7);(case Ku=>(simp only[aYr,aZo,aYo,zM];(try rfl)));try simp only[zL]);(refine TG.appK (X:= ?X8) (Y:= ?Y8) (tS (LX++[a])) (fG (LX++[a])) (by simp only[zK];rfl) rfl (by rfl) rfl ?Tt ?hz8 (fun T wq kq ltq ae ub=> ?y8) ?n8;(case Tt=>simp only[zM];try rfl);(case hz8=>simp only[zM];try rfl);(case y8=>(have kb1q:=ae.atn kb1;have ka1q:=ae.atn ka1;have k7q:=ae.atn k7;have klq:=ae.atn kl;have kp105:=ub.box (p:=p105) (by first|exact Bx.set_same _ _ _|(simp only[Bx.set_same];rfl)) (by first|decide|exact aZm.2 rfl|simp);dsimp only[Value.cells]at kp105;have nUp105:=(ub p105 _ (by first|exact Bx.set_same _ _ _|(simp only[Bx.set_same];rfl)) (by first|decide|exact aZm.2 rfl|simp)).1;exact wQ kq kp105 (by rw[HL.out];omega)));rintro v8 ⟨wI,TI,hI⟩;replace gK:=(fG (LX++[a])) v8;skip;(try clear hI TI wI);try simp only[zL]);refine TG.nil (fun w1 ⟨TR,hr⟩=> ?_);replace kb1:=hr.mod.atn kb1;replace ka1:=hr.mod.atn ka1;replace k7:=hr.mod.atn k7;replace kl:=hr.mod.atn kl;obtain⟨gp105,nTp105,kp105⟩:=hr.b p105;clear gK;have Ie:=hr.k.1;obtain⟨a6,c6,Tb,_⟩:=Ie.at fN;generalize ju:(LX++[a]).length=n6 at Tb;subst Tb;have nT1:∀i,(Value.slice a6 n6 c6).ownBlock=some i→(Value.slice ad ln c0).ownBlock=some i∨W.heap.size≤i:=fun i hi=>by
  rcases aYt i W.heap.size with h|h
  ·exact .inl (hr.old i h (hr.k.2 i hi))
  ·exact .inr h
 have m1:=hr.mod;have Da:=Hi (Ai Ie (Ai nT1 ju));have jr:=Hi m1;clear Ie nT1 hr m1 ju;refine Ze ?_;refine Ze ?_;refine Zz ?_;refine ZS ?_;refine ZN kb1 fun wn kb1 mS=> ?_;(try simp only[Array.setIfInBounds,zL]at kb1);(try simp only[zL]);replace kb1:wn.heap[b.a]? =some (.cells #[.int .i64 (nd0 b.a).id.toInt,.int .i64 b.ch.toInt,.int .i64 (b.pt:Int),.int .i64 ((nd0 b.a).wt:Int),.slice a6 n6 c6,.map (some (nd0 b.a).kb)] 244 (0,0)):=kb1;replace ka1:=mS.at_ne ka1 (Ne.symm hba);replace k7:=mS.at_ne k7 n7b;replace kl:=mS.at_ne kl nlb;have m2:Mod (fun i=>i=b.a∨(Value.slice ad ln c0).ownBlock=some i) W wn:=(jr.out.mono (fun _ _ e=> .inr e)).then mS (fun _ _ e=> .inl e);have HO2:=Hi (Da.out.1.mod mS (fun g hg e=>by
  rw[e]at hg;rcases Da.out.2.1 _ hg with h|h
  ·exact nTb h
  ·omega))
 have dd:=Hi m2;clear mS m2
 gi_wp2
 have mS3:Mod (fun i=>i=a) wn (wn.setCell ⟨a,3,none⟩ (.int .i64 ((E.length:Int)+1))):=(Mod.refl _ _).setCell _ (fun _=>rfl);have ka3:(wn.setCell ⟨a,3,none⟩ (.int .i64 ((E.length:Int)+1))).heap[a]? =some (.cells #[.int .i64 id.toInt,.int .i64 (lc id E).2.toInt,.int .i64 (q:Int),.int .i64 ((E.length:Int)+1),.slice none 0 0,.map (some kb)] 244 (0,0)):=by
  rw[setCell_blk ka1,aF _ _ (aA ka1)];rfl
 generalize wn.setCell ⟨a,3,none⟩ (.int .i64 ((E.length:Int)+1))=w3 at *;replace kb1:=mS3.at_ne kb1 hba;replace k7:=mS3.at_ne k7 n7a;replace kl:=mS3.at_ne kl nla;have pj:Hid (Mod (fun i=>i=a∨i=b.a∨(Value.slice ad ln c0).ownBlock=some i) W w3):=Hi ((dd.out.mono (fun _ _ e=> .inr e)).then mS3 (fun _ _ e=> .inl e));have Le:=Hi (HO2.out.mod mS3 (fun g hg e=>by
  rw[e]at hg;rcases Da.out.2.1 _ hg with h|h
  ·exact nTa h
  ·omega))
 clear mS3;have fin:∀(a':Act) (w':We),w'.heap[b.a]? =some (.cells #[.int .i64 (nd0 b.a).id.toInt,.int .i64 b.ch.toInt,.int .i64 (b.pt:Int),.int .i64 ((nd0 b.a).wt:Int),.slice a6 n6 c6,.map (some (nd0 b.a).kb)] 244 (0,0))→
   w'.heap[a]? =some (.cells #[.int .i64 id.toInt,.int .i64 (lc id (E++[b])).2.toInt,.int .i64 (q:Int),.int .i64 ((E.length:Int)+1),.slice none 0 0,.map (some kb)] 244 (0,0))→w'.heap[b7]? =some (.cells #[ptrV a] 238 (0,0))→
   w'.heap[p10]? =some (.cells #[.int .i64 (lc id (E++[b])).1] 3 (0,0))→aE pc 1 238 w' 0 (.slice a6 n6 c6) (LX++[a])→Mod (fun i=>i=p10∨i=a∨i=b.a∨(Value.slice ad ln c0).ownBlock=some i) W w'→Q .normal a' w':=by
  intro a' w' fb fa f7 fl fo fm;obtain⟨hb,ha,hi,ik,i2,i3,i4,i1⟩:=HP.out;have Ib:∀i c r,tag i=some (c,r)→(i=p10∨i=a∨i=b.a∨(Value.slice ad ln c0).ownBlock=some i)→(c=a∧r=0)∨(c=b.a∧(r=0∨r=2)):=by
   rintro i c r e (rfl|rfl|rfl|h)
   ·rw[HC.out.nl]at e;cases e
   ·rw[HY.out.ta]at e;cases e;exact .inl ⟨rfl,rfl⟩
   ·rw[HX.out.ta]at e;cases e;exact .inr ⟨rfl,.inl rfl⟩
   ·rw[HX.out.tn i h]at e;cases e;exact .inr ⟨rfl,.inr rfl⟩
  have hT:∀i,i<W.heap.size→(if W.heap.size≤i∧(Value.slice a6 n6 c6).ownBlock=some i then some (b.a,2)else tag i)=tag i:=fun i hi=>by rw[if_neg (by omega)]
  have hkb:∀ {c x es cl},tag c=some (x,1)→W.heap[c]? =some (.map es cl)→w'.heap[c]? =some (.map es cl):=fun e hk=>fm.at hk (fun h=>by
   rcases Ib _ _ _ e h with⟨_,h⟩|⟨_,h|h⟩<;>cases h)
  refine HQ.out a' w' ⟨fun i=>if W.heap.size≤i∧(Value.slice a6 n6 c6).ownBlock=some i then some (b.a,2)else tag i,_,⟨HC.out.mem.nds fm (fun i c r e h=> ?_) hT (fun c hc=> ?_),HC.out.ndp.edge hb ha hi (.slice a6 n6 c6),f7,fl,fun i hi=> ?_,?_,?_⟩,hT⟩ (fm.mono fun i _ h=> ?_) (qY fm fun i h=> ?_)
  ·rcases Ib i c r e h with⟨_,h⟩|⟨_,h|h⟩<;>omega
  ·by_cases e1:c=a
   ·rw[e1,upd_same,HC.out.ndp.new];obtain⟨es,cl,hk,M'⟩:=HY.out.k;exact⟨fa,aE.nil _ _,⟨es,cl,hkb HY.out.tk hk,M'⟩,(hT _ Lka1).trans HY.out.ta,(hT _ (aA hk)).trans HY.out.tk,fun g hg=>(by cases hg)⟩
   ·rw[dK _ _ e1];by_cases e2:c=b.a
    ·rw[e2,upd_same,ik];dsimp only;obtain⟨es,cl,hk,M'⟩:=HX.out.k;refine⟨?_,fo,⟨es,cl,hkb HX.out.tk hk,M'⟩,(hT _ Lkb1).trans HX.out.ta,(hT _ (aA hk)).trans HX.out.tk,fun g hg=> ?_⟩
     ·rw[fb,←i2,←i3]
     ·by_cases h:W.heap.size≤g
      ·simp only[if_pos (Ai h hg)]
      ·rcases Da.out.2.1 g hg with h1|h1
       ·rw[hT g (by omega)];exact HX.out.tn g h1
       ·exact absurd h1 h
    ·rw[dK _ _ e2];refine(HC.out.mem.nodes c hc).mod fm (fun i r e h3 h=> ?_) hT;rcases Ib i c r e h with⟨h,_⟩|⟨h,_⟩
     ·exact e1 h
     ·exact e2 h
  ·by_cases h:W.heap.size≤i∧(Value.slice a6 n6 c6).ownBlock=some i
   ·exact(fo.lt _ h.2).2
   ·simp only[if_neg h]at hi;exact aZd (HC.out.hlt i hi) fm.size
  ·rw[hT _ Lk7];exact HC.out.n7
  ·rw[hT _ Lkl];exact HC.out.nl
  ·rcases h with h|h|h|h
   ·exact .inl h
   ·exact .inr ⟨a,0,by rw[h];exact HY.out.ta,.inl rfl⟩
   ·exact .inr ⟨b.a,0,by rw[h];exact HX.out.ta,.inl rfl⟩
   ·exact .inr ⟨b.a,2,HX.out.tn i h,.inr rfl⟩
  ·rcases h with h|h|h|h
   ·rw[h];exact⟨_,_,HC.out.kl⟩
   ·rw[h];exact⟨_,_,HY.out.c⟩
   ·rw[h];exact⟨_,_,HX.out.c⟩
   ·obtain⟨cur,hk⟩:=lN ho h;exact⟨_,_,hk⟩
 have HF:=Hi fin;clear fin;by_cases hgt:(lc id E).1<(b.pt:Int)
 ·have hdt:=Dt hgt;have Lkb1:=aA kb1;have Lka3:=aA ka3;have Lk7:=aA k7;have Lkl:=aA kl;refine fZ (T0:=fun _=>False) (K:=fun _ _=>True) (κ:=fun i=>[0,0,0,0,0,0].getD i 0) (υ:=fun _=>[]) [0,1,2,3,4,5] (by kernel_rfl) (by kernel_rfl) (by rintro⟨_,_,h⟩;exact hL ⟨_,_,h⟩) (by kernel_rfl) (aH.true).cl (trivial) (fun _ h=>h.elim) ?_;have gK:=aH.true
  iterate 6 first|refine Zg ?_|refine Zh ?_
  refine TG.nil (fun w4 ⟨TR,hr⟩=> ?_);replace kb1:=hr.q kb1;replace ka3:=hr.q ka3;replace k7:=hr.q k7;replace kl:=hr.q kl;clear gK;have dh:lc id (E++[b])=((b.pt:Int),b.ch):=by rw[uV];unfold VK;rw[if_pos hgt]
  have gx:=Hi (pj.out.then0 hr.mod);have Ya:=Hi (Le.out.mod0 hr.mod);have Fm:=Hi dh;clear dh hr hgt hdt
  gi_wp2
  have Lkb1:=aA kb1;have Lk7:=aA k7;refine fZ (T0:=fun i=>i=p10∨i=a) (K:=fun T w=>(T p10∧w.heap[p10]? =some (.cells #[.int .i64 (lc id E).1] 3 (0,0)))∧(T a∧w.heap[a]? =some (.cells #[.int .i64 id.toInt,.int .i64 (lc id E).2.toInt,.int .i64 (q:Int),.int .i64 ((E.length:Int)+1),.slice none 0 0,.map (some kb)] 244 (0,0)))) (κ:=fun i=>[0,0,0,0,0,0,0,0,0,6,0,0,6].getD i 0) (υ:=fun _=>[]) [0,1,2,3,4,5,6,7,8,9,10,11,12] (by kernel_rfl) (by kernel_rfl) (by rintro⟨_,_,h⟩;exact hL ⟨_,_,h⟩) (by kernel_rfl) ((aH.at p10 (.cells #[.int .i64 (lc id E).1] 3 (0,0))).and (aH.at a (.cells #[.int .i64 id.toInt,.int .i64 (lc id E).2.toInt,.int .i64 (q:Int),.int .i64 ((E.length:Int)+1),.slice none 0 0,.map (some kb)] 244 (0,0)))).cl (⟨⟨.inl rfl,kl⟩,.inr rfl,ka3⟩) (fun i hi=>hi.elim (fun e=>e▸aA kl) (fun e=>e▸aA ka3)) ?_;have gK:=(aH.at p10 (.cells #[.int .i64 (lc id E).1] 3 (0,0))).and (aH.at a (.cells #[.int .i64 id.toInt,.int .i64 (lc id E).2.toInt,.int .i64 (q:Int),.int .i64 ((E.length:Int)+1),.slice none 0 0,.map (some kb)] 244 (0,0)));(refine Zk ?_ (hy:=by intro wq ae;have kb1q:=ae.atn kb1;have k7q:=ae.atn k7;go_simp;try with_reducible rfl))
  iterate 3 refine Zg ?_
  (refine Zk ?_ (hy:=by intro wq ae;have kb1q:=ae.atn kb1;have k7q:=ae.atn k7;go_simp;try with_reducible rfl))
  iterate 3 refine Zg ?_
  (refine Zk ?_ (hy:=by intro wq ae;have kb1q:=ae.atn kb1;have k7q:=ae.atn k7;go_simp;try with_reducible rfl));(refine TG.storeO (X:= ?X27) (Y:= ?Y27) (fun T w=>(T p10∧w.heap[p10]? =some (.cells #[.int .i64 (b.pt:Int)] 3 (0,0)))∧(T a∧w.heap[a]? =some (.cells #[.int .i64 id.toInt,.int .i64 (lc id E).2.toInt,.int .i64 (q:Int),.int .i64 ((E.length:Int)+1),.slice none 0 0,.map (some kb)] 244 (0,0)))) ((aH.at p10 (.cells #[.int .i64 (b.pt:Int)] 3 (0,0))).and (aH.at a (.cells #[.int .i64 id.toInt,.int .i64 (lc id E).2.toInt,.int .i64 (q:Int),.int .i64 ((E.length:Int)+1),.slice none 0 0,.map (some kb)] 244 (0,0)))) (by simp only[zK];rfl) rfl (by rfl) rfl rfl ?hx27 ?hz27 (fun T wq kq=> ?y27) (fun _=> ?n27);(case hx27=>simp only[zM];try rfl);(case hz27=>simp only[zM];try rfl);(case y27=>(obtain⟨⟨k1,k2⟩,k3,k4⟩:=kq;exact⟨_,Z0 k2 (by simp) _,(Mod.refl _ _).setCell _ (fun _=>k1),⟨k1,by rw[setCell_blk k2,aF _ _ (aA k2)];rfl⟩,k3,by rw[setCell_blk k2,dA _ _ (Ne.symm nla)];exact k4⟩));replace gK:=((aH.at p10 (.cells #[.int .i64 (b.pt:Int)] 3 (0,0))).and (aH.at a (.cells #[.int .i64 id.toInt,.int .i64 (lc id E).2.toInt,.int .i64 (q:Int),.int .i64 ((E.length:Int)+1),.slice none 0 0,.map (some kb)] 244 (0,0))));try simp only[zL])
  iterate 2 refine Zg ?_
  (refine TG.storeO (X:= ?X30) (Y:= ?Y30) (fun T w=>(T p10∧w.heap[p10]? =some (.cells #[.int .i64 (b.pt:Int)] 3 (0,0)))∧(T a∧w.heap[a]? =some (.cells #[.int .i64 id.toInt,.int .i64 b.ch.toInt,.int .i64 (q:Int),.int .i64 ((E.length:Int)+1),.slice none 0 0,.map (some kb)] 244 (0,0)))) ((aH.at p10 (.cells #[.int .i64 (b.pt:Int)] 3 (0,0))).and (aH.at a (.cells #[.int .i64 id.toInt,.int .i64 b.ch.toInt,.int .i64 (q:Int),.int .i64 ((E.length:Int)+1),.slice none 0 0,.map (some kb)] 244 (0,0)))) (by simp only[zK];rfl) rfl (by rfl) rfl rfl ?hx30 ?hz30 (fun T wq kq=> ?y30) (fun _=> ?n30);(case hx30=>simp only[zM];try rfl);(case hz30=>simp only[zM];try rfl);(case y30=>(obtain⟨⟨k1,k2⟩,k3,k4⟩:=kq;exact⟨_,Z0 k4 (by simp) _,(Mod.refl _ _).setCell _ (fun _=>k3),⟨k1,by rw[setCell_blk k4,dA _ _ nla];exact k2⟩,k3,by rw[setCell_blk k4,aF _ _ (aA k4)];rfl⟩));replace gK:=((aH.at p10 (.cells #[.int .i64 (b.pt:Int)] 3 (0,0))).and (aH.at a (.cells #[.int .i64 id.toInt,.int .i64 b.ch.toInt,.int .i64 (q:Int),.int .i64 ((E.length:Int)+1),.slice none 0 0,.map (some kb)] 244 (0,0))));try simp only[zL]);refine TG.nil (fun w5 ⟨TR,hr⟩=> ?_);replace kb1:=hr.mod.atn kb1;replace k7:=hr.mod.atn k7;clear gK;obtain⟨⟨_,f1⟩,_,f2⟩:=hr.k;have Mg:Mod (fun i=>i=p10∨i=a) w4 w5:=hr.mod;have HF5:Hid (aE pc 1 238 w5 0 (.slice a6 n6 c6) (LX++[a])∧Mod (fun i=>i=p10∨i=a∨i=b.a∨(Value.slice ad ln c0).ownBlock=some i) W w5):=Hi ⟨Ya.out.mod Mg (fun g hg e=>by
   rcases Da.out.2.1 g hg with h|h
   ·rcases e with e|e
    ·rw[e]at h;exact nTl h
    ·rw[e]at h;exact nTa h
   ·omega),(gx.out.mono (fun _ _ e=> .inr e)).then Mg (fun _ _ e=>e.elim .inl (fun e=> .inr (.inl e)))⟩
  clear hr Mg
  gi_wp2
  exact HF.out _ _ kb1 (by rw[Fm.out];exact f2) k7 (by rw[Fm.out];exact f1) HF5.out.1 HF5.out.2
 ·have hdt:=Df hgt;have Lkb1:=aA kb1;have Lka3:=aA ka3;have Lk7:=aA k7;have Lkl:=aA kl;refine fZ (T0:=fun _=>False) (K:=fun _ _=>True) (κ:=fun i=>[0,0,0,0,0,0].getD i 0) (υ:=fun _=>[]) [0,1,2,3,4,5] (by kernel_rfl) (by kernel_rfl) (by rintro⟨_,_,h⟩;exact hL ⟨_,_,h⟩) (by kernel_rfl) (aH.true).cl (trivial) (fun _ h=>h.elim) ?_;have gK:=aH.true
  iterate 6 first|refine Zg ?_|refine Zh ?_
  refine TG.nil (fun w4 ⟨TR,hr⟩=> ?_);replace kb1:=hr.q kb1;replace ka3:=hr.q ka3;replace k7:=hr.q k7;replace kl:=hr.q kl;clear gK;have dh:lc id (E++[b])=lc id E:=by rw[uV];unfold VK;rw[if_neg hgt]
  have gx:=Hi (pj.out.then0 hr.mod);have Ya:=Hi (Le.out.mod0 hr.mod);have Fm:=Hi dh;clear dh hr hgt hdt
  gi_wp2
  exact HF.out _ _ kb1 (by rw[Fm.out];exact ka3) k7 (by rw[Fm.out];exact kl) Ya.out (gx.out.mono (fun _ _ e=> .inr e))
end
section
open Go.RowKit Go.Shelf
attribute [local go_sem] Oper.semAt_some aO aL aQ aI aP aJ aC Value.cells
theorem EF {W W':We} {row:Option Nat} (hg:W.grownBy W' row):Mod (fun i=>row=some i) W W':=⟨hg.os,hg.tape,hg.output,hg.size,fun i hi hs=>hg.block i hi (fun e=>hs e.symm)⟩
structure PH (L:List An) (a:Nat) (nd0:Nat→Nr):Prop where
 ha:∀c∈L,c.a≠a
 hi:∀b∈L,∀c∈L,c.a=b.a→c=b
 nds:∀b∈L,LO (nd0 b.a) b
 pts:∀b∈L,b.pt≤1000000
 nxl:∀b∈L,(nd0 b.a).nx.length≤900000000
 len:L.length≤1000
section
variable {g nb sb q:Nat} {L:List An} {a:Nat} {id:Wi} {kb:Nat} {ks:List (aN×Bool)} {N:List (Wi×Nat)} {S:List (aN×Nat)} {nd0:Nat→Nr} {sp:Nat→Sr} {b7 p10:Nat} {E:List An} {tag:wA} {nd:Nat→Nr} {w:We}
theorem lV.kbs (H:lV g nb sb q L a id kb ks N S nd0 sp b7 p10 E tag nd w) (c:Nat) (hc:c∈L.map An.a++[a]):(nd c).kb=if c=a then kb else(nd0 c).kb:=by
 by_cases e:c=a
 ·rw[if_pos e,e,H.ndp.new]
 ·rw[if_neg e];rcases aZh.1 hc with h|h
  ·obtain⟨b,hb,rfl⟩:=aZj.1 h;obtain⟨v,hv⟩:=H.ndp.old b hb;rw[hv]
  ·exact absurd (aZm.1 h) e
theorem lV.kbl (H:lV g nb sb q L a id kb ks N S nd0 sp b7 p10 E tag nd w) (c:Nat) (hc:c∈L.map An.a++[a]):(if c=a then kb else(nd0 c).kb)<w.heap.size:=by
 rw[←H.kbs c hc];obtain⟨es,cl,hk,_⟩:=(H.mem.nodes c hc).k;exact aA hk
theorem lV.turn {M:Nat→Prop} {w':We} {B:Nat} (H:lV g nb sb q L a id kb ks N S nd0 sp b7 p10 E tag nd w) (hm:Mod M w w') (hM:∀i,M i→B≤i∧∀cs T,w.heap[i]? ≠some (.cells cs T (0,0))) (h1:nb<B) (h2:sb<B) (h3:∀c∈L.map An.a++[a],(if c=a then kb else(nd0 c).kb)<B):lV g nb sb q L a id kb ks N S nd0 sp b7 p10 E tag nd w':=
 ⟨H.mem.turn hm hM h1 h2 (fun c hc=>by rw[H.kbs c hc];exact h3 c hc),H.ndp,hm.at H.k7 (fun h=>(hM _ h).2 _ _ H.k7),hm.at H.kl (fun h=>(hM _ h).2 _ _ H.kl),fun i hi=>aZd (H.hlt i hi) hm.size,H.n7,H.nl⟩
def AM (x: {b:An//b∈L}):Nat:=x.1.a
theorem YQ (H:lV g nb sb q L a id kb ks N S nd0 sp b7 p10 E tag nd w) (hf:PH L a nd0) (hE:E.length≤900000) (hq:q≤1000000) {zw:Option {b:An//b∈L}} {zr:List {b:An//b∈L}} {wr:Bool} {Bs Bw s:Nat} {rv:Wg}
  (kB:w.heap[Bs]? =some (.cells #[ptrV s] 246 (0,0))) (kw:w.heap[Bw]? =some (.cells #[.bool wr] 4 (0,0))) (ksp:w.heap[s]? =some (.cells #[AE (zw.map AM),rv] 248 (0,0))) (ho:aE pc 1 238 w 0 rv (zr.map AM)) (ag:zr.length≤1000)
  (hBs:tag Bs=none) (hBw:tag Bw=none) (nBs:Bs≠p10) (nBw:Bw≠p10) (ij:tag s=some (s,3)) (yd:∀g,rv.ownBlock=some g→tag g=some (s,4)) (u:Nat→Wg) (ds:List Deferred) {Q:Exit→Act→We→Prop}
  (ie:∀D W tag' nd',w.heap.size≤D→W.heap[D]? =some (.deferred (some []))→lV g nb sb q L a id kb ks N S nd0 sp b7 p10 (E++(dH zw zr wr).map (·.1)) tag' nd' W→(∀i,i<w.heap.size→tag' i=tag i)→Mod (sU tag p10) w W→KeepsOthers w W→Q .normal ⟨(List.toArray (u 0::u 1::u 2::u 3::u 4::u 5::u 6::ptrV b7::u 8::u 9::ptrV p10::u 11::u 12::u 13::u 14::u 15::u 16::u 17::u 18::u 19::u 20::u 21::u 22::u 23::u 24::u 25::u 26::u 27::u 28::u 29::u 30::u 31::u 32::u 33::u 34::u 35::u 36::u 37::u 38::u 39::u 40::u 41::u 42::u 43::u 44::u 45::u 46::u 47::u 48::u 49::u 50::u 51::u 52::u 53::u 54::u 55::u 56::u 57::u 58::u 59::u 60::u 61::u 62::u 63::u 64::u 65::u 66::u 67::u 68::u 69::u 70::u 71::u 72::u 73::u 74::u 75::u 76::u 77::u 78::u 79::u 80::u 81::u 82::u 83::u 84::u 85::u 86::u 87::u 88::u 89::u 90::u 91::u 92::u 93::u 94::u 95::u 96:: .func (.func 158) #[] #[.pointer (some ⟨Bs,0,none⟩),.pointer (some ⟨Bw,0,none⟩)]::u 98::u 99::u 100::u 101::u 102::u 103::u 104::u 105::u 106::u 107::u 108::u 109::u 110::u 111::u 112::u 113::u 114::u 115::u 116::u 117::u 118::u 119::u 120::u 121::u 122::u 123::u 124::u 125::u 126::u 127::u 128::u 129::u 130::u 131::u 132::u 133::u 134::u 135::u 136::u 137::u 138::u 139::u 140::u 141::u 142::u 143::u 144::u 145::u 146::u 147::u 148::u 149::u 150::u 151::u 152::u 153::u 154::u 155::u 156::[])),{target:= .collected D,args:= #[]}::ds⟩ W):
  edgeCode.wp Tryz.prog Q ⟨(List.toArray (u 0::u 1::u 2::u 3::u 4::u 5::u 6::ptrV b7::u 8::u 9::ptrV p10::u 11::u 12::u 13::u 14::u 15::u 16::u 17::u 18::u 19::u 20::u 21::u 22::u 23::u 24::u 25::u 26::u 27::u 28::u 29::u 30::u 31::u 32::u 33::u 34::u 35::u 36::u 37::u 38::u 39::u 40::u 41::u 42::u 43::u 44::u 45::u 46::u 47::u 48::u 49::u 50::u 51::u 52::u 53::u 54::u 55::u 56::u 57::u 58::u 59::u 60::u 61::u 62::u 63::u 64::u 65::u 66::u 67::u 68::u 69::u 70::u 71::u 72::u 73::u 74::u 75::u 76::u 77::u 78::u 79::u 80::u 81::u 82::u 83::u 84::u 85::u 86::u 87::u 88::u 89::u 90::u 91::u 92::u 93::u 94::u 95::u 96:: .func (.func 158) #[] #[.pointer (some ⟨Bs,0,none⟩),.pointer (some ⟨Bw,0,none⟩)]::u 98::u 99::u 100::u 101::u 102::u 103::u 104::u 105::u 106::u 107::u 108::u 109::u 110::u 111::u 112::u 113::u 114::u 115::u 116::u 117::u 118::u 119::u 120::u 121::u 122::u 123::u 124::u 125::u 126::u 127::u 128::u 129::u 130::u 131::u 132::u 133::u 134::u 135::u 136::u 137::u 138::u 139::u 140::u 141::u 142::u 143::u 144::u 145::u 146::u 147::u 148::u 149::u 150::u 151::u 152::u 153::u 154::u 155::u 156::[])),ds⟩ w:=by
 have hR:∀i,tV Bs Bw s rv i→i<w.heap.size∧¬sU tag p10 i:=by
  rintro i (rfl|rfl|rfl|h)
  ·exact⟨aA kB,fun h=>h.elim nBs (fun⟨c,r,e,_⟩=>by rw[hBs]at e;cases e)⟩
  ·exact⟨aA kw,fun h=>h.elim nBw (fun⟨c,r,e,_⟩=>by rw[hBw]at e;cases e)⟩
  ·refine⟨aA ksp,fun h=>h.elim (fun e=> ?_) (fun⟨c,r,e,h⟩=> ?_)⟩
   ·rw[e,H.nl]at ij;cases ij
   ·rw[ij]at e;cases e;omega
  ·refine⟨(ho.lt i h).2,fun h1=>h1.elim (fun e=> ?_) (fun⟨c,r,e,h2⟩=> ?_)⟩
   ·have:=yd i h;rw[e,H.nl]at this;cases this
   ·rw[yd i h]at e;cases e;omega
 have Vk:(dH zw zr wr).length≤1001:=by
  unfold dH
  have:zw.toList.length≤1:=by cases zw<;>simp
  rw[aZg];split<;>simp<;>omega
 have wi:nb<w.heap.size:=by obtain⟨es,c,hk,_⟩:=H.mem.kn;exact aA hk
 have Rz:sb<w.heap.size:=by obtain⟨es,c,hk,_⟩:=H.mem.ks;exact aA hk
 conv=>arg 2;whnf
 refine wpIn_wide.1 (wpIn_rangeFunc_ownG (n:=2) rfl (by omega) (gf:=158) (lb:= #[.pointer (some ⟨Bs,0,none⟩),.pointer (some ⟨Bw,0,none⟩)]) rfl trivial (enters_of Tryz.func158 (by kernel_rfl) rfl)
  (wM AM 0 Bs Bw s zw zr wr rv w kB kw ksp ho (by omega)) MY (fun W l o o' hl hk _ _ i hi=>World.putObj_heap_other (by have:=(hR i hi).1;omega)) (Below.refl _ _) (fun _=>rfl)
  (fun pre W=>∃tag' nd',lV g nb sb q L a id kb ks N S nd0 sp b7 p10 (E++pre.map (·.1)) tag' nd' W∧(∀i,i<w.heap.size→tag' i=tag i)∧Mod (sU tag p10) w W∧KeepsOthers w W)
  (fun _ _ _=>False) ?own (fun _ _ _ _ _ hs _ _=>hs) ⟨tag,nd,by rw[aYo,aYx];exact H,fun _ _=>rfl,Mod.refl _ _,KeepsOthers.refl _⟩
  (fun x=>⟨(List.toArray (u 0::u 1::u 2::u 3::u 4::u 5::u 6::ptrV b7::u 8::u 9::ptrV p10::u 11::u 12::u 13::u 14::ptrV x.1.a::u 16::u 17::u 18::u 19::u 20::u 21::u 22::u 23::u 24::u 25::u 26::u 27::u 28::u 29::u 30::u 31::u 32::u 33::u 34::u 35::u 36::u 37::u 38::u 39::u 40::u 41::u 42::u 43::u 44::u 45::u 46::u 47::u 48::u 49::u 50::u 51::u 52::u 53::u 54::u 55::u 56::u 57::u 58::u 59::u 60::u 61::u 62::u 63::u 64::u 65::u 66::u 67::u 68::u 69::u 70::u 71::u 72::u 73::u 74::u 75::u 76::u 77::u 78::u 79::u 80::u 81::u 82::u 83::u 84::u 85::u 86::u 87::u 88::u 89::u 90::u 91::u 92::u 93::u 94::u 95::u 96:: .func (.func 158) #[] #[.pointer (some ⟨Bs,0,none⟩),.pointer (some ⟨Bw,0,none⟩)]::ptrV x.1.a::u 99::u 100::u 101::u 102::u 103::u 104::u 105::u 106::u 107::u 108::u 109::u 110::u 111::u 112::u 113::u 114::u 115::u 116::u 117::u 118::u 119::u 120::u 121::u 122::u 123::u 124::u 125::u 126::u 127::u 128::u 129::u 130::u 131::u 132::u 133::u 134::u 135::u 136::u 137::u 138::u 139::u 140::u 141::u 142::u 143::u 144::u 145::u 146::u 147::u 148::u 149::u 150::u 151::u 152::u 153::u 154::u 155::u 156::[])),[]⟩) ?assign ?body ?done ?stop)
 case own=>
  rintro pre W W' row ⟨tag',nd',H1,h2,h3,Hx⟩ hg hr;have hm:=EF hg;refine⟨tag',nd',H1.turn (B:=w.heap.size) hm (fun i e=> ?_) wi Rz H.kbl,h2,h3.then hm (fun i hi e=> ?_),⟨aYb Hx.size hm.size,fun k o hk ho=>hm.at (Hx.same k o hk ho) (fun e=>by have:=(hr k e).1;have:=aA hk;omega)⟩⟩
  ·obtain⟨h4,o,ho,hc⟩:=hr i e;exact⟨h4,fun cs T h5=>by rw[ho]at h5;cases h5;cases hc⟩
  ·have:=(hr i e).1;omega
 case assign=>
  intro l x W K hK
  gi_wp2
  exact hK
 case body=>
  rintro l pre x W ⟨tag',nd',H1,h2,h3,Hx⟩ hlt;refine P9 H1 x.2 hf.ha (hf.hi x.1 x.2) (hf.nds _ x.2) (hf.pts _ x.2) (hf.nxl _ x.2) (by rw[aZg,aZs];omega) hq (fun i=>if i=98 then ptrV x.1.a else if i=97 then .func (.func 158) #[] #[.pointer (some ⟨Bs,0,none⟩),.pointer (some ⟨Bw,0,none⟩)]else u i) (fun⟨_,_,h⟩=>h) ?_;rintro a' W' ⟨tag'',nd'',H2,h4⟩ h5 h6;have h7:Mod (sU tag p10) w W':=h3.then h5 (fun i hi h=>h.imp _root_.id (fun⟨c,r,e,h⟩=>⟨c,r,by rw[←h2 i hi];exact e,h⟩));refine⟨h6.from _,fun i hi=> ?_,tag'',nd'',by rw[List.map_append,←aZw];exact H2,fun i hi=>(h4 i (aZd hi h3.size)).trans (h2 i hi),h7,Hx.trans h6⟩;obtain⟨r1,r2⟩:=hR i hi;rw[h7.block i r1 r2,h3.block i r1 r2]
 case done=>
  rintro D xs W hD rfl ⟨tag',nd',H1,h2,h3,Hx⟩ hK;exact ie D W tag' nd' hD hK H1 h2 h3 Hx
 case stop=>
  rintro D c pre W hD _ h _;exact h.elim
theorem YP (H:lV g nb sb q L a id kb ks N S nd0 sp b7 p10 E tag nd w) (hf:PH L a nd0) (hE:E.length≤900000) (hq:q≤1000000) {zw:Option {b:An//b∈L}} {zr:List {b:An//b∈L}} {wr:Bool} {Bs Bw s:Nat} {rv:Wg}
  (kB:w.heap[Bs]? =some (.cells #[ptrV s] 246 (0,0))) (kw:w.heap[Bw]? =some (.cells #[.bool wr] 4 (0,0))) (ksp:w.heap[s]? =some (.cells #[AE (zw.map AM),rv] 248 (0,0))) (ho:aE pc 1 238 w 0 rv (zr.map AM)) (ag:zr.length≤1000)
  (hBs:tag Bs=none) (hBw:tag Bw=none) (nBs:Bs≠p10) (nBw:Bw≠p10) (ij:tag s=some (s,3)) (yd:∀g,rv.ownBlock=some g→tag g=some (s,4)) {Q:Exit→Act→We→Prop} (act:Act) (hn:act.tmps.size=157) (h7:act.tmps.getD 7 undef=ptrV b7) (h10:act.tmps.getD 10 undef=ptrV p10)
  (h97:act.tmps.getD 97 undef= .func (.func 158) #[] #[.pointer (some ⟨Bs,0,none⟩),.pointer (some ⟨Bw,0,none⟩)])
  (ie:∀D W tag' nd',w.heap.size≤D→W.heap[D]? =some (.deferred (some []))→lV g nb sb q L a id kb ks N S nd0 sp b7 p10 (E++(dH zw zr wr).map (·.1)) tag' nd' W→(∀i,i<w.heap.size→tag' i=tag i)→Mod (sU tag p10) w W→KeepsOthers w W→Q .normal ⟨act.tmps,{target:= .collected D,args:= #[]}::act.defers⟩ W):
  edgeCode.wp Tryz.prog Q act w:=by
 obtain⟨t,ds⟩:=act;dsimp only at hn h7 h10 h97 ie;obtain⟨u,hu,e⟩:=yT t hn;rw[hu]at h7 h10 h97;rw[h7,h10,h97]at e;subst e;exact YQ H hf hE hq kB kw ksp ho ag hBs hBw nBs nBw ij yd u ds ie
end
end
section
open Go.RowKit Go.Shelf
theorem uY {κ ν:Type} [DecidableEq κ] {S:List (κ×ν)} (h:(S.map Prod.snd).Nodup) {j k:κ} {s:ν} (hj:lkp j S=some s) (hk:lkp k S=some s):j=k:=by
 replace hj:=cP hj;replace hk:=cP hk
 induction S with
 |nil=>cases hj
 |cons p r ih=>
  rw[aZo,aYc]at h;rcases aZc.1 hj with e1|hj<;>rcases aZc.1 hk with e2|hk
  ·rw[←e1]at e2;cases e2;rfl
  ·exact absurd (aZj.2 ⟨_,hk,by rw[←e1]⟩) h.1
  ·exact absurd (aZj.2 ⟨_,hj,by rw[←e2]⟩) h.1
  ·exact ih h.2 hj hk
section
variable {L:List An} {x:An} {D:List (aN×Bool)} {S:List (aN×Nat)} {sp:Nat→Sr}
theorem LQ.fresh (h:LQ L x D S sp) {k:aN} {s:Nat} (hk:lkp k S=none) (hs:∀p∈S,p.2≠s):LQ L x D (put k s S) (fR sp s ⟨none,.slice none 0 0,[]⟩):=by
 have hD:∀h',(k,h')∉D:=fun h' hh=>by
  obtain⟨s',h1,_⟩:=h.done k ⟨h',hh⟩;rw[hk]at h1;cases h1
 have aw:∀ {j s'},lkp j S=some s'→s'≠s:=fun hj=>hs _ (cP hj);refine⟨?_,fun j hj=> ?_,fun j hj=> ?_⟩
 ·rw[j6 hk,List.map_append];refine aZ7.2 ⟨h.sn,by simp,fun y hy z hz e=> ?_⟩;obtain⟨p,hp,rfl⟩:=aZj.1 hy;simp at hz;exact hs p hp (e.trans hz)
 ·obtain⟨s',h1,h2⟩:=h.done j hj;have vz:j≠k:=fun e=>by rw[e,hk]at h1;cases h1
  exact⟨s',by rw[i9 vz,h1],by rw[dK _ _ (aw h1)];exact h2⟩
 ·obtain⟨h1,h2⟩:=h.left j hj;by_cases vz:j=k
  ·subst vz;rw[cH];refine⟨fun s' e=> ?_,fun e=>by cases e⟩;cases e;rw[upd_same,h2 hk];exact⟨rfl,rfl⟩
  ·rw[i9 vz];exact⟨fun s' e=>by rw[dK _ _ (aw e)];exact h1 s' e,h2⟩
theorem LQ.step (h:LQ L x D S sp) {k:aN} {b:Bool} {s:Nat} {X:Sr} (hk:lkp k S=some s) (hX:wJ X (spotOf k (L++[x]))):LQ L x (D++[(k,b)]) S (fR sp s X):=by
 refine⟨h.sn,fun j hj=> ?_,fun j hj=> ?_⟩
 ·by_cases vz:j=k
  ·subst vz;exact⟨s,hk,by rw[upd_same];exact hX⟩
  ·obtain⟨h',hj⟩:=hj
   have:(j,h')∈D:=by
    rcases aZh.1 hj with hj|hj
    ·exact hj
    ·simp at hj;exact absurd hj.1 vz
   obtain⟨s',h1,h2⟩:=h.done j ⟨h',this⟩
   have:s'≠s:=fun e=>vz (uY h.sn h1 (e▸hk));exact⟨s',h1,by rw[dK _ _ this];exact h2⟩
 ·have vz:j≠k:=fun e=>hj b (by rw[e];simp);obtain⟨h1,h2⟩:=h.left j (fun h' hh=>hj h' (aZl _ hh));refine⟨fun s' e=> ?_,h2⟩
  have:s'≠s:=fun e2=>vz (uY h.sn e (e2▸hk));rw[dK _ _ this];exact h1 s' e
end
theorem x8 {α:Type} {p:α→Prop}:∀(l:List α),(∀x∈l,p x)→∃l':List {x//p x},l'.map (·.1)=l
 |[],_=>⟨[],rfl⟩
 |x::r,h=>by
  obtain⟨l',e⟩:=x8 r (fun y hy=>h y (by simp[hy]));exact⟨⟨x,h x (by simp)⟩::l',by simp[e]⟩
theorem N8 {α:Type} {p:α→Prop} (o:Option α) (h:∀x,o=some x→p x):∃o':Option {x//p x},o'.map (·.1)=o:=by
 cases o with
 |none=>exact⟨none,rfl⟩
 |some x=>exact⟨some ⟨x,h x rfl⟩,rfl⟩
theorem DH (L:List An) (k:aN):∃(zw:Option {b:An//b∈L}) (zr:List {b:An//b∈L}),zw.map AM=(spotOf k L).1.map An.a∧zr.map AM=(spotOf k L).2.map An.a∧zr.length≤L.length∧∀h,(dH zw zr h).map (·.1)=mU L k h:=by
 obtain⟨zw,e1⟩:=N8 (p:=fun b=>b∈L) (spotOf k L).1 (fun x hx=>(spotOf_writer hx).1);obtain⟨zr,e2⟩:=x8 (p:=fun b=>b∈L) (spotOf k L).2 (fun x hx=>(dN hx).1);refine⟨zw,zr,?_,?_,?_,fun h=> ?_⟩
 ·rw[←e1,Option.map_map];rfl
 ·rw[←e2,aX0];rfl
 ·have:=congrArg List.length e2;rw[aZs]at this;rw[this];exact mT k L
 ·unfold dH mU;rw[List.map_append,←e1,←e2];congr 1
  ·cases zw<;>rfl
  ·cases h<;>simp
section
variable {g nb sb q:Nat} {L:List An} {a:Nat} {id:Wi} {kb:Nat} {ks:List (aN×Bool)} {N:List (Wi×Nat)} {S:List (aN×Nat)} {nd0:Nat→Nr} {sp:Nat→Sr} {b7 p10:Nat} {E:List An} {tag tag':wA} {nd:Nat→Nr} {w w':We}
theorem lV.mod {M:Nat→Prop} (H:lV g nb sb q L a id kb ks N S nd0 sp b7 p10 E tag nd w) (hm:Mod M w w') (hM:∀i,tag i≠none→¬M i) (h7:¬M b7) (hl:¬M p10):lV g nb sb q L a id kb ks N S nd0 sp b7 p10 E tag nd w':=
 ⟨H.mem.mod hm hM,H.ndp,hm.at H.k7 h7,hm.at H.kl hl,fun i hi=>aZd (H.hlt i hi) hm.size,H.n7,H.nl⟩
theorem lV.mod0 (H:lV g nb sb q L a id kb ks N S nd0 sp b7 p10 E tag nd w) (hm:Mod (fun _=>False) w w'):lV g nb sb q L a id kb ks N S nd0 sp b7 p10 E tag nd w':=H.mod hm (fun _ _ h=>h) (fun h=>h) (fun h=>h)
theorem lV.spot {M:Nat→Prop} {s:Nat} {X:Sr} (H:lV g nb sb q L a id kb ks N S nd0 sp b7 p10 E tag nd w) (hm:Mod M w w') (hM:∀i c r,tag i=some (c,r)→M i→c=s∧3≤r∧r≤4) (h7:¬M b7) (hl:¬M p10) (ht:∀i,i<w.heap.size→tag' i=tag i) (hx:DD tag' w' s X)
  (hlt:∀i,tag' i≠none→i<w'.heap.size):lV g nb sb q L a id kb ks N S nd0 (fR sp s X) b7 p10 E tag' nd w':=
 ⟨H.mem.spot hm hM ht hx,H.ndp,hm.at H.k7 h7,hm.at H.kl hl,hlt,(ht _ (aA H.k7)).trans H.n7,(ht _ (aA H.kl)).trans H.nl⟩
theorem lV.fresh {M:Nat→Prop} {s:Nat} {k:aN} (H:lV g nb sb q L a id kb ks N S nd0 sp b7 p10 E tag nd w) (hm:Mod M w w') (hM:∀i,M i→i=sb) (hs:w.heap.size≤s) (hk:lkp k S=none)
  (ks':w'.heap[s]? =some (.cells #[.pointer none,.slice none 0 0] 248 (0,0))) (hS:∃es c,w'.heap[sb]? =some (.map es c)∧aR kv ptrV es c (put k s S)):
  lV g nb sb q L a id kb ks N (put k s S) nd0 (fR sp s ⟨none,.slice none 0 0,[]⟩) b7 p10 E (fR tag s (some (s,3))) nd w':=by
 have hlt:∀i,tag i≠none→i≠s:=fun i hi e=>by have:=H.hlt i hi;omega
 have ht:∀i,i<w.heap.size→fR tag s (some (s,3)) i=tag i:=fun i hi=>dK _ _ (by omega);have hn:∀i c r,tag i=some (c,r)→(c,r)≠(g,7)→¬M i:=fun i c r e aw hi=>by
  rw[hM i hi,H.mem.tsb]at e;cases e;exact aw rfl
 obtain⟨es,c,Px,M1⟩:=H.mem.kn;obtain⟨es2,c2,jy,M2⟩:=hS;have fu:=aA ks';refine⟨⟨hm.at H.mem.c (hn _ _ _ H.mem.tg (by simp)),⟨es,c,hm.at Px (hn _ _ _ H.mem.tnb (by simp)),M1⟩,⟨es2,c2,jy,M2⟩,fun c hc=>(H.mem.nodes c hc).mod hm (fun i r e hr=>hn i _ _ e (by simp;omega)) ht,fun p hp=> ?_,(ht _ (aA H.mem.c)).trans H.mem.tg,(ht _ (aA Px)).trans H.mem.tnb,?_⟩,H.ndp,hm.at H.k7 (fun h=> ?_),hm.at H.kl (fun h=> ?_),fun i hi=> ?_,(ht _ (aA H.k7)).trans H.n7,(ht _ (aA H.kl)).trans H.nl⟩
 ·rw[j6 hk]at hp;rcases aZh.1 hp with hp|hp
  ·have h0:=H.mem.spots p hp
   have:p.2≠s:=fun e=>by have:=aA h0.c;omega
   rw[dK _ _ this];exact h0.mod hm (fun i r e h3 h4=>hn i _ _ e (by simp;omega)) ht
  ·simp at hp;subst hp;rw[upd_same];exact⟨ks',aE.nil _ _,upd_same _ _ _,fun g hg=>by cases hg⟩
 ·obtain⟨_,_,jt,_⟩:=H.mem.ks;exact(ht _ (aA jt)).trans H.mem.tsb
 ·have e:=H.n7;rw[hM _ h,H.mem.tsb]at e;cases e
 ·have e:=H.nl;rw[hM _ h,H.mem.tsb]at e;cases e
 ·by_cases e:i=s
  ·rw[e];exact fu
  ·rw[dK _ _ e]at hi;exact aZd (H.hlt i hi) hm.size
end
end
section
open Go.RowKit Go.Shelf
attribute [local go_sem↓] gJ kG f9 uW gG vS
attribute [local go_sem] bH jH eB kO vJ vI CI vK aO aL aQ aI aP dR cW aJ aC Value.cells lM
structure Fr (g b7 p10 r:Nat) (id:Wi) (a:Act):Prop where
 n:a.tmps.size=157
 h0:a.tmps.getD 0 undef=ptrV g
 h1:a.tmps.getD 1 undef= .int .i64 id.toInt
 h7:a.tmps.getD 7 undef=ptrV b7
 h10:a.tmps.getD 10 undef=ptrV p10
 h71:a.tmps.getD 71 undef=ptrV r
structure KI (T:Nat→Prop) (n:Nat) (w0:We) (g nb sb q:Nat) (L:List An) (x:An) (kb:Nat) (N:List (Wi×Nat)) (nd0:Nat→Nr) (b7 p10 r:Nat) (es:Array MapEntry) (cl:Nat) (D rem:List (aN×Bool)) (S:List (aN×Nat)) (sp:Nat→Sr) (tag:wA) (nd:Nat→Nr) (ds:List Deferred) (W:We):Prop where
 ei:lV g nb sb q L x.a x.id kb x.ks N S nd0 sp b7 p10 (d7 L D) tag nd W
 spp:LQ L x D S sp
 it:dG W r kb kv bv es cl rem
 km:W.heap[kb]? =some (.map es cl)
 pm:(D++rem).Perm x.ks
 mks:eO n ds W
 fr:Mod T w0 W
 ow:∀i,tag i≠none→T i∨n≤i
 nr:tag r=none
structure KF (T:Nat→Prop) (n:Nat) (w0:We) (L:List An) (x:An) (kb:Nat) (nd0:Nat→Nr) (b7 p10 r:Nat) (es:Array MapEntry) (cl:Nat):Prop where
 pf:PH L x.a nd0
 M:aR kv bv es cl x.ks
 hn:w0.heap.size=n
 h7:n≤b7
 hl:n≤p10
 hr:n≤r
 hkn:n≤kb
 kl:x.ks.length≤800
 Ll:L.length≤900
theorem MZ {T:Nat→Prop} {n:Nat} {w0:We} {g nb sb q:Nat} {L:List An} {x:An} {kb:Nat} {N:List (Wi×Nat)} {nd0:Nat→Nr} {b7 p10 r:Nat} {es:Array MapEntry} {cl:Nat} {D:List (aN×Bool)} {S:List (aN×Nat)} {sp:Nat→Sr} {tag:wA} {nd:Nat→Nr} {ds:List Deferred} {W:We}
  (F:KF T n w0 L x kb nd0 b7 p10 r es cl) (H:KI T n w0 g nb sb q L x kb N nd0 b7 p10 r es cl D [] S sp tag nd ds W) (u:Nat→Wg) {Q:Exit→Act→We→Prop}
  (hexit:∀a',Fr g b7 p10 r x.id a'→a'.defers=ds→Q (.exit 2) a' W):keysBody.wp Tryz.prog Q ⟨(List.toArray (ptrV g:: .int .i64 x.id.toInt::u 2::u 3::u 4::u 5::u 6::ptrV b7::u 8::u 9::ptrV p10::u 11::u 12::u 13::u 14::u 15::u 16::u 17::u 18::u 19::u 20::u 21::u 22::u 23::u 24::u 25::u 26::u 27::u 28::u 29::u 30::u 31::u 32::u 33::u 34::u 35::u 36::u 37::u 38::u 39::u 40::u 41::u 42::u 43::u 44::u 45::u 46::u 47::u 48::u 49::u 50::u 51::u 52::u 53::u 54::u 55::u 56::u 57::u 58::u 59::u 60::u 61::u 62::u 63::u 64::u 65::u 66::u 67::u 68::u 69::u 70::ptrV r::u 72::u 73::u 74::u 75::u 76::u 77::u 78::u 79::u 80::u 81::u 82::u 83::u 84::u 85::u 86::u 87::u 88::u 89::u 90::u 91::u 92::u 93::u 94::u 95::u 96::u 97::u 98::u 99::u 100::u 101::u 102::u 103::u 104::u 105::u 106::u 107::u 108::u 109::u 110::u 111::u 112::u 113::u 114::u 115::u 116::u 117::u 118::u 119::u 120::u 121::u 122::u 123::u 124::u 125::u 126::u 127::u 128::u 129::u 130::u 131::u 132::u 133::u 134::u 135::u 136::u 137::u 138::u 139::u 140::u 141::u 142::u 143::u 144::u 145::u 146::u 147::u 148::u 149::u 150::u 151::u 152::u 153::u 154::u 155::u 156::[])),ds⟩ W:=by
 have dm:=H.it;have km:=H.km;rcases dm.next (P:=Tryz.prog) F.M km 0 with⟨_,bi⟩|⟨p,rem',w3,it,af,bi,kr3,m3,kb3,fh⟩
 ·have HE:=Hi hexit;clear H F dm hexit
  conv=>arg 2;whnf
  go_wp2_with fail;exact HE.out _ ⟨rfl,rfl,rfl,rfl,rfl,rfl⟩ rfl
 ·cases af.length_eq
structure KM (T:Nat→Prop) (n:Nat) (w0:We) (g nb sb q:Nat) (L:List An) (x:An) (kb:Nat) (N:List (Wi×Nat)) (nd0:Nat→Nr) (b7 p10 r:Nat) (es:Array MapEntry) (cl:Nat) (D:List (aN×Bool)) (nd:Nat→Nr) (ds:List Deferred) (it:Obj) (k:aN) (s:Nat) (S:List (aN×Nat)) (sp:Nat→Sr) (tag:wA) (W:We):Prop where
 ei:lV g nb sb q L x.a x.id kb x.ks N S nd0 sp b7 p10 (d7 L D) tag nd W
 spp:LQ L x D S sp
 kr:W.heap[r]? =some it
 km:W.heap[kb]? =some (.map es cl)
 mks:eO n ds W
 fr:Mod T w0 W
 ow:∀i,tag i≠none→T i∨n≤i
 nr:tag r=none
 hk:lkp k S=some s
theorem AA {M:Nat→Prop} {W W':We} (hm:Mod M W W') (hM:∀i,¬M i):KeepsOthers W W':=qY hm (fun i h=>absurd h (hM i))
theorem xR {D rem rem' ks:List (aN×Bool)} {p:aN×Bool} (h:(D++rem).Perm ks) (hr:rem.Perm (p::rem')):((D++[p])++rem').Perm ks:=by
 refine .trans ?_ h;rw[aZw];exact(hr.symm).append_left D
theorem xS {D rem:List (aN×Bool)} {ks:List (aN×Bool)} {p:aN×Bool} (h:((D++[p])++rem).Perm ks) (hn:(ks.map Prod.fst).Nodup):∀b,(p.1,b)∉D:=by
 intro b hb;have h1:=((h.map Prod.fst).nodup_iff).2 hn;rw[List.map_append,List.map_append,aZw,aZ7]at h1;exact h1.2.2 p.1 (aZj.2 ⟨_,hb,rfl⟩) p.1 (by simp) rfl
theorem QH (w:We) (o:Option Nat):(binOp .eql 246 (AE o) (.pointer none)).run Tryz.prog w= .ok (.bool o.isNone) w:=by
 cases o<;>(go_simp;try rfl)
theorem VI {T:Nat→Prop} {n:Nat} {w0:We} {g nb sb q:Nat} {L:List An} {x:An} {kb:Nat} {N:List (Wi×Nat)} {nd0:Nat→Nr} {b7 p10 r:Nat} {es:Array MapEntry} {cl:Nat} {D rem:List (aN×Bool)} {S:List (aN×Nat)} {sp:Nat→Sr} {tag:wA} {nd:Nat→Nr} {ds:List Deferred} {W:We}
  (F:KF T n w0 L x kb nd0 b7 p10 r es cl) (H:KI T n w0 g nb sb q L x kb N nd0 b7 p10 r es cl D rem S sp tag nd ds W) (hq:q≤1000000) (hrem:rem≠[]) (u:Nat→Wg) {Q:Exit→Act→We→Prop} (hP:∀c a w,¬Q (.panic c) a w) (hL:¬LetsOut Q)
  (ez:∀D' rem' S' sp' tag' nd' a' W',Fr g b7 p10 r x.id a'→KI T n w0 g nb sb q L x kb N nd0 b7 p10 r es cl D' rem' S' sp' tag' nd' a'.defers W'→rem'.length<rem.length→Q .normal a' W'):keysBody.wp Tryz.prog Q ⟨(List.toArray (ptrV g:: .int .i64 x.id.toInt::u 2::u 3::u 4::u 5::u 6::ptrV b7::u 8::u 9::ptrV p10::u 11::u 12::u 13::u 14::u 15::u 16::u 17::u 18::u 19::u 20::u 21::u 22::u 23::u 24::u 25::u 26::u 27::u 28::u 29::u 30::u 31::u 32::u 33::u 34::u 35::u 36::u 37::u 38::u 39::u 40::u 41::u 42::u 43::u 44::u 45::u 46::u 47::u 48::u 49::u 50::u 51::u 52::u 53::u 54::u 55::u 56::u 57::u 58::u 59::u 60::u 61::u 62::u 63::u 64::u 65::u 66::u 67::u 68::u 69::u 70::ptrV r::u 72::u 73::u 74::u 75::u 76::u 77::u 78::u 79::u 80::u 81::u 82::u 83::u 84::u 85::u 86::u 87::u 88::u 89::u 90::u 91::u 92::u 93::u 94::u 95::u 96::u 97::u 98::u 99::u 100::u 101::u 102::u 103::u 104::u 105::u 106::u 107::u 108::u 109::u 110::u 111::u 112::u 113::u 114::u 115::u 116::u 117::u 118::u 119::u 120::u 121::u 122::u 123::u 124::u 125::u 126::u 127::u 128::u 129::u 130::u 131::u 132::u 133::u 134::u 135::u 136::u 137::u 138::u 139::u 140::u 141::u 142::u 143::u 144::u 145::u 146::u 147::u 148::u 149::u 150::u 151::u 152::u 153::u 154::u 155::u 156::[])),ds⟩ W:=by
 have dm:=H.it;have km:=H.km;rcases dm.next (P:=Tryz.prog) F.M km 0 with⟨e,bi⟩|⟨p,rem',w3,it,af,bi,kr3,m3,kb3,fh⟩
 ·exact absurd e hrem
 obtain⟨k,h⟩:=p;obtain⟨hv,jv,Mp⟩:∃hv:Int,bv h= .int .i64 hv∧(hv==1)=h:=⟨if h then 1 else 0,rfl,by cases h<;>rfl⟩;dsimp only at bi fh;rw[jv]at bi;simp only[jv]at fh;have kr0:∃s1 s2 s3,W.heap[r]? =some (.mapIter (some kb) s1 s2 s3):=by
  obtain⟨s1,s2,s3,h1,_⟩:=dm;exact⟨s1,s2,s3,h1⟩
 have nr7:b7≠r:=by
  obtain⟨s1,s2,s3,h1⟩:=kr0;exact aB H.ei.k7 h1 (by simp)
 have nrl:p10≠r:=by
  obtain⟨s1,s2,s3,h1⟩:=kr0;exact aB H.ei.kl h1 (by simp)
 have Vd:=H.ei.mod m3 (fun i hi e=>hi (by rw[e];exact H.nr)) nr7 nrl;have kg:=Vd.mem.c;have xm:Mod T w0 w3:=H.fr.then m3 (fun i hi e=>by have:=F.hr;have:=F.hn;omega);have na:eO n ds w3:=H.mks.mod m3 (fun i hi e=>by
  obtain⟨s1,s2,s3,h1⟩:=kr0;rw[e,h1]at hi;cases hi)
 obtain⟨es2,cl2,ksb,Ln⟩:=Vd.mem.ks;have oe:=xR H.pm af;have ag:rem'.length<rem.length:=by rw[af.length_eq];simp
 obtain⟨o,ho⟩:∃o,lkp k S=o:=⟨_,rfl⟩;have cd:∀wq,Mod (fun _=>False) w3 wq→(Instr.lookup 180 (.map (some sb)) (.agg (kc k)) false).run Tryz.prog wq= .ok (AE o) wq:=fun wq hq=>by
  have h1:=Ln.lookup keyT Tryz.underlying180 (z:= .pointer none) (fun w=>by kernel_rfl) wq (hq.at0 ksb) k false;rw[ho]at h1;refine h1.trans ?_;cases o<;>rfl
 have HL:=Hi cd;have Ms:=Hi fh;have Hm:=Hi Vd;have HN:=Hi ez;have HP:=Hi (Ai oe ag);have zc:=Hi Ln;have Fj:=Hi (Ai xm na);have HO:=Hi ho;have HH:=Hi H;have HF:=Hi F;have xe:∀wq,Mod (fun _=>False) w3 wq→(Instr.entry (.pointer (some ⟨r,0,none⟩))).run Tryz.prog wq= .ok (.tuple #[.agg (kc k),.int .i64 hv]) wq:=fun wq hm=>(fh wq (hm.at0 kr3) (hm.at0 kb3)).1;have Hl:=Hi xe;have Ha:(Instr.next (.pointer (some ⟨r,0,none⟩)) false 0).run Tryz.prog W= .ok (.tuple #[.bool true,.agg (kc k),.int .i64 hv]) w3:=bi;clear cd fh Vd ez oe ag Ln xm na ho H F xe bi dm km kr0 af hrem jv
 conv=>arg 2;whnf
 go_upto_region 17 with fail;have jm:=Hl.out;have Lkg:=aA kg;have Lkr3:=aA kr3;have Lkb3:=aA kb3;have Lksb:=aA ksb;refine ZP0 [1,0,0,3,4,0] ?_;refine ZE jm ?_
 iterate 2 refine Zv ?_
 refine Za FX fun p11 ns=> ?_;refine Zt ?_;refine Zv ?_;refine TD.nil (fun w4 hr=> ?_);replace kg:=hr.q kg;replace kr3:=hr.q kr3;replace kb3:=hr.q kb3;replace ksb:=hr.q ksb;obtain⟨gp11,kp11⟩:=hr.b p11;have m4:=hr.mod;clear hr jm;go_upto_region 19 with fail;have cd:∀wq,Mod (fun _=>False) w4 wq→(Instr.lookup 180 (.map (some sb)) (.agg (kc k)) false).run Tryz.prog wq= .ok (AE o) wq:=fun wq hq=>HL.out wq (m4.then0 hq);have Lkg:=aA kg;have Lkr3:=aA kr3;have Lkb3:=aA kb3;have Lksb:=aA ksb;have Lkp11:=aA kp11;refine ZP [0,0,0,1,1,1,0] ?_
 iterate 5 first|refine Zv ?_|refine Zd ?_
 refine ZK cd ?_;refine Zv ?_;refine TD.nil (fun w5 hr=> ?_);replace kg:=hr.q kg;replace kr3:=hr.q kr3;replace kb3:=hr.q kb3;replace ksb:=hr.q ksb;replace kp11:=hr.q kp11;have m5:=m4.then0 hr.mod;have tm:=Hi m5;have Pd:=QH w5 o;clear hr cd m4 m5
 go_upto_if 86 with fail
 have HE:=Hi Pd;clear Pd;go_cut [14]from 87 to 94 (fun s14 wx=>∃s S' sp' tag',s14=ptrV s∧Hid (KM T n w0 g nb sb q L x kb N nd0 b7 p10 r es cl D nd ds it k s S' sp' tag' wx))
 case first=>
  cases o with
  |some s=>
   go_wp2_with fail;go_meet;exact⟨s,S,sp,tag,rfl,Hi ⟨Hm.out.mod0 tm.out,HH.out.spp,kr3,kb3,Fj.out.2.keeps (AA tm.out (fun _ h=>h)),Fj.out.1.then0 tm.out,HH.out.ow,HH.out.nr,HO.out⟩⟩
  |none=>
   go_upto_region 22 with fail;have m6:Mod (fun _=>False) w5 (w5.alloc (.cells #[.pointer none,.slice none 0 0] 248)):=(Mod.refl _ _).alloc _;have ksp:=heap_alloc_new w5 (.cells #[.pointer none,.slice none 0 0] 248);generalize w5.alloc (.cells #[.pointer none,.slice none 0 0] 248)=w6 at *;have Nt:=Hm.out.mod0 tm.out;have Lr5:=aA kr3;have Kz:=Hi ksb;have nsb:∀ {i o},w5.heap[i]? =some (.cells o (248) (0,0))→i≠sb:=fun h=>aB h ksb (by simp);have Cp:w5.heap.size≠sb:=by have:=aA ksb;omega
   have Pn:g≠sb:=aB kg ksb (by simp);have Wr:p11≠sb:=aB kp11 ksb (by simp);have Co:r≠sb:=fun e=>by
    have h1:=Hm.out.mem.tsb;rw[←e,HH.out.nr]at h1;cases h1
   have Wo:kb≠sb:=fun e=>by
    have h1:=(Hm.out.mem.nodes x.a (by simp)).tk;rw[Hm.out.ndp.new]at h1;dsimp only at h1;rw[e,Hm.out.mem.tsb]at h1;cases h1
   have H5:=Hi (Ai Nt (m6.at0 ksb));have kg6:=m6.at0 kg;have kp6:=m6.at0 kp11;have kr6:=m6.at0 kr3;have kb6:=m6.at0 kb3;have ks6:=m6.at0 ksb;clear Nt nsb kg kp11 kr3 kb3 ksb;generalize hs5:w5.heap.size=s at *;have Yh:=Hi hs5;have uj:=Hi m6;clear hs5 m6;have Lkg6:=aA kg6;have Lkp6:=aA kp6;have Lksp:=aA ksp;have Lkr6:=aA kr6;have Lkb6:=aA kb6;have Lks6:=aA ks6;refine ZP [0,0,0,1,1,0,5] ?_
   iterate 6 first|refine Zv ?_|refine Zd ?_
   refine Zi fun wE hr=> ?_;replace kg6:=hr.mod.at0 kg6;replace kp6:=hr.mod.at0 kp6;replace ksp:=hr.mod.at0 ksp;replace kr6:=hr.mod.at0 kr6;replace kb6:=hr.mod.at0 kb6;replace ks6:=hr.mod.at0 ks6;have mE:=hr.mod;obtain⟨es20,cl20,Jy,Mks6⟩:=zc.out.update keyT Tryz.underlying180 wE ks6 k s;refine ZV (Jy) ?_;refine ZN ks6 fun w7 ks6 mS=> ?_;(try simp only[Array.setIfInBounds,zL]at ks6);replace kg6:=mS.at_ne kg6 (by omega);replace kp6:=mS.at_ne kp6 (by omega);replace ksp:=mS.at_ne ksp (by omega);replace kr6:=mS.at_ne kr6 (by omega);replace kb6:=mS.at_ne kb6 (by omega);have m7:Mod (fun i=>i=sb) w5 w7:=((uj.out.then0 mE).mono (fun _ _ h=>h.elim)).then mS (fun _ _ h=>h);have Nu:=H5.out.1.fresh (s:=s) (k:=k) m7 (fun _ h=>h) (by rw[Yh.out];exact aZq _) HO.out ksp ⟨_,_,ks6,Mks6⟩;have hn7:n≤s:=by
    have h1:=Fj.out.1.size;have h2:=tm.out.size;have h3:=HF.out.hn;have h4:=Yh.out;omega
   have hnS:∀p∈S,p.2≠s:=fun p hp=>by
    have:=aA (H5.out.1.mem.spots p hp).c;have:=Yh.out;omega
   have hrs2:r≠s:=fun e=>by omega
   have ru:KM T n w0 g nb sb q L x kb N nd0 b7 p10 r es cl D nd ds it k s (put k s S) (fR sp s ⟨none,.slice none 0 0,[]⟩) (fR tag s (some (s,3))) w7:=by
    refine⟨Nu,HH.out.spp.fresh HO.out hnS,kr6,kb6,?_,?_,fun i hi=> ?_,(dK _ _ hrs2).trans HH.out.nr,cH _ _ _⟩
    ·exact(Fj.out.2.keeps (AA tm.out (fun _ h=>h))).mod m7 (fun i hi e=>by
      rw[e,Kz.out]at hi;cases hi)
    ·refine(Fj.out.1.then0 tm.out).then m7 (fun i hi e=> ?_);rcases HH.out.ow sb (by rw[Hm.out.mem.tsb];simp)with h1|h1
     ·rw[e];exact h1
     ·have:=HF.out.hn;omega
    ·by_cases e:i=s
     ·rw[e];exact .inr hn7
     ·rw[dK _ _ e]at hi;exact HH.out.ow i hi
   have ay:=Hi ru;clear ru Nu;go_wp2_with fail;go_meet;exact⟨s,_,_,_,rfl,ay⟩
 case rest=>
  obtain⟨s,S',sp',tag',rfl,mi⟩:=hcut;clear tm kg kr3 kb3 ksb kp11 HL Hl HE Fj zc HO;have ff:=mi.out.ei.mem.spots (k,s) (cP mi.out.hk);go_wp2_with fail;go_at_call 140;refine(ahead_cG s h _).mono ?_;rintro e w8 ⟨rfl,rfl⟩;go_wp2_with fail;have hk8:∃W8,(wc.alloc (.cells #[ptrV s] 246)).alloc (.cells #[.bool h] 4)=W8∧W8.heap[wc.heap.size]? =some (.cells #[ptrV s] 246 (0,0))∧W8.heap[wc.heap.size+1]? =some (.cells #[.bool h] 4 (0,0))∧Mod (fun _=>False) wc W8:=by
   refine⟨_,rfl,?_,?_,((Mod.refl _ _).alloc _).alloc _⟩
   ·exact((Mod.refl (fun _=>False) (wc.alloc (.cells #[ptrV s] 246))).alloc _).at0 (heap_alloc_new _ _)
   ·have:=heap_alloc_new (wc.alloc (.cells #[ptrV s] 246)) (.cells #[.bool h] 4);rwa[World.size_alloc]at this
  obtain⟨W8,e8,kB,kW,m8⟩:=hk8;rw[e8];generalize ep:wc.heap.size=bs at *;have Di:=mi.out.ei.mod0 m8;have Br:=Di.mem.spots (k,s) (cP mi.out.hk);have iy:∀i,bs≤i→tag' i=none:=fun i hi=>by
   cases e:tag' i with
   |none=>rfl
   |some p=>
    have:=mi.out.ei.hlt i (by rw[e];simp);omega
  have hnD:=xS HP.out.1 HF.out.M.nodup;obtain⟨fk,fe⟩:=(mi.out.spp.left k hnD).1 s mi.out.hk;obtain⟨zw,zr,z1,z2,z3,z4⟩:=DH L k;have ksp8:=Br.c;have Qz:=Br.o;unfold W2 at ksp8;rw[fk,←z1]at ksp8;rw[fe,←z2]at Qz;have nBl:bs≠p10:=fun e=>by have:=aA mi.out.ei.kl;omega
  have nBl2:bs+1≠p10:=fun e=>by have:=aA mi.out.ei.kl;omega
  have hEl:(d7 L D).length≤900000:=by
   have h1:=mV L D;have h2:=HP.out.1.length_eq;have h3:=HF.out.kl;have h4:=HF.out.Ll;rw[aZg,aZg,aZx]at h2;have h5:D.length*(L.length+1)≤800*901:=Nat.mul_le_mul (by omega) (by omega);omega
  have hLl:=HF.out.Ll;refine YP Di HF.out.pf hEl hq kB kW ksp8 Qz (by omega) (iy _ (aZq _)) (iy _ (by omega)) nBl nBl2 Br.ta Br.tr _ rfl rfl rfl rfl ?_;intro Dm W9 tag2 nd2 hD hK uk Ea Fu Yy;have hz:=uk.mem.spots (k,s) (cP mi.out.hk);have Ba:n≤W8.heap.size:=by
   have h1:=(mi.out.fr.then0 m8).size;have h2:=HF.out.hn;omega
  have hr8:r<W8.heap.size:=aA (m8.at0 mi.out.kr);have Qn:=(mi.out.mks.keeps (AA m8 (fun _ h=>h))).cons' Yy Ba hD hK;have Pj:Mod T w0 W9:=(mi.out.fr.then0 m8).then Fu (fun i hi e=>by
   have h3:=HF.out.hn;rcases e with e|⟨c,r',e,_⟩
   ·have:=HF.out.hl;omega
   ·rcases mi.out.ow i (by rw[e];simp)with h1|h1
    ·exact h1
    ·omega)
  have Jr:∀i,tag2 i≠none→T i∨n≤i:=fun i hi=>by
   by_cases h1:i<W8.heap.size
   ·exact mi.out.ow i (by rw[←Ea i h1];exact hi)
   ·exact .inr (by omega)
  have Jn:tag2 r=none:=(Ea r hr8).trans mi.out.nr;have lm:r≠p10:=Ne.symm nrl;have kr9:W9.heap[r]? =some it:=Fu.at (m8.at0 mi.out.kr) (fun e=>by
   rcases e with e|⟨c,r',e,_⟩
   ·exact lm e
   ·rw[mi.out.nr]at e;cases e)
  have Kp:tag2 kb=some (x.a,1):=by
   have h1:=(uk.mem.nodes x.a (by simp)).tk;rw[uk.ndp.new]at h1;exact h1
  have Py:kb<W8.heap.size:=aA (m8.at0 mi.out.km);have km9:W9.heap[kb]? =some (.map es cl):=Fu.at (m8.at0 mi.out.km) (fun e=>by
   rcases e with e|⟨c,r',e,h⟩
   ·exact aB Di.kl (m8.at0 mi.out.km) (by simp) e.symm
   ·rw[←Ea kb Py,Kp]at e;cases e;omega)
  have Dh:d7 L D++(dH zw zr h).map (·.1)=d7 L (D++[(k,h)]):=by rw[z4];simp[d7]
  rw[Dh]at uk;have fin:∀(a':Act) (Wf:We) (tagf:wA) (X:Sr) (M:Nat→Prop),Fr g b7 p10 r x.id a'→a'.defers= {target:= .collected Dm,args:= #[]}::ds→Mod M W9 Wf→(∀i,M i→i=s∨(sp' s).rv.ownBlock=some i)→lV g nb sb q L x.a x.id kb x.ks N S' nd0 (fR sp' s X) b7 p10 (d7 L (D++[(k,h)])) tagf nd2 Wf→
    wJ X (spotOf k (L++[x]))→(∀i,i<W9.heap.size→tagf i=tag2 i)→Q .normal a' Wf:=by
   intro a' Wf tagf X M h1 h2 h3 h4 h5 h6 h7;have Ib:∀i,M i→∃r,tag2 i=some (s,r)∧3≤r:=fun i hi=>(h4 i hi).elim (fun e=>⟨3,by rw[e];exact hz.ta,by omega⟩) (fun e=>⟨4,hz.tr i e,by omega⟩);have krf:=h3.at kr9 (fun e=>by
    obtain⟨r',e,_⟩:=Ib _ e;rw[Jn]at e;cases e)
   have kmf:=h3.at km9 (fun e=>by
    obtain⟨r',e,_⟩:=Ib _ e;rw[Kp]at e;cases e;omega)
   refine HN.out (D++[(k,h)]) rem' S' (fR sp' s X) tagf nd2 a' Wf h1 ⟨h5,mi.out.spp.step mi.out.hk h6,(Ms.out Wf krf kmf).2,kmf,HP.out.1,?_,?_,fun i hi=> ?_,?_⟩ HP.out.2
   ·rw[h2];refine Qn.keeps (qY h3 fun i hi=> ?_);rcases h4 i hi with e|e
    ·rw[e];exact⟨_,_,hz.c⟩
    ·obtain⟨cur,hk⟩:=lN hz.o e;exact⟨_,_,hk⟩
   ·refine Pj.then h3 (fun i hi e=> ?_);obtain⟨r',e,_⟩:=Ib _ e;rcases Jr i (by rw[e];simp)with h8|h8
    ·exact h8
    ·have:=HF.out.hn;omega
   ·by_cases h8:i<W9.heap.size
    ·exact Jr i (by rw[←h7 i h8];exact hi)
    ·have:=Yy.size;exact .inr (by omega)
   ·exact(h7 r (aA kr9)).trans Jn
  have Pq:x.how k=some h:=dJ HF.out.M.nodup (HP.out.1.mem_iff.1 (by simp));have om:=Hi fin;have My:=Hi Pq;have HZ:=Hi hz;have Cv:=Hi uk;have Hw:=Hi (Ai fk (Ai fe hnD));have kz:=hz.c;have k79:=uk.k7;have hoz:=hz.o;obtain⟨ad,c0,e0,-,-,-⟩:=hoz.at fN;unfold W2 at kz;have lm:=congrArg List.length fe;rw[aZs]at lm;have hrl2:=mT k L;have HR:=Hi (show(sp' s).rs.length≤1000 by omega);rw[e0]at kz;generalize oz:(sp' s).rs.length=ln at *;have n7s:b7≠s:=fun e=>by
   have h1:=HZ.out.ta;rw[←e,Cv.out.n7]at h1;cases h1
  have Xm:=Hi (Ai e0 oz);clear fin Pq hz uk fk fe hnD Qn Pj Jr Dh Ea Fu Yy hK hD ff Br Di kB kW m8 ksp8 Qz hoz e0 lm hrl2 z1 z2 z3 z4 iy Ba hr8 Jn kr9 Kp Py km9 hEl hLl nBl nBl2 e8 ep oz;cases h with
  |true=>
   dsimp only;go_upto_region 30 with fail;have Lkz:=aA kz;have Lk79:=aA k79;refine ZP0 [0,0,1,0,0,5,0,0,6] ?_
   iterate 5 first|refine Zv ?_|refine Zd ?_
   refine Zi fun w10 hr=> ?_;replace kz:=hr.q kz;replace k79:=hr.q k79;have mA:=hr.mod;clear hr;refine ZS ?_;(first|refine TE.mid_setG kz (fun wn kz mS=> ?_)|refine TE.mid_setCellG kz (fun wn kz mS=> ?_));(try simp only[Array.setIfInBounds,zL]at kz);have mB:Mod (fun i=>i=s) W9 wn:=(mA.mono (fun _ _ h=>h.elim)).then mS (fun _ _ e=>e);replace k79:=mS.at_ne k79 n7s;clear mS mA;refine Ze ?_;refine Ze ?_;refine Zz ?_;refine ZS ?_;refine ZN kz fun wn kz mS=> ?_;(try simp only[Array.setIfInBounds,zL]at kz);have mC:=mB.then mS (fun i _ e=>e);clear mS mB;(try simp only[zL]);replace kz:wn.heap[s]? =some (.cells #[ptrV x.a,.slice none 0 0] 248 (0,0)):=kz;have hX:wJ ⟨some x.a,.slice none 0 0,[]⟩ (spotOf k (L++[x])):=by
    rw[spotOf_snoc];unfold stepS;rw[My.out];exact⟨rfl,rfl⟩
   have fu:=mC.size;have ua:p10≠s:=fun e=>by
    have h1:=HZ.out.ta;rw[←e,Cv.out.nl]at h1;cases h1
   have zf:=Cv.out.spot (s:=s) (X:=⟨some x.a,.slice none 0 0,[]⟩) (tag':=tag2) mC (fun i c r e hi=>by
    rw[hi,HZ.out.ta]at e;cases e;exact⟨rfl,by omega,by omega⟩) n7s ua (fun _ _=>rfl) ⟨kz,aE.nil _ _,HZ.out.ta,fun g hg=>by cases hg⟩ (fun i hi=>aZd (Cv.out.hlt i hi) fu)
   have HG:=Hi (Ai hX (Ai zf mC));clear hX zf mC fu ua;go_wp2_with fail;exact om.out _ _ tag2 ⟨some x.a,.slice none 0 0,[]⟩ _ ⟨rfl,rfl,rfl,rfl,rfl,rfl⟩ rfl HG.out.2.2 (fun i e=> .inl e) HG.out.2.1 HG.out.1 (fun _ _=>rfl)
  |false=>
   dsimp only;obtain⟨e0,oz⟩:=Xm.out;have Co:=HR.out;have Ny:=HZ.out.o;have Mo:=HZ.out.tr;rw[e0]at Ny Mo;have nTs:¬(Value.slice ad ln c0).ownBlock=some s:=fun e=>by
    have h1:=Mo _ e;rw[HZ.out.ta]at h1;cases h1
   have nT7:¬(Value.slice ad ln c0).ownBlock=some b7:=fun e=>by
    have h1:=Mo _ e;rw[Cv.out.n7]at h1;cases h1
   have nTl:¬(Value.slice ad ln c0).ownBlock=some p10:=fun e=>by
    have h1:=Mo _ e;rw[Cv.out.nl]at h1;cases h1
   have HT0:=Hi Mo;have HO0:=Hi Ny;clear Mo e0 oz Co;go_upto_region 31 with fail;have Lkz:=aA kz;have Lk79:=aA k79;refine iR (T0:=fun i=>(Value.slice ad ln c0).ownBlock=some i) (K:=tS (sp' s).rs (.slice ad ln c0)) (κ:=fun i=>[0,0,0,0,0,0,3,6,0,0,6].getD i 0) (υ:=fun i=>[[],[],[],[],[],[],[],[147],[],[],[]].getD i []) [0,1,2,3,4,5,6,7] [8,9,10] (by kernel_rfl) (by kernel_rfl) (fG (sp' s).rs (.slice ad ln c0)).cl (⟨Ny,fun g hg=>hg⟩) (fun i hi=>(Ny.lt i hi).2) ?_;have gK:=fG (sp' s).rs (.slice ad ln c0)
   iterate 4 refine Zg ?_
   (refine Zk ?_ (hy:=by intro wq ae;have kzq:=ae.atn kz;have k79q:=ae.atn k79;go_simp;try with_reducible rfl));(refine Zk ?_ (hy:=by intro wq ae;have kzq:=ae.atn kz;have k79q:=ae.atn k79;go_simp;try with_reducible rfl));(refine TG.bslice (by simp only[zK];rfl) rfl (by rfl) rfl rfl ?hx37 (ZC x.a) (fun p147 hp147 _=> ?n37);(case hx37=>(simp only[aYr,aZo,aYo,zM];(try rfl)));try simp only[zL]);(refine TG.appK (X:= ?X38) (Y:= ?Y38) (tS ((sp' s).rs++[x.a])) (fG ((sp' s).rs++[x.a])) (by simp only[zK];rfl) rfl (by rfl) rfl ?hx38 ?hz38 (fun T wq kq ltq ae ub=> ?y38) ?n38;(case hx38=>simp only[zM];try rfl);(case hz38=>simp only[zM];try rfl);(case y38=>(have kzq:=ae.atn kz;have k79q:=ae.atn k79;have kp147:=ub.box (p:=p147) (by first|exact Bx.set_same _ _ _|(simp only[Bx.set_same];rfl)) (by first|decide|exact aZm.2 rfl|simp);dsimp only[Value.cells]at kp147;have nUp147:=(ub p147 _ (by first|exact Bx.set_same _ _ _|(simp only[Bx.set_same];rfl)) (by first|decide|exact aZm.2 rfl|simp)).1;exact wQ kq kp147 (by have:=HR.out;have h9:=Xm.out.2;omega)));rintro v38 ⟨wI,TI,hI⟩;replace gK:=(fG ((sp' s).rs++[x.a])) v38;skip;(try clear hI TI wI);try simp only[zL]);refine TG.nil (fun w10 ⟨TR,hr⟩=> ?_);replace kz:=hr.mod.atn kz;replace k79:=hr.mod.atn k79;obtain⟨gp147,nTp147,kp147⟩:=hr.b p147;clear gK;have Ie:=hr.k.1;obtain⟨a6,c6,Tb,_⟩:=Ie.at fN;generalize ju:((sp' s).rs++[x.a]).length=n6 at Tb;subst Tb;have nT1:∀i,(Value.slice a6 n6 c6).ownBlock=some i→(Value.slice ad ln c0).ownBlock=some i∨W9.heap.size≤i:=fun i hi=>by
    rcases aYt i W9.heap.size with h|h
    ·exact .inl (hr.old i h (hr.k.2 i hi))
    ·exact .inr h
   have m1:=hr.mod;have Da:=Hi (Ai Ie (Ai nT1 ju));have jr:=Hi m1;have Ls9:=aA HZ.out.c;clear Ie nT1 hr m1 ju Ny;refine Ze ?_;refine Ze ?_;refine Zz ?_;refine ZS ?_;refine ZN kz fun wn kz mS=> ?_;(try simp only[Array.setIfInBounds,zL]at kz);(try simp only[zL]);replace kz:wn.heap[s]? =some (.cells #[AE (sp' s).wr,.slice a6 n6 c6] 248 (0,0)):=kz;have mC:Mod (fun i=>i=s∨(Value.slice ad ln c0).ownBlock=some i) W9 wn:=(jr.out.mono (fun _ _ e=> .inr e)).then mS (fun _ _ e=> .inl e);have vr:=Da.out.1.mod mS (fun g hg e=>by
    rw[e]at hg;rcases Da.out.2.1 _ hg with h|h
    ·exact nTs h
    ·omega)
   clear mS;have hX:wJ ⟨(sp' s).wr,.slice a6 n6 c6,(sp' s).rs++[x.a]⟩ (spotOf k (L++[x])):=by
    rw[spotOf_snoc];unfold stepS;rw[My.out];refine⟨Hw.out.1,?_⟩;dsimp only;rw[Hw.out.2.1,List.map_append];rfl
   have fu:=mC.size;have ua:p10≠s:=fun e=>by
    have h1:=HZ.out.ta;rw[←e,Cv.out.nl]at h1;cases h1
   have hT:∀i,i<W9.heap.size→(if W9.heap.size≤i∧(Value.slice a6 n6 c6).ownBlock=some i then some (s,4)else tag2 i)=tag2 i:=fun i hi=>by rw[if_neg (by omega)]
   have zf:=Cv.out.spot (s:=s) (X:=⟨(sp' s).wr,.slice a6 n6 c6,(sp' s).rs++[x.a]⟩) (tag':=fun i=>if W9.heap.size≤i∧(Value.slice a6 n6 c6).ownBlock=some i then some (s,4)else tag2 i) mC (fun i c r e hi=>by
    rcases hi with hi|hi
    ·rw[hi,HZ.out.ta]at e;cases e;exact⟨rfl,by omega,by omega⟩
    ·rw[HT0.out i hi]at e;cases e;exact⟨rfl,by omega,by omega⟩) (fun e=>e.elim n7s nT7) (fun e=>e.elim ua nTl) hT ⟨kz,vr,(hT _ Ls9).trans HZ.out.ta,fun g hg=>by
      by_cases h:W9.heap.size≤g
      ·simp only[if_pos (Ai h hg)]
      ·rcases Da.out.2.1 g hg with h1|h1
       ·rw[hT g (by omega)];exact HT0.out g h1
       ·exact absurd h1 h⟩ (fun i hi=>by
      by_cases h:W9.heap.size≤i∧(Value.slice a6 n6 c6).ownBlock=some i
      ·exact(vr.lt _ h.2).2
      ·simp only[if_neg h]at hi;exact aZd (Cv.out.hlt i hi) fu)
   have HG:=Hi (Ai hX (Ai zf (Ai mC hT)));clear hX zf mC fu ua hT vr;go_wp2_with fail;exact om.out _ _ _ ⟨(sp' s).wr,.slice a6 n6 c6,(sp' s).rs++[x.a]⟩ _ ⟨rfl,rfl,rfl,rfl,rfl,rfl⟩ rfl HG.out.2.2.1 (fun i e=>e.imp _root_.id (fun e=>by rw[Xm.out.1];exact e)) HG.out.2.1 HG.out.1 HG.out.2.2.2
theorem QV {T:Nat→Prop} {n:Nat} {w0:We} {g nb sb q:Nat} {L:List An} {x:An} {kb:Nat} {N:List (Wi×Nat)} {nd0:Nat→Nr} {b7 p10 r:Nat} {es:Array MapEntry} {cl:Nat}
  (F:KF T n w0 L x kb nd0 b7 p10 r es cl) (hq:q≤1000000) {act:Act} {W:We} (hF:Fr g b7 p10 r x.id act) (H:∃D rem S sp tag nd,KI T n w0 g nb sb q L x kb N nd0 b7 p10 r es cl D rem S sp tag nd act.defers W) {Q:Exit→Act→We→Prop} (hP:∀c a w,¬Q (.panic c) a w) (hL:¬LetsOut Q)
  (ie:∀D S' sp' tag' nd' a' W',Fr g b7 p10 r x.id a'→KI T n w0 g nb sb q L x kb N nd0 b7 p10 r es cl D [] S' sp' tag' nd' a'.defers W'→Q (.exit 2) a' W'):(Code.loop keysBody).wp Tryz.prog Q act W:=by
 refine wp_loop (fun a w=>Fr g b7 p10 r x.id a∧∃D rem S sp tag nd,KI T n w0 g nb sb q L x kb N nd0 b7 p10 r es cl D rem S sp tag nd a.defers w) (fun _ w=>leftN w r kb) ⟨hF,H⟩ ?_;rintro a w ⟨hf,D,rem,S,sp,tag,nd,K⟩;have hlf:=K.it.leftN K.km;obtain⟨t,ds⟩:=a;obtain⟨f0,f1,f2,f3,f4,f5⟩:=hf;dsimp only at f0 f1 f2 f3 f4 f5 K;obtain⟨u,hu,e⟩:=yT t f0;rw[hu]at f1 f2 f3 f4 f5;rw[f1,f2,f3,f4,f5]at e;subst e;by_cases hrem:rem=[]
 ·subst hrem;refine MZ F K u ?_;rintro a' Mb rfl;exact ie D S sp tag nd a' w Mb K
 ·refine VI F K hq hrem u (fun c a w h=>hP c a w h) (fun⟨a,w,h⟩=>hL ⟨a,w,h⟩) ?_;intro D' rem' S' sp' tag' nd' a' W' Mb K' hlt;exact⟨⟨Mb,D',rem',S',sp',tag',nd',K'⟩,by rw[hlf,K'.it.leftN K'.km];exact hlt⟩
end
end Go.Proofs.YtblbegbjlaokjaaGreatDoor