/- The lemmas of the proof, part XO3: how the program and its data lie in memory, and what its functions do. -/
import Derived.Test.YtblbegbjlaokjaaGreatDoorXS2
import Derived.Test.YtblbegbjlaokjaaGreatDoorProg
import Derived.BigQuiet
import Derived.RangeFuncNested
import Derived.RangeFuncBox
import Derived.RangeFuncLeaves
import Derived.RangeFuncCalls
import Derived.OrdersIn
import Derived.Shelf.Abstract
import Derived.WalkKit
import Derived.OwnWalkIn
import Derived.TacticsInMore
import Derived.LoopNIn
import Derived.LoopIn
import Derived.Maps.AppendAt
import Derived.WideKeyEntry
set_option linter.unusedSimpArgs false
set_option linter.unusedVariables false
set_option linter.unusedSectionVars false

set_option maxRecDepth 100000
set_option maxHeartbeats 8000000
namespace Go.Proofs.YtblbegbjlaokjaaGreatDoor
open Go.ChangeMaps (setBlock)
section
open Go.RowKit
attribute [local go_sem] aH aC aN aK aP aF aO Value.cells
def Fz (w:World) (a:Option Addr):Prop:=∀p o,a=some ⟨p,o,none⟩→∃C U,w.heap[p]? =some (.cells C U (0,0))
section
variable {α:Type} {P:Program} {T E:TypeId} {f:α→Array Value} {n B:Nat}
theorem uO (hT:nU P T E f n B) {g o cap len:Nat} (hk:len≤cap) (w:World):
  (Instr.sliceAt T (.slice (some ⟨g,o,none⟩) len cap) none (some (.int .i64 (len:Int))) (some (.int .i64 (len:Int)))).run P w= .ok (.slice (some ⟨g,o,none⟩) len len) w:=by
 obtain⟨i0,z,hi,hz,hz1,hz2,hz3⟩:=hT.info;have hadd:(⟨g,o,none⟩:Addr).add (0*n)=⟨g,o,none⟩:=by
  unfold Addr.add;rw[Nat.zero_mul,if_pos rfl]
 have hp:(0:Int)≤(len:Int)∧(len:Int)≤(cap:Int):=⟨by omega,by omega⟩;have hp2:(0:Int)≤(len:Int)∧(len:Int)≤(len:Int):=⟨by omega,by omega⟩;simp only[Instr.sliceAt,Instr.slice,Instr.sliceBounds,Instr.sliceBound,asIntOf,sizeOf,typeInfo,run_underlying hT.u,hi,Sem.run_bind,Sem.run_pure,Result.andThen_ok];rw[if_pos hp];simp only[Sem.run_pure,Result.andThen_ok,Go.program,Sem.run,hi,hz1,aYj,aWm,hadd,Nat.sub_zero,ite_self,hp2,and_self,if_true]
theorem qJ (hT:nU P T E f n B) (w:World):
  (Instr.sliceAt T (.slice none 0 0) none (some (.int .i64 0)) (some (.int .i64 0))).run P w= .ok (.slice none 0 0) w:=by
 obtain⟨i0,z,hi,hz,hz1,hz2,hz3⟩:=hT.info;simp only[Instr.sliceAt,Instr.slice,Instr.sliceBounds,Instr.sliceBound,asIntOf,sizeOf,typeInfo,run_underlying hT.u,hi,Sem.run_bind,Sem.run_pure,Result.andThen_ok];rw[if_pos ⟨by omega,by omega⟩];simp[Sem.run_pure,Result.andThen_ok,Go.program,Sem.run,hi,hz1]
theorem fO (hT:nU P T E f n B) {w:World} {base:Nat} {v:Value} {l:List α} (h:aE f n E w base v l):
  ∃a c,v= .slice a l.length c∧(∀w2,(Instr.sliceAt T v none (some (.int .i64 (l.length:Int))) (some (.int .i64 (l.length:Int)))).run P w2= .ok (.slice a l.length l.length) w2)∧aS f n w a l∧(∀x,a=some x→base≤x.block∧v.ownBlock=some x.block)∧Fz w a:=by
 obtain⟨a,c,h1,h2,h3,h4⟩:=h.at hT;rcases h.2 with⟨rfl,hn⟩|⟨g,cap,cur,rfl,hb,hg,hnc,hcm,hcs,htake⟩
 ·obtain rfl:l=[]:=aYn hn;injection h1 with e1 e2 e3
  subst e1;exact⟨none,0,rfl,fun w2=>qJ hT w2,h2,fun x hx=>⟨(h3 x hx).1,(h3 x hx).2.2⟩,fun p o e=>by cases e⟩
 ·injection h1 with e1 e2 e3
  subst e1;exact⟨_,cap,rfl,fun w2=>uO hT hnc w2,h2,fun x hx=>⟨(h3 x hx).1,(h3 x hx).2.2⟩,fun p o e=>by cases e;exact⟨_,_,hg⟩⟩
end
section
variable {α:Type} {P:Program} {T E:TypeId} {f:α→Array Value} {n B:Nat}
def aY (f:α→Array Value) (n:Nat) (E:TypeId) (base:Nat) (w:World) (v:Value) (l:List α):Prop:=
 (v= .slice none 0 0∧l=[])∨∃g cur,v= .slice (some ⟨g,0,none⟩) l.length l.length∧base≤g∧w.heap[g]? =some (.cells cur E (0,0))∧∀(i:Nat) x,l[i]? =some x→cur.extract (i*n) (i*n+n)=f x∧i*n+n≤cur.size
theorem aY.at {base:Nat} {w:World} {v:Value} {l:List α} (h:aY f n E base w v l):∃a,v= .slice a l.length l.length∧aS f n w a l∧∀g o,a=some ⟨g,o,none⟩→base≤g∧g<w.heap.size:=by
 rcases h with⟨rfl,rfl⟩|⟨g,cur,rfl,hb,hg,hc⟩
 ·exact⟨none,rfl,.inl rfl,fun g o e=>by cases e⟩
 ·exact⟨_,rfl,.inr ⟨g,0,cur,_,_,rfl,hg,fun i x hx=>by simpa using hc i x hx⟩,fun g' o e=>by cases e;exact⟨hb,aA hg⟩⟩
theorem aY.mod {base:Nat} {w w':World} {v:Value} {l:List α} {S:Nat→Prop} (h:aY f n E base w v l) (hm:Mod S w w') (hS:∀g,v.ownBlock=some g→¬S g):aY f n E base w' v l:=by
 rcases h with h|⟨g,cur,rfl,hb,hg,hc⟩
 ·exact .inl h
 ·exact .inr ⟨g,cur,rfl,hb,hm.at hg (hS g rfl),hc⟩
theorem aY.mod0 {base:Nat} {w w':World} {v:Value} {l:List α} (h:aY f n E base w v l) (hm:Mod (fun _=>False) w w'):aY f n E base w' v l:=h.mod hm (fun _ _ h=>h)
theorem aY.base {b b':Nat} {w:World} {v:Value} {l:List α} (h:aY f n E b w v l) (hb:b'≤b):aY f n E b' w v l:=by
 rcases h with h|⟨g,cur,e,h1,h2⟩
 ·exact .inl h
 ·exact .inr ⟨g,cur,e,aYb hb h1,h2⟩
theorem aY.lt {base:Nat} {w:World} {v:Value} {l:List α} (h:aY f n E base w v l):∀g,v.ownBlock=some g→base≤g∧g<w.heap.size:=by
 intro g hg;rcases h with⟨rfl,_⟩|⟨g',cur,rfl,h1,h2,_⟩
 ·cases hg
 ·cases hg;exact⟨h1,aA h2⟩
theorem lU {w:World} {base q:Nat} (hb:base≤q) (hg:w.heap[q]? =some (.cells #[] E (0,0))):aE f n E w base (.slice (some ⟨q,0,none⟩) 0 0) ([]:List α):=
 ⟨by simp[cellsOf],.inr ⟨q,0,#[],rfl,hb,hg,aZq _,by simp[maxLen],by simp,by simp[cellsOf]⟩⟩
theorem aE.clip (hT:nU P T E f n B) {w:World} {base:Nat} {v:Value} {l:List α} (h:aE f n E w base v l):
  ∃a c v2,v= .slice a l.length c∧(∀w2,(Instr.sliceAt T v none (some (.int .i64 (l.length:Int))) (some (.int .i64 (l.length:Int)))).run P w2= .ok v2 w2)∧aY f n E base w v2 l:=by
 rcases h.2 with⟨rfl,hn⟩|⟨g,cap,cur,rfl,hb,hg,hnc,hcm,hcs,htake⟩
 ·obtain rfl:l=[]:=aYn hn;exact⟨none,0,_,rfl,fun w2=>qJ hT w2,.inl ⟨rfl,rfl⟩⟩
 ·refine⟨_,cap,_,rfl,fun w2=>uO hT hnc w2,.inr ⟨g,cur,rfl,hb,hg,fun i x hx=> ?_⟩⟩;obtain⟨a,c,e,hat,_⟩:=h.at hT;injection e with e1 _ _
  subst e1;obtain⟨b,o,C,U,fr,e2,hb2,he,hle⟩:=hat.block hx;cases e2;rw[hg]at hb2;cases hb2;simpa using Ai he hle
end
theorem V7 (w:World):(Instr.buildSlice 29 0 #[]).run Tryz.prog w= .ok (.slice (some ⟨w.heap.size,0,none⟩) 0 0) (w.alloc (.cells #[] 5)):=by kernel_rfl
theorem OM (w:World) (a:Option Addr) (n c:Nat):(binOp .eql 29 (.slice a n c) (.slice none 0 0)).run Tryz.prog w= .ok (.bool a.isNone) w:=by
 cases a<;>kernel_rfl
theorem EZ {w:World} {a:Option Addr} {l:List UInt8} {c:Nat} (hl:aS uc 1 w a l) (hlen:l.length≤1000000):Calls Tryz.prog 123 #[.slice a l.length c] w fun e w'=>∃v,e= .returned v∧aE uc 1 5 w' w.heap.size v l∧Mod (fun _=>False) w w':=by
 have he:=OM;cases a with
 |none=>
  obtain rfl:l=[]:=by
   rcases hl with h|⟨_,_,_,_,_,h,_⟩
   ·exact h
   ·cases h
  go_enter Tryz.func123,Tryz.ntmps123;go_wp2_with fail;go_ret;exact⟨_,rfl,aE.nil _ _,Mod.refl _ _⟩
 |some p=>
  have HL:=Hi hl;have hbs:=V7;generalize hll:l.length=ll at *;have HLL:=Hi hll;clear hl hll;go_enter Tryz.func123,Tryz.ntmps123;go_upto_region 3 with fail;refine ZP0 [3,0,5,0] ?_;refine Zy hbs fun p5 hp5=> ?_;refine Zv ?_;refine Zi fun w1 hr=> ?_;obtain⟨gp5,kp5⟩:=hr.b p5;have m1:=hr.mod;clear hr;obtain⟨v3,w6,hap,hO6,m6,hn6⟩:=aE.append EV (c:=c) (lU (f:=uc) (n:=1) gp5 kp5) (HL.out.mod0 m1) (by simp;have:=HLL.out;omega) (by decide) m1.size 29;have mF:Mod (fun _=>False) w w6:=m1.then m6 (fun i hi e=>by
   have e2:p5=i:=aZz e;omega)
  rw[HLL.out]at hap;have HO:=Hi hO6;clear hn6 m6 hO6;refine ZA hap ?_;refine Ze ?_;refine TE.nil ?_;go_wp2_with fail;go_ret;exact⟨_,rfl,HO.out,mF⟩
theorem clipB_c (v2:Value) (w:World) (n:Nat) {a:Option Addr} {c:Nat} (h:∀w2,(Instr.sliceAt 29 (.slice a n c) none (some (.int .i64 (n:Int))) (some (.int .i64 (n:Int)))).run Tryz.prog w2= .ok v2 w2):
  Calls Tryz.prog 122 #[.slice a n c] w fun e w'=>e= .returned v2∧w'=w:=by
 go_enter Tryz.func122,Tryz.ntmps122;go_wp2_with fail;go_ret;exact⟨rfl,rfl⟩
theorem qD {w:World} {a:Option Addr} {l:List UInt8} {c:Nat} (hl:aS uc 1 w a l) (hlen:l.length≤1000000):Calls Tryz.prog 81 #[.slice a l.length c] w fun e w'=>∃v,e= .returned v∧aY uc 1 5 w.heap.size w' v l∧Mod (fun _=>False) w w':=by
 have HC:=Hi (fun(_:True)=>EZ (c:=c) hl hlen);generalize hll:l.length=ll at *;have HLL:=Hi hll;clear hl hlen hll;go_enter Tryz.func81,Tryz.ntmps81;go_wp2_with fail;go_at_call 123;refine(HC.out trivial).mono ?_;rintro e w1 ⟨v,rfl,hO,m1⟩;obtain⟨a2,c2,v2,rfl,hcl,hN⟩:=hO.clip EV;have HN:=Hi hN;rw[HLL.out]at hcl;have HCL:=Hi hcl;rw[HLL.out];clear hO hN hcl;go_wp2_with fail;go_at_call 122;refine(clipB_c v2 _ ll HCL.out).mono ?_;rintro e w2 ⟨rfl,rfl⟩;go_wp2_with fail;go_ret;exact⟨_,rfl,HN.out,m1⟩
theorem WB (w:World):(Instr.buildSlice 42 0 #[]).run Tryz.prog w= .ok (.slice (some ⟨w.heap.size,0,none⟩) 0 0) (w.alloc (.cells #[] 178)):=by kernel_rfl
theorem OQ (w:World) (a:Option Addr) (n c:Nat):(binOp .eql 42 (.slice a n c) (.slice none 0 0)).run Tryz.prog w= .ok (.bool a.isNone) w:=by
 cases a<;>kernel_rfl
theorem E6 {w:World} {a:Option Addr} {l:List aT} {c:Nat} (hl:aS rcr 34 w a l) (hlen:l.length≤1000000):Calls Tryz.prog 125 #[.slice a l.length c] w fun e w'=>∃v,e= .returned v∧aE rcr 34 178 w' w.heap.size v l∧Mod (fun _=>False) w w':=by
 have he:=OQ;cases a with
 |none=>
  obtain rfl:l=[]:=by
   rcases hl with h|⟨_,_,_,_,_,h,_⟩
   ·exact h
   ·cases h
  go_enter Tryz.func125,Tryz.ntmps125;go_wp2_with fail;go_ret;exact⟨_,rfl,aE.nil _ _,Mod.refl _ _⟩
 |some p=>
  have HL:=Hi hl;have hbs:=WB;generalize hll:l.length=ll at *;have HLL:=Hi hll;clear hl hll;go_enter Tryz.func125,Tryz.ntmps125;go_upto_region 3 with fail;refine ZP0 [3,0,5,0] ?_;refine Zy hbs fun p5 hp5=> ?_;refine Zv ?_;refine Zi fun w1 hr=> ?_;obtain⟨gp5,kp5⟩:=hr.b p5;have m1:=hr.mod;clear hr;obtain⟨v3,w6,hap,hO6,m6,hn6⟩:=aE.append IH (c:=c) (lU (f:=rcr) (n:=34) gp5 kp5) (HL.out.mod0 m1) (by simp;have:=HLL.out;omega) (by decide) m1.size 42;have mF:Mod (fun _=>False) w w6:=m1.then m6 (fun i hi e=>by
   have e2:p5=i:=aZz e;omega)
  rw[HLL.out]at hap;have HO:=Hi hO6;clear hn6 m6 hO6;refine ZA hap ?_;refine Ze ?_;refine TE.nil ?_;go_wp2_with fail;go_ret;exact⟨_,rfl,HO.out,mF⟩
theorem clipR_c (v2:Value) (w:World) (n:Nat) {a:Option Addr} {c:Nat} (h:∀w2,(Instr.sliceAt 42 (.slice a n c) none (some (.int .i64 (n:Int))) (some (.int .i64 (n:Int)))).run Tryz.prog w2= .ok v2 w2):
  Calls Tryz.prog 124 #[.slice a n c] w fun e w'=>e= .returned v2∧w'=w:=by
 go_enter Tryz.func124,Tryz.ntmps124;go_wp2_with fail;go_ret;exact⟨rfl,rfl⟩
theorem PV {w:World} {a:Option Addr} {l:List aT} {c:Nat} (hl:aS rcr 34 w a l) (hlen:l.length≤1000000):Calls Tryz.prog 82 #[.slice a l.length c] w fun e w'=>∃v,e= .returned v∧aY rcr 34 178 w.heap.size w' v l∧Mod (fun _=>False) w w':=by
 have HC:=Hi (fun(_:True)=>E6 (c:=c) hl hlen);generalize hll:l.length=ll at *;have HLL:=Hi hll;clear hl hlen hll;go_enter Tryz.func82,Tryz.ntmps82;go_wp2_with fail;go_at_call 125;refine(HC.out trivial).mono ?_;rintro e w1 ⟨v,rfl,hO,m1⟩;obtain⟨a2,c2,v2,rfl,hcl,hN⟩:=hO.clip IH;have HN:=Hi hN;rw[HLL.out]at hcl;have HCL:=Hi hcl;rw[HLL.out];clear hO hN hcl;go_wp2_with fail;go_at_call 124;refine(clipR_c v2 _ ll HCL.out).mono ?_;rintro e w2 ⟨rfl,rfl⟩;go_wp2_with fail;go_ret;exact⟨_,rfl,HN.out,m1⟩
theorem WC (w:World):(Instr.buildSlice 30 0 #[]).run Tryz.prog w= .ok (.slice (some ⟨w.heap.size,0,none⟩) 0 0) (w.alloc (.cells #[] 92)):=by kernel_rfl
theorem OR (w:World) (a:Option Addr) (n c:Nat):(binOp .eql 30 (.slice a n c) (.slice none 0 0)).run Tryz.prog w= .ok (.bool a.isNone) w:=by
 cases a<;>kernel_rfl
theorem E7 {w:World} {a:Option Addr} {l:List Sg} {c:Nat} (hl:aS sgc 64 w a l) (hlen:l.length≤1000000):Calls Tryz.prog 127 #[.slice a l.length c] w fun e w'=>∃v,e= .returned v∧aE sgc 64 92 w' w.heap.size v l∧Mod (fun _=>False) w w':=by
 have he:=OR;cases a with
 |none=>
  obtain rfl:l=[]:=by
   rcases hl with h|⟨_,_,_,_,_,h,_⟩
   ·exact h
   ·cases h
  go_enter Tryz.func127,Tryz.ntmps127;go_wp2_with fail;go_ret;exact⟨_,rfl,aE.nil _ _,Mod.refl _ _⟩
 |some p=>
  have HL:=Hi hl;have hbs:=WC;generalize hll:l.length=ll at *;have HLL:=Hi hll;clear hl hll;go_enter Tryz.func127,Tryz.ntmps127;go_upto_region 3 with fail;refine ZP0 [3,0,5,0] ?_;refine Zy hbs fun p5 hp5=> ?_;refine Zv ?_;refine Zi fun w1 hr=> ?_;obtain⟨gp5,kp5⟩:=hr.b p5;have m1:=hr.mod;clear hr;obtain⟨v3,w6,hap,hO6,m6,hn6⟩:=aE.append XM (c:=c) (lU (f:=sgc) (n:=64) gp5 kp5) (HL.out.mod0 m1) (by simp;have:=HLL.out;omega) (by decide) m1.size 30;have mF:Mod (fun _=>False) w w6:=m1.then m6 (fun i hi e=>by
   have e2:p5=i:=aZz e;omega)
  rw[HLL.out]at hap;have HO:=Hi hO6;clear hn6 m6 hO6;refine ZA hap ?_;refine Ze ?_;refine TE.nil ?_;go_wp2_with fail;go_ret;exact⟨_,rfl,HO.out,mF⟩
theorem clipS_c (v2:Value) (w:World) (n:Nat) {a:Option Addr} {c:Nat} (h:∀w2,(Instr.sliceAt 30 (.slice a n c) none (some (.int .i64 (n:Int))) (some (.int .i64 (n:Int)))).run Tryz.prog w2= .ok v2 w2):
  Calls Tryz.prog 126 #[.slice a n c] w fun e w'=>e= .returned v2∧w'=w:=by
 go_enter Tryz.func126,Tryz.ntmps126;go_wp2_with fail;go_ret;exact⟨rfl,rfl⟩
theorem PW {w:World} {a:Option Addr} {l:List Sg} {c:Nat} (hl:aS sgc 64 w a l) (hlen:l.length≤1000000):Calls Tryz.prog 83 #[.slice a l.length c] w fun e w'=>∃v,e= .returned v∧aY sgc 64 92 w.heap.size w' v l∧Mod (fun _=>False) w w':=by
 have HC:=Hi (fun(_:True)=>E7 (c:=c) hl hlen);generalize hll:l.length=ll at *;have HLL:=Hi hll;clear hl hlen hll;go_enter Tryz.func83,Tryz.ntmps83;go_wp2_with fail;go_at_call 127;refine(HC.out trivial).mono ?_;rintro e w1 ⟨v,rfl,hO,m1⟩;obtain⟨a2,c2,v2,rfl,hcl,hN⟩:=hO.clip XM;have HN:=Hi hN;rw[HLL.out]at hcl;have HCL:=Hi hcl;rw[HLL.out];clear hO hN hcl;go_wp2_with fail;go_at_call 126;refine(clipS_c v2 _ ll HCL.out).mono ?_;rintro e w2 ⟨rfl,rfl⟩;go_wp2_with fail;go_ret;exact⟨_,rfl,HN.out,m1⟩
theorem V9 (w:World):(Instr.buildSlice 33 0 #[]).run Tryz.prog w= .ok (.slice (some ⟨w.heap.size,0,none⟩) 0 0) (w.alloc (.cells #[] 107)):=by kernel_rfl
theorem OO (w:World) (a:Option Addr) (n c:Nat):(binOp .eql 33 (.slice a n c) (.slice none 0 0)).run Tryz.prog w= .ok (.bool a.isNone) w:=by
 cases a<;>kernel_rfl
theorem E2 {w:World} {a:Option Addr} {l:List aQ} {c:Nat} (hl:aS kc 32 w a l) (hlen:l.length≤1000000):Calls Tryz.prog 129 #[.slice a l.length c] w fun e w'=>∃v,e= .returned v∧aE kc 32 107 w' w.heap.size v l∧Mod (fun _=>False) w w':=by
 have he:=OO;cases a with
 |none=>
  obtain rfl:l=[]:=by
   rcases hl with h|⟨_,_,_,_,_,h,_⟩
   ·exact h
   ·cases h
  go_enter Tryz.func129,Tryz.ntmps129;go_wp2_with fail;go_ret;exact⟨_,rfl,aE.nil _ _,Mod.refl _ _⟩
 |some p=>
  have HL:=Hi hl;have hbs:=V9;generalize hll:l.length=ll at *;have HLL:=Hi hll;clear hl hll;go_enter Tryz.func129,Tryz.ntmps129;go_upto_region 3 with fail;refine ZP0 [3,0,5,0] ?_;refine Zy hbs fun p5 hp5=> ?_;refine Zv ?_;refine Zi fun w1 hr=> ?_;obtain⟨gp5,kp5⟩:=hr.b p5;have m1:=hr.mod;clear hr;obtain⟨v3,w6,hap,hO6,m6,hn6⟩:=aE.append MW (c:=c) (lU (f:=kc) (n:=32) gp5 kp5) (HL.out.mod0 m1) (by simp;have:=HLL.out;omega) (by decide) m1.size 33;have mF:Mod (fun _=>False) w w6:=m1.then m6 (fun i hi e=>by
   have e2:p5=i:=aZz e;omega)
  rw[HLL.out]at hap;have HO:=Hi hO6;clear hn6 m6 hO6;refine ZA hap ?_;refine Ze ?_;refine TE.nil ?_;go_wp2_with fail;go_ret;exact⟨_,rfl,HO.out,mF⟩
theorem clipK_c (v2:Value) (w:World) (n:Nat) {a:Option Addr} {c:Nat} (h:∀w2,(Instr.sliceAt 33 (.slice a n c) none (some (.int .i64 (n:Int))) (some (.int .i64 (n:Int)))).run Tryz.prog w2= .ok v2 w2):
  Calls Tryz.prog 128 #[.slice a n c] w fun e w'=>e= .returned v2∧w'=w:=by
 go_enter Tryz.func128,Tryz.ntmps128;go_wp2_with fail;go_ret;exact⟨rfl,rfl⟩
theorem PT {w:World} {a:Option Addr} {l:List aQ} {c:Nat} (hl:aS kc 32 w a l) (hlen:l.length≤1000000):Calls Tryz.prog 84 #[.slice a l.length c] w fun e w'=>∃v,e= .returned v∧aY kc 32 107 w.heap.size w' v l∧Mod (fun _=>False) w w':=by
 have HC:=Hi (fun(_:True)=>E2 (c:=c) hl hlen);generalize hll:l.length=ll at *;have HLL:=Hi hll;clear hl hlen hll;go_enter Tryz.func84,Tryz.ntmps84;go_wp2_with fail;go_at_call 129;refine(HC.out trivial).mono ?_;rintro e w1 ⟨v,rfl,hO,m1⟩;obtain⟨a2,c2,v2,rfl,hcl,hN⟩:=hO.clip MW;have HN:=Hi hN;rw[HLL.out]at hcl;have HCL:=Hi hcl;rw[HLL.out];clear hO hN hcl;go_wp2_with fail;go_at_call 128;refine(clipK_c v2 _ ll HCL.out).mono ?_;rintro e w2 ⟨rfl,rfl⟩;go_wp2_with fail;go_ret;exact⟨_,rfl,HN.out,m1⟩
theorem V8 (w:World):(Instr.buildSlice 36 0 #[]).run Tryz.prog w= .ok (.slice (some ⟨w.heap.size,0,none⟩) 0 0) (w.alloc (.cells #[] 106)):=by kernel_rfl
theorem ON (w:World) (a:Option Addr) (n c:Nat):(binOp .eql 36 (.slice a n c) (.slice none 0 0)).run Tryz.prog w= .ok (.bool a.isNone) w:=by
 cases a<;>kernel_rfl
theorem E0 {w:World} {a:Option Addr} {l:List oC} {c:Nat} (hl:aS inr 3 w a l) (hlen:l.length≤1000000):Calls Tryz.prog 131 #[.slice a l.length c] w fun e w'=>∃v,e= .returned v∧aE inr 3 106 w' w.heap.size v l∧Mod (fun _=>False) w w':=by
 have he:=ON;cases a with
 |none=>
  obtain rfl:l=[]:=by
   rcases hl with h|⟨_,_,_,_,_,h,_⟩
   ·exact h
   ·cases h
  go_enter Tryz.func131,Tryz.ntmps131;go_wp2_with fail;go_ret;exact⟨_,rfl,aE.nil _ _,Mod.refl _ _⟩
 |some p=>
  have HL:=Hi hl;have hbs:=V8;generalize hll:l.length=ll at *;have HLL:=Hi hll;clear hl hll;go_enter Tryz.func131,Tryz.ntmps131;go_upto_region 3 with fail;refine ZP0 [3,0,5,0] ?_;refine Zy hbs fun p5 hp5=> ?_;refine Zv ?_;refine Zi fun w1 hr=> ?_;obtain⟨gp5,kp5⟩:=hr.b p5;have m1:=hr.mod;clear hr;obtain⟨v3,w6,hap,hO6,m6,hn6⟩:=aE.append GA (c:=c) (lU (f:=inr) (n:=3) gp5 kp5) (HL.out.mod0 m1) (by simp;have:=HLL.out;omega) (by decide) m1.size 36;have mF:Mod (fun _=>False) w w6:=m1.then m6 (fun i hi e=>by
   have e2:p5=i:=aZz e;omega)
  rw[HLL.out]at hap;have HO:=Hi hO6;clear hn6 m6 hO6;refine ZA hap ?_;refine Ze ?_;refine TE.nil ?_;go_wp2_with fail;go_ret;exact⟨_,rfl,HO.out,mF⟩
theorem clipI_c (v2:Value) (w:World) (n:Nat) {a:Option Addr} {c:Nat} (h:∀w2,(Instr.sliceAt 36 (.slice a n c) none (some (.int .i64 (n:Int))) (some (.int .i64 (n:Int)))).run Tryz.prog w2= .ok v2 w2):
  Calls Tryz.prog 130 #[.slice a n c] w fun e w'=>e= .returned v2∧w'=w:=by
 go_enter Tryz.func130,Tryz.ntmps130;go_wp2_with fail;go_ret;exact⟨rfl,rfl⟩
theorem PS {w:World} {a:Option Addr} {l:List oC} {c:Nat} (hl:aS inr 3 w a l) (hlen:l.length≤1000000):Calls Tryz.prog 85 #[.slice a l.length c] w fun e w'=>∃v,e= .returned v∧aY inr 3 106 w.heap.size w' v l∧Mod (fun _=>False) w w':=by
 have HC:=Hi (fun(_:True)=>E0 (c:=c) hl hlen);generalize hll:l.length=ll at *;have HLL:=Hi hll;clear hl hlen hll;go_enter Tryz.func85,Tryz.ntmps85;go_wp2_with fail;go_at_call 131;refine(HC.out trivial).mono ?_;rintro e w1 ⟨v,rfl,hO,m1⟩;obtain⟨a2,c2,v2,rfl,hcl,hN⟩:=hO.clip GA;have HN:=Hi hN;rw[HLL.out]at hcl;have HCL:=Hi hcl;rw[HLL.out];clear hO hN hcl;go_wp2_with fail;go_at_call 130;refine(clipI_c v2 _ ll HCL.out).mono ?_;rintro e w2 ⟨rfl,rfl⟩;go_wp2_with fail;go_ret;exact⟨_,rfl,HN.out,m1⟩
theorem WA (w:World):(Instr.buildSlice 37 0 #[]).run Tryz.prog w= .ok (.slice (some ⟨w.heap.size,0,none⟩) 0 0) (w.alloc (.cells #[] 109)):=by kernel_rfl
theorem OP (w:World) (a:Option Addr) (n c:Nat):(binOp .eql 37 (.slice a n c) (.slice none 0 0)).run Tryz.prog w= .ok (.bool a.isNone) w:=by
 cases a<;>kernel_rfl
theorem E5 {w:World} {a:Option Addr} {l:List oM} {c:Nat} (hl:aS lor 34 w a l) (hlen:l.length≤1000000):Calls Tryz.prog 133 #[.slice a l.length c] w fun e w'=>∃v,e= .returned v∧aE lor 34 109 w' w.heap.size v l∧Mod (fun _=>False) w w':=by
 have he:=OP;cases a with
 |none=>
  obtain rfl:l=[]:=by
   rcases hl with h|⟨_,_,_,_,_,h,_⟩
   ·exact h
   ·cases h
  go_enter Tryz.func133,Tryz.ntmps133;go_wp2_with fail;go_ret;exact⟨_,rfl,aE.nil _ _,Mod.refl _ _⟩
 |some p=>
  have HL:=Hi hl;have hbs:=WA;generalize hll:l.length=ll at *;have HLL:=Hi hll;clear hl hll;go_enter Tryz.func133,Tryz.ntmps133;go_upto_region 3 with fail;refine ZP0 [3,0,5,0] ?_;refine Zy hbs fun p5 hp5=> ?_;refine Zv ?_;refine Zi fun w1 hr=> ?_;obtain⟨gp5,kp5⟩:=hr.b p5;have m1:=hr.mod;clear hr;obtain⟨v3,w6,hap,hO6,m6,hn6⟩:=aE.append AQ (c:=c) (lU (f:=lor) (n:=34) gp5 kp5) (HL.out.mod0 m1) (by simp;have:=HLL.out;omega) (by decide) m1.size 37;have mF:Mod (fun _=>False) w w6:=m1.then m6 (fun i hi e=>by
   have e2:p5=i:=aZz e;omega)
  rw[HLL.out]at hap;have HO:=Hi hO6;clear hn6 m6 hO6;refine ZA hap ?_;refine Ze ?_;refine TE.nil ?_;go_wp2_with fail;go_ret;exact⟨_,rfl,HO.out,mF⟩
theorem clipL_c (v2:Value) (w:World) (n:Nat) {a:Option Addr} {c:Nat} (h:∀w2,(Instr.sliceAt 37 (.slice a n c) none (some (.int .i64 (n:Int))) (some (.int .i64 (n:Int)))).run Tryz.prog w2= .ok v2 w2):
  Calls Tryz.prog 132 #[.slice a n c] w fun e w'=>e= .returned v2∧w'=w:=by
 go_enter Tryz.func132,Tryz.ntmps132;go_wp2_with fail;go_ret;exact⟨rfl,rfl⟩
theorem PU {w:World} {a:Option Addr} {l:List oM} {c:Nat} (hl:aS lor 34 w a l) (hlen:l.length≤1000000):Calls Tryz.prog 86 #[.slice a l.length c] w fun e w'=>∃v,e= .returned v∧aY lor 34 109 w.heap.size w' v l∧Mod (fun _=>False) w w':=by
 have HC:=Hi (fun(_:True)=>E5 (c:=c) hl hlen);generalize hll:l.length=ll at *;have HLL:=Hi hll;clear hl hlen hll;go_enter Tryz.func86,Tryz.ntmps86;go_wp2_with fail;go_at_call 133;refine(HC.out trivial).mono ?_;rintro e w1 ⟨v,rfl,hO,m1⟩;obtain⟨a2,c2,v2,rfl,hcl,hN⟩:=hO.clip AQ;have HN:=Hi hN;rw[HLL.out]at hcl;have HCL:=Hi hcl;rw[HLL.out];clear hO hN hcl;go_wp2_with fail;go_at_call 132;refine(clipL_c v2 _ ll HCL.out).mono ?_;rintro e w2 ⟨rfl,rfl⟩;go_wp2_with fail;go_ret;exact⟨_,rfl,HN.out,m1⟩
end
structure An where
 a:Nat
 id:Int64
 ch:Int64
 pt:Nat
 ks:List (aQ×Bool)
deriving DecidableEq
def An.how (x:An) (k:aQ):Option Bool:=lkp k x.ks
def jG (k:aQ) (x y:Option Bool):Prop:=match x,y with
 |some a,some b=>a=true∨b=true
 |_,_=>False
def VK (x y:An):Prop:=∃k,jG k (x.how k) (y.how k)
theorem rY {k:aQ} {x y:Option Bool} (h:jG k x y):jG k y x:=by
 unfold jG at *;cases x<;>cases y<;>simp_all
 grind
theorem VK.symm {x y:An} (h:VK x y):VK y x:=h.imp fun _=>rY
def stepS (k:aQ) (s:Option An×List An) (x:An):Option An×List An:=match x.how k with
 |none=>s
 |some true=>(some x,[])
 |some false=>(s.1,s.2++[x])
def spotOf (k:aQ) (L:List An):Option An×List An:=L.foldl (stepS k) (none,[])
@[simp] theorem spotOf_nil (k:aQ):spotOf k []=(none,[]):=rfl
theorem spotOf_snoc (k:aQ) (L:List An) (x:An):spotOf k (L++[x])=stepS k (spotOf k L) x:=by simp[spotOf]
def l7 (L:List An) (k:aQ) (wr:Bool):List An:=(spotOf k L).1.toList++if wr then(spotOf k L).2 else []
def dX (L:List An) (ks:List (aQ×Bool)):List An:=ks.flatMap fun p=>l7 L p.1 p.2
theorem bA {α:Type} {P:List α→Prop} (h0:P []) (h1:∀l x,P l→P (l++[x])):∀l,P l:=by
 intro l;rw[←List.reverse_reverse l]
 induction l.reverse with
 |nil=>exact h0
 |cons x r ih=>rw[List.reverse_cons];exact h1 _ _ ih
theorem spotOf_writer {k:aQ}:∀ {L:List An} {x:An},(spotOf k L).1=some x→x∈L∧x.how k=some true:=by
 intro L
 induction L using bA with
 |h0=>intro x h;simp at h
 |h1 l y ih=>
  intro x h;rw[spotOf_snoc]at h;unfold stepS at h;split at h
  ·obtain⟨h1,h2⟩:=ih h;exact⟨aZl _ h1,h2⟩
  ·cases h;exact⟨by simp,by assumption⟩
  ·obtain⟨h1,h2⟩:=ih h;exact⟨aZl _ h1,h2⟩
theorem dI {k:aQ}:∀ {L:List An} {x:An},x∈(spotOf k L).2→x∈L∧x.how k=some false:=by
 intro L
 induction L using bA with
 |h0=>intro x h;simp at h
 |h1 l y ih=>
  intro x h;rw[spotOf_snoc]at h;unfold stepS at h;split at h
  ·obtain⟨h1,h2⟩:=ih h;exact⟨aZl _ h1,h2⟩
  ·cases h
  ·rcases aZh.1 h with h|h
   ·obtain⟨h1,h2⟩:=ih h;exact⟨aZl _ h1,h2⟩
   ·obtain rfl:=aZm.1 h;exact⟨by simp,by assumption⟩
theorem gH {k:aQ}:∀ {L:List An} {x:An},x∈L→x.how k=some true→(spotOf k L).1≠none:=by
 intro L
 induction L using bA with
 |h0=>intro x h;simp at h
 |h1 l y ih=>
  intro x h hx;rw[spotOf_snoc];unfold stepS;rcases aZh.1 h with h|h
  ·have:=ih h hx;split<;>simp_all
  ·obtain rfl:=aZm.1 h;rw[hx];simp
theorem spotOf_has_reader {k:aQ}:∀ {L:List An} {x:An},x∈L→x.how k=some false→(spotOf k L).1≠none∨x∈(spotOf k L).2:=by
 intro L
 induction L using bA with
 |h0=>intro x h;simp at h
 |h1 l y ih=>
  intro x h hx;rw[spotOf_snoc];unfold stepS;rcases aZh.1 h with h|h
  ·have:=ih h hx;split
   ·exact this
   ·exact .inl (by simp)
   ·exact this.imp _root_.id (fun h=>aZl _ h)
  ·obtain rfl:=aZm.1 h;rw[hx];exact .inr (by simp)
theorem IX {L:List An} {k:aQ} {wr:Bool} {x:An} (h:x∈l7 L k wr):x∈L∧jG k (x.how k) (some wr):=by
 rcases aZh.1 h with h|h
 ·obtain⟨h1,h2⟩:=spotOf_writer (Option.mem_toList.1 h);exact⟨h1,by rw[h2];exact .inl rfl⟩
 ·cases wr with
  |false=>simp at h
  |true=>
   obtain⟨h1,h2⟩:=dI (show x∈(spotOf k L).2 by simpa using h);exact⟨h1,by rw[h2];exact .inr rfl⟩
theorem L9 {L:List An} {k:aQ} {wr:Bool} {x:An} (hx:x∈L) (h:jG k (x.how k) (some wr)):l7 L k wr≠[]:=by
 unfold l7;cases hh:x.how k with
 |none=>rw[hh]at h;exact h.elim
 |some b=>
  rw[hh]at h;cases b with
  |true=>
   have:=gH hx hh;cases hs:(spotOf k L).1 with
   |none=>exact absurd hs this
   |some y=>simp
  |false=>
   have hw:wr=true:=by rcases h with h|h<;>simp_all
   subst hw;rcases spotOf_has_reader hx hh with h1|h1
   ·cases hs:(spotOf k L).1 with
    |none=>exact absurd hs h1
    |some y=>simp
   ·intro e;have:=List.append_eq_nil_iff.1 e;have h2:(spotOf k L).2=[]:=by simpa using this.2
    rw[h2]at h1;cases h1
theorem xB {X Y:List An} {b:An} {k:aQ} {wr:Bool} (hb:jG k (b.how k) (some wr)) (hY:∀y∈Y,¬jG k (y.how k) (some wr)):b∈l7 (X++b::Y) k wr:=by
 induction Y using bA with
 |h0=>
  unfold l7;rw[spotOf_snoc];unfold stepS;cases hh:b.how k with
  |none=>rw[hh]at hb;exact hb.elim
  |some v=>
   cases v with
   |true=>simp
   |false=>
    have hw:wr=true:=by rw[hh]at hb;rcases hb with h|h<;>simp_all
    subst hw;simp
 |h1 Y y ih=>
  have ih:=ih (fun z hz=>hY z (aZl _ hz));have hy:=hY y (by simp);unfold l7 at ih⊢;rw[show X++b::(Y++[y])=(X++b::Y)++[y]by simp,spotOf_snoc];unfold stepS;cases hh:y.how k with
  |none=>exact ih
  |some v=>
   rw[hh]at hy;cases v with
   |true=>exact absurd (.inl rfl) hy
   |false=>
    cases wr with
    |true=>exact absurd (.inr rfl) hy
    |false=>simpa using ih
theorem jU {L:List An} {ks:List (aQ×Bool)} {x:An} (h:x∈dX L ks):x∈L∧∃p∈ks,jG p.1 (x.how p.1) (some p.2):=by
 obtain⟨p,hp,hx⟩:=List.mem_flatMap.1 h;obtain⟨h1,h2⟩:=IX hx;exact⟨h1,p,hp,h2⟩
theorem BL {L:List An} {ks:List (aQ×Bool)} {x:An} (hx:x∈L) {p:aQ×Bool} (hp:p∈ks) (h:jG p.1 (x.how p.1) (some p.2)):dX L ks≠[]:=by
 intro e;have:=List.flatMap_eq_nil_iff.1 e p hp;exact L9 hx h this
theorem xC {X Y:List An} {b:An} {ks:List (aQ×Bool)} {p:aQ×Bool} (hp:p∈ks) (hb:jG p.1 (b.how p.1) (some p.2)) (hY:∀y∈Y,∀q∈ks,¬jG q.1 (y.how q.1) (some q.2)):b∈dX (X++b::Y) ks:=
 List.mem_flatMap.2 ⟨p,hp,xB hb (fun y hy=>hY y hy p hp)⟩
theorem nZ {k:aQ} {L1:List An} {p:An} (hp1:p∉L1) (hc:p.how k=some true→∀x∈L1,x.how k=none):∀L2:List An,p∉L2→
  spotOf k (L1++L2)=((spotOf k (L1++p::L2)).1.filter (fun x=>decide (x≠p)),(spotOf k (L1++p::L2)).2.filter (fun x=>decide (x≠p))):=by
 intro L2
 induction L2 using bA with
 |h0=>
  intro _;rw[aYx,spotOf_snoc];have hw:∀x,(spotOf k L1).1=some x→x≠p:=fun x hx e=>hp1 (e▸(spotOf_writer hx).1);have hr:(spotOf k L1).2.filter (fun x=>decide (x≠p))=(spotOf k L1).2:=by
   rw[aX1];intro x hx;exact Dt (fun e=>hp1 (e▸(dI hx).1))
  have h1:(spotOf k L1).1.filter (fun x=>decide (x≠p))=(spotOf k L1).1:=by
   cases hs:(spotOf k L1).1 with
   |none=>rfl
   |some x=>simp[Option.filter,hw x hs]
  unfold stepS;split
  ·rw[h1,hr]
  ·rename_i hh;have hn:=hc hh
   have:spotOf k L1=(none,[]):=by
    apply Prod.ext
    ·cases hs:(spotOf k L1).1 with
     |none=>rfl
     |some x=>
      obtain⟨h2,h3⟩:=spotOf_writer hs;rw[hn x h2]at h3;cases h3
    ·cases hs:(spotOf k L1).2 with
     |nil=>rfl
     |cons x r=>
      obtain⟨h2,h3⟩:=dI (k:=k) (L:=L1) (x:=x) (by rw[hs];simp);rw[hn x h2]at h3;cases h3
   rw[this];simp[Option.filter]
  ·rw[aZ6,hr,h1];simp
 |h1 Y y ih=>
  intro hy;have hyp:y≠p:=fun e=>hy (by simp[e]);have ih:=ih (fun h=>hy (aZl _ h));rw[show L1++(Y++[y])=(L1++Y)++[y]by simp,show L1++p::(Y++[y])=(L1++p::Y)++[y]by simp,spotOf_snoc,spotOf_snoc,ih];unfold stepS;split
  ·rfl
  ·simp[Option.filter,hyp]
  ·rw[aZ6];simp[hyp]
theorem DP {k:aQ} {wr:Bool} {L1 L2:List An} {p:An} (hp1:p∉L1) (hp2:p∉L2) (hc:p.how k=some true→∀x∈L1,x.how k=none):l7 (L1++L2) k wr=(l7 (L1++p::L2) k wr).filter (fun x=>decide (x≠p)):=by
 unfold l7;rw[nZ hp1 hc L2 hp2,aZ6];congr 1
 ·cases(spotOf k (L1++p::L2)).1 with
  |none=>rfl
  |some x=>
   by_cases e:x=p<;>simp[Option.filter,e]
 ·split<;>simp
theorem DQ {ks:List (aQ×Bool)} {L1 L2:List An} {p:An} (hp1:p∉L1) (hp2:p∉L2) (hc:∀k,p.how k=some true→∀x∈L1,x.how k=none):dX (L1++L2) ks=(dX (L1++p::L2) ks).filter (fun x=>decide (x≠p)):=by
 unfold dX
 induction ks with
 |nil=>rfl
 |cons q r ih=>rw[aWe,aWe,aZ6,ih,DP hp1 hp2 (hc q.1)]
section
open Go.RowKit
theorem fF:nU Tryz.prog 236 238 pc 1 8 where
 u:=Tryz.underlying236
 info:=by
  obtain⟨i0,hi,hz0,hz1,hz2⟩:=info_parts (show(Tryz.prog.info? 238).map (fun i=>(i.zero,i.size,i.bytes))=some (some (.pointer none),1,8)by kernel_rfl);exact⟨i0,_,hi,hz0,hz1,hz2,rfl⟩
 pos:=by omega
 size x:=rfl
 one x u hu:=by
  simp[pc]at hu;subst hu;rfl
theorem iF {w:World} {base:Nat} {v:Value} {L:List Nat} (h:aE pc 1 238 w base v L) (hL:L≠[]):
  ∃g cap cur,v= .slice (some ⟨g,0,none⟩) L.length cap∧base≤g∧w.heap[g]? =some (.cells cur 238 (0,0))∧L.length≤cap∧cap=cur.size∧(∀(i b:Nat),L[i]? =some b→cur[i]? =some (ptrV b))∧
   ∀(w':World) (cur':Array Value) (L':List Nat),w'.heap[g]? =some (.cells cur' 238 (0,0))→cur'.size=cur.size→L'.length=L.length→(∀(i b:Nat),L'[i]? =some b→cur'[i]? =some (ptrV b))→aE pc 1 238 w' base v L':=by
 obtain⟨h0,h⟩:=h;rcases h with⟨_,hn⟩|⟨g,cap,cur,rfl,hb,hg,hnc,hcm,hcs,htake⟩
 ·exact absurd (aYn hn) hL
 ·rw[aYp]at hcs htake;refine⟨g,cap,cur,rfl,hb,hg,hnc,hcs.symm,fun i b hi=> ?_,fun w' cur' L' hg' hsz hl hc=>⟨?_,.inr ⟨g,cap,cur',by rw[hl],hb,hg',by omega,hcm,by omega,?_⟩⟩⟩
  ·rw[bP]at htake;have h1:=congrArg (fun l=>l[i]?) htake;have hlt:=(aZa.1 hi).1;simp only[aY7,aZv,hi,aYj,if_pos hlt]at h1;simpa using h1
  ·rw[bP];simp
  ·rw[bP,aYp];apply aXm;intro i;rw[aY7,aZv];by_cases hi:i<L'.length
   ·rw[if_pos hi,aZb hi];have:=hc i _ (aZb hi);simpa using this
   ·rw[if_neg hi,aY1 (by omega)];rfl
theorem k9 {w:World} {v:Value} {L:List Nat} {base:Nat} (h:aE pc 1 238 w base v L) {g:Nat} (hg:v.ownBlock=some g):∃cur,w.heap[g]? =some (.cells cur 238 (0,0)):=by
 rcases h.2 with⟨rfl,_⟩|⟨g',cap,cur,rfl,_,hg',_⟩
 ·cases hg
 ·cases hg;exact⟨cur,hg'⟩
def bv (b:Bool):Value:= .int .i64 (if b then 1 else 0)
structure Nr where
 id:Int64
 ch:Int64
 pt:Nat
 wt:Nat
 nv:Value
 nx:List Nat
 kb:Nat
 ks:List (aQ×Bool)
abbrev JI (x:Nr):Array Value:= #[.int .i64 x.id.toInt,.int .i64 x.ch.toInt,.int .i64 (x.pt:Int),.int .i64 (x.wt:Int),x.nv,.map (some x.kb)]
abbrev u5:=Nat→Option (Nat×Nat)
structure u9 (tag:u5) (w:World) (a:Nat) (x:Nr):Prop where
 c:w.heap[a]? =some (.cells (JI x) 244 (0,0))
 o:aE pc 1 238 w 0 x.nv x.nx
 k:∃es c,w.heap[x.kb]? =some (.map es c)∧aR kv bv es c x.ks
 ta:tag a=some (a,0)
 tk:tag x.kb=some (a,1)
 tn:∀g,x.nv.ownBlock=some g→tag g=some (a,2)
structure Sr where
 wr:Option Nat
 rv:Value
 rs:List Nat
abbrev yW (o:Option Nat):Value:= .pointer (o.map fun b=>⟨b,0,none⟩)
abbrev VC (x:Sr):Array Value:= #[yW x.wr,x.rv]
structure B1 (tag:u5) (w:World) (a:Nat) (x:Sr):Prop where
 c:w.heap[a]? =some (.cells (VC x) 248 (0,0))
 o:aE pc 1 238 w 0 x.rv x.rs
 ta:tag a=some (a,3)
 tr:∀g,x.rv.ownBlock=some g→tag g=some (a,4)
structure dR (tag:u5) (w:World) (g nb sb:Nat) (pu:Nat) (A:List Nat) (N:List (Int64×Nat)) (S:List (aQ×Nat)) (nd:Nat→Nr) (sp:Nat→Sr):Prop where
 c:w.heap[g]? =some (.cells #[.map (some nb),.map (some sb),.int .i64 (pu:Int)] 182 (0,0))
 kn:∃es c,w.heap[nb]? =some (.map es c)∧aR tK ptrV es c N
 ks:∃es c,w.heap[sb]? =some (.map es c)∧aR kv ptrV es c S
 nodes:∀a∈A,u9 tag w a (nd a)
 spots:∀p∈S,B1 tag w p.2 (sp p.2)
 tg:tag g=some (g,5)
 tnb:tag nb=some (g,6)
 tsb:tag sb=some (g,7)
section
variable {tag tag':u5} {w w':World} {g nb sb pu:Nat} {A:List Nat} {N:List (Int64×Nat)} {S:List (aQ×Nat)} {nd:Nat→Nr} {sp:Nat→Sr}
theorem u9.mod {a:Nat} {x:Nr} {M:Nat→Prop} (h:u9 tag w a x) (hm:Mod M w w') (hM:∀i r,tag i=some (a,r)→r≤2→¬M i) (ht:∀i,i<w.heap.size→tag' i=tag i):u9 tag' w' a x:=by
 obtain⟨es,c,hk,M'⟩:=h.k;refine⟨hm.at h.c (hM _ 0 h.ta (by omega)),h.o.mod hm (fun i hi=>hM _ 2 (h.tn i hi) (by omega)),⟨es,c,hm.at hk (hM _ 1 h.tk (by omega)),M'⟩,(ht _ (aA h.c)).trans h.ta,(ht _ (aA hk)).trans h.tk,fun i hi=> ?_⟩;exact(ht _ (h.o.lt _ hi).2).trans (h.tn i hi)
theorem B1.mod {a:Nat} {x:Sr} {M:Nat→Prop} (h:B1 tag w a x) (hm:Mod M w w') (hM:∀i r,tag i=some (a,r)→3≤r→r≤4→¬M i) (ht:∀i,i<w.heap.size→tag' i=tag i):B1 tag' w' a x:=by
 refine⟨hm.at h.c (hM _ 3 h.ta (by omega) (by omega)),h.o.mod hm (fun i hi=>hM _ 4 (h.tr i hi) (by omega) (by omega)),(ht _ (aA h.c)).trans h.ta,fun i hi=> ?_⟩;exact(ht _ (h.o.lt _ hi).2).trans (h.tr i hi)
theorem dR.mod {M:Nat→Prop} (h:dR tag w g nb sb pu A N S nd sp) (hm:Mod M w w') (hM:∀i,tag i≠none→¬M i):dR tag w' g nb sb pu A N S nd sp:=by
 obtain⟨es,c,hk,M1⟩:=h.kn;obtain⟨es2,c2,hk2,M2⟩:=h.ks;have q:∀ {i p},tag i=some p→¬M i:=fun{i p} e=>hM i (by simp[e]);exact⟨hm.at h.c (q h.tg),⟨es,c,hm.at hk (q h.tnb),M1⟩,⟨es2,c2,hm.at hk2 (q h.tsb),M2⟩,fun a ha=>(h.nodes a ha).mod hm (fun i r e _=>q e) (fun _ _=>rfl),fun p hp=>(h.spots p hp).mod hm (fun i r e _ _=>q e) (fun _ _=>rfl),h.tg,h.tnb,h.tsb⟩
def fJ {β:Type} (f:Nat→β) (a:Nat) (x:β):Nat→β:=fun i=>if i=a then x else f i
@[simp] theorem upd_same {β:Type} (f:Nat→β) (a:Nat) (x:β):fJ f a x a=x:=by simp[fJ]
theorem dG {β:Type} (f:Nat→β) {a b:Nat} (x:β) (h:b≠a):fJ f a x b=f b:=by simp[fJ,h]
theorem dR.node {M:Nat→Prop} {a:Nat} {x:Nr} (h:dR tag w g nb sb pu A N S nd sp) (hm:Mod M w w') (hM:∀i b r,tag i=some (b,r)→M i→b=a∧r≤2) (ht:∀i,i<w.heap.size→tag' i=tag i) (hx:u9 tag' w' a x):dR tag' w' g nb sb pu A N S (fJ nd a x) sp:=by
 obtain⟨es,c,hk,M1⟩:=h.kn;obtain⟨es2,c2,hk2,M2⟩:=h.ks;refine⟨hm.at h.c (fun e=> ?_),⟨es,c,hm.at hk (fun e=> ?_),M1⟩,⟨es2,c2,hm.at hk2 (fun e=> ?_),M2⟩,fun b hb=> ?_,fun p hp=>(h.spots p hp).mod hm (fun i r e h3 h4 hi=> ?_) ht,(ht _ (aA h.c)).trans h.tg,(ht _ (aA hk)).trans h.tnb,(ht _ (aA hk2)).trans h.tsb⟩
 ·have:=(hM _ _ _ h.tg e).2;omega
 ·have:=(hM _ _ _ h.tnb e).2;omega
 ·have:=(hM _ _ _ h.tsb e).2;omega
 ·by_cases e:b=a
  ·subst e;rw[upd_same];exact hx
  ·rw[dG _ _ e];exact(h.nodes b hb).mod hm (fun i r e' _ hi=>e (hM _ _ _ e' hi).1) ht
 ·have:=(hM _ _ _ e hi).2;omega
theorem dR.spot {M:Nat→Prop} {a:Nat} {x:Sr} (h:dR tag w g nb sb pu A N S nd sp) (hm:Mod M w w') (hM:∀i b r,tag i=some (b,r)→M i→b=a∧3≤r∧r≤4) (ht:∀i,i<w.heap.size→tag' i=tag i) (hx:B1 tag' w' a x):dR tag' w' g nb sb pu A N S nd (fJ sp a x):=by
 obtain⟨es,c,hk,M1⟩:=h.kn;obtain⟨es2,c2,hk2,M2⟩:=h.ks;refine⟨hm.at h.c (fun e=> ?_),⟨es,c,hm.at hk (fun e=> ?_),M1⟩,⟨es2,c2,hm.at hk2 (fun e=> ?_),M2⟩,fun b hb=>(h.nodes b hb).mod hm (fun i r e h3 hi=> ?_) ht,fun p hp=> ?_,(ht _ (aA h.c)).trans h.tg,(ht _ (aA hk)).trans h.tnb,(ht _ (aA hk2)).trans h.tsb⟩
 ·have:=(hM _ _ _ h.tg e).2;omega
 ·have:=(hM _ _ _ h.tnb e).2;omega
 ·have:=(hM _ _ _ h.tsb e).2;omega
 ·have:=(hM _ _ _ e hi).2;omega
 ·by_cases e:p.2=a
  ·rw[e,upd_same];exact hx
  ·rw[dG _ _ e];exact(h.spots p hp).mod hm (fun i r e' _ _ hi=>e (hM _ _ _ e' hi).1) ht
theorem dR.fewer {A':List Nat} (h:dR tag w g nb sb pu A N S nd sp) (hA:∀a∈A',a∈A):dR tag w g nb sb pu A' N S nd sp:=
 ⟨h.c,h.kn,h.ks,fun b hb=>h.nodes b (hA b hb),h.spots,h.tg,h.tnb,h.tsb⟩
end
def vD (x:Sr) (s:Option An×List An):Prop:=x.wr=s.1.map An.a∧x.rs=s.2.map An.a
def JO (x:Nr) (n:An):Prop:=x.id=n.id∧x.ch=n.ch∧x.pt=n.pt∧x.ks=n.ks
structure eH (pu:Nat) (L:List An) (N:List (Int64×Nat)) (S:List (aQ×Nat)) (nd:Nat→Nr) (sp:Nat→Sr):Prop where
 N:N.Perm (L.map fun x=>(x.id,x.a))
 ad:(L.map An.a).Nodup
 pts:(L.map An.pt).Pairwise (·<·)
 ptu:∀x∈L,x.pt<pu
 pub:pu≤900
 kl:∀x∈L,x.ks.length≤1000
 nxl:∀b∈L,(nd b.a).nx.length≤pu*1000000
 nds:∀x∈L,JO (nd x.a) x
 kn:∀x∈L,(x.ks.map Prod.fst).Nodup
 sn:(S.map Prod.snd).Nodup
 sps:∀k,(∀s,lkp k S=some s→vD (sp s) (spotOf k L))∧(lkp k S=none→spotOf k L=(none,[]))
 wts:∀X x Y,L=X++x::Y→(nd x.a).wt=(dX X x.ks).length
 nxs:∀X x Y,L=X++x::Y→∀b∈L,(nd b.a).nx.count x.a=(dX X x.ks).count b
 nxm:∀b∈L,∀y∈(nd b.a).nx,∃x∈L,x.a=y
structure Cn where
 id:Int64
 ch:Int64
 how:aQ→Option Bool
def An.cn (x:An):Cn:=⟨x.id,x.ch,x.how⟩
def zU (g q:Nat) (C:List Cn) (T:Nat→Prop) (w:World):Prop:=∃tag nb sb L N S nd sp,dR tag w g nb sb q (L.map An.a) N S nd sp∧eH q L N S nd sp∧C=L.map An.cn∧∀i,tag i≠none→T i
theorem zU.good (g q:Nat) (C:List Cn):aI (zU g q C) where
 cl:=by
  rintro T w w' ⟨tag,nb,sb,L,N,S,nd,sp,H,I,hC,hT⟩ hm;exact⟨tag,nb,sb,L,N,S,nd,sp,H.mod hm (fun i hi hn=>hn (hT i hi)),I,hC,hT⟩
 gr:=by
  rintro T T' w hT ⟨tag,nb,sb,L,N,S,nd,sp,H,I,hC,hO⟩;exact⟨tag,nb,sb,L,N,S,nd,sp,H,I,hC,fun i hi=>hT i (hO i hi)⟩
end
section
open Go.RowKit
attribute [local go_sem] aH aC aN aK aP aF aO Value.cells
theorem k8 (w:World) (r:Option Nat):(binOp .neq 179 (.map r) (.map none)).run Tryz.prog w= .ok (.bool !r.isNone) w:=run_neq_map_nil w _ _ _ _ Tryz.underlying179
attribute [local go_sem] k8
theorem there_cG {w:World} {g b:Nat} {y z:Value} (kh:w.heap[g]? =some (.cells #[.map (some b),y,z] 182 (0,0))):Calls Tryz.prog 103 #[ptrV g] w fun e w'=>e= .returned (.bool true)∧w'=w:=by
 go_enter Tryz.func103,Tryz.ntmps103;go_wp2_with fail;go_ret;exact⟨rfl,rfl⟩
theorem TU (w:World) (a b c:Obj):(((w.alloc a).alloc b).alloc c).heap.size=w.heap.size+3:=by
 show(((w.heap.push a).push b).push c).size=_;simp
theorem eH.nil (nd:Nat→Nr) (sp:Nat→Sr):eH 0 [] [] [] nd sp where
 N:= .refl _
 ad:=aWn
 pts:=List.Pairwise.nil
 ptu _ h:=by cases h
 pub:=by omega
 kl _ h:=by cases h
 nxl _ h:=by cases h
 nds _ h:=by cases h
 kn _ h:=by cases h
 sn:=aWn
 sps k:=⟨fun s h=>(by cases h),fun _=>rfl⟩
 wts X x Y h:=by simp at h
 nxs X x Y h:=by simp at h
 nxm _ h:=by cases h
theorem PN (w:World):Calls Tryz.prog 30 #[] w fun e w'=>∃g,e= .returned (ptrV g)∧∃T,zU g 0 [] T w'∧Mod (fun _=>False) w w'∧(∀i,T i→w.heap.size≤i∧i<w'.heap.size):=by
 have hmm:= @run_makeMap Tryz.prog;go_enter Tryz.func30,Tryz.ntmps30;go_wp2_with fail;go_ret;obtain⟨k0,k1,k2⟩:=pP w (.map #[] 0) (.map #[] 0) (.cells #[.map (some w.heap.size),.map (some (w.heap.size+1)),.int .i64 0] 182);have hs:(((w.alloc (.map #[] 0)).alloc (.map #[] 0)).alloc (.cells #[.map (some w.heap.size),.map (some (w.heap.size+1)),.int .i64 0] 182)).heap.size=w.heap.size+3:=TU _ _ _ _;have m0:Mod (fun _=>False) w (((w.alloc (.map #[] 0)).alloc (.map #[] 0)).alloc (.cells #[.map (some w.heap.size),.map (some (w.heap.size+1)),.int .i64 0] 182)):=(((Mod.refl _ _).alloc _).alloc _).alloc _;generalize(((w.alloc (.map #[] 0)).alloc (.map #[] 0)).alloc (.cells #[.map (some w.heap.size),.map (some (w.heap.size+1)),.int .i64 0] 182))=w1 at *;generalize hb:w.heap.size=b at *;refine⟨b+2,rfl,fun i=>b≤i∧i<w1.heap.size,⟨fun i=>if i=b then some (b+2,6)else if i=b+1 then some (b+2,7)else if i=b+2 then some (b+2,5)else none,b,b+1,[],[],[],fun _=>⟨0,0,0,0,.slice none 0 0,[],0,[]⟩,fun _=>⟨none,.slice none 0 0,[]⟩,⟨k2,⟨_,_,k0,aR.empty tK ptrV⟩,⟨_,_,k1,aR.empty kv ptrV⟩,fun _ h=>(by cases h),fun _ h=>(by cases h),by simp,by simp,by simp⟩,eH.nil _ _,rfl,fun i hi=> ?_⟩,m0,fun i hi=>hi⟩;rw[hs];by_cases e0:i=b
 ·omega
 ·by_cases e1:i=b+1
  ·omega
  ·by_cases e2:i=b+2
   ·omega
   ·simp[e0,e1,e2]at hi
theorem KN {tag:u5} {w:World} {a:Nat} {x:Nr} (h:u9 tag w a x) (hx:0<x.wt) (hx2:x.wt≤1000000000000):Calls Tryz.prog 108 #[ptrV a] w fun e w'=>e= .returned (.tuple #[])∧w'.heap[a]? =some (.cells (JI {x with wt:=x.wt-1}) 244 (0,0))∧Mod (fun i=>i=a) w w':=by
 have kc:=h.c;have hw:IntKind.i64.wrap ((x.wt:Int)-1)=((x.wt-1:Nat):Int):=by
  rw[IntKind.wrap_i64];omega
 clear h;go_enter Tryz.func108,Tryz.ntmps108;go_wp2_with fail;go_end0;refine⟨rfl,?_,(Mod.refl _ _).setCell _ (fun _=>rfl)⟩;rw[setCell_blk kc,aD _ _ (aA kc)];rfl
section
variable {pu:Nat} {L:List An} {N:List (Int64×Nat)} {S:List (aQ×Nat)} {nd:Nat→Nr} {sp:Nat→Sr}
theorem eH.look (I:eH pu L N S nd sp) (hN:(N.map Prod.fst).Nodup) (id:Int64):(lkp id N=none∧∀x∈L,x.id≠id)∨∃x∈L,x.id=id∧lkp id N=some x.a:=by
 cases h:lkp id N with
 |none=>
  refine .inl ⟨rfl,fun x hx e=> ?_⟩;rw[eL]at h;exact h (aZj.2 ⟨(x.id,x.a),I.N.mem_iff.2 (aZj.2 ⟨x,hx,rfl⟩),e⟩)
 |some b=>
  right;obtain⟨x,hx,e⟩:=aZj.1 (I.N.mem_iff.1 (dD h));cases e;exact⟨x,hx,rfl,rfl⟩
theorem eH.len (I:eH pu L N S nd sp):N.length=L.length:=by simpa using I.N.length_eq
theorem eH.ids (I:eH pu L N S nd sp) (hN:(N.map Prod.fst).Nodup):(L.map An.id).Nodup:=by
 have:=(I.N.map Prod.fst).nodup_iff.1 hN;rwa[aX0]at this
end
theorem PC {g q:Nat} {C:List Cn} {T:Nat→Prop} {w:World} (hA:zU g q C T w):Calls Tryz.prog 98 #[ptrV g] w fun e w'=>e= .returned (.int .i64 (C.length:Int))∧w'=w:=by
 obtain⟨tag,nb,sb,L,N,S,nd,sp,H,I,rfl,hO⟩:=hA;obtain⟨es,c,kb,M⟩:=H.kn;have kh:=H.c;have hle:∀ty,(Builtin.len_ #[179] ty #[.map (some nb)]).run Tryz.prog w= .ok (.int .i64 N.length) w:=fun ty=>M.len Tryz.underlying179 w kb;rw[I.len]at hle;rw[aZs];clear H hO M I;go_enter Tryz.func98,Tryz.ntmps98;go_wp2_with fail;go_at_call 103;refine(there_cG kh).mono ?_;rintro e w2 ⟨rfl,rfl⟩;go_wp2_with fail;go_ret;exact⟨rfl,rfl⟩
theorem J5 {g q:Nat} {C:List Cn} {T:Nat→Prop} {w:World} (hA:zU g q C T w) (id:Int64):Calls Tryz.prog 70 #[ptrV g,.int .i64 id.toInt] w fun e w'=>w'=w∧
  ((e= .returned (.tuple #[.int .i64 0,.int .i64 11])∧∀x∈C,x.id≠id)∨∃x∈C,x.id=id∧e= .returned (.tuple #[.int .i64 x.ch.toInt,.int .i64 0])):=by
 obtain⟨tag,nb,sb,L,N,S,nd,sp,H,I,rfl,hO⟩:=hA;obtain⟨es,c,kb,M⟩:=H.kn;have kh:=H.c;have hlk:∀wq,wq.heap[nb]? =some (.map es c)→(Instr.lookup 179 (.map (some nb)) (.int .i64 id.toInt) false).run Tryz.prog wq=_:=fun wq hq=>M.lookup F4 Tryz.underlying179 (z:= .pointer none) (fun w=>by kernel_rfl) wq hq id false;rcases I.look M.nodup id with⟨h1,h2⟩|⟨x,hx,h1,h2⟩
 ·have HR:=Hi h2;have hl:=hlk w kb;simp only[h1,Option.map_none,Option.getD_none,aZr,if_false]at hl;clear H I hO M hlk h1 h2;go_enter Tryz.func70,Tryz.ntmps70;go_wp2_with fail;go_at_call 103;refine(there_cG kh).mono ?_;rintro e w2 ⟨rfl,rfl⟩;go_wp2_with fail;refine bodyPost_ret (results_tmp2 rfl _ _ _) rfl ⟨rfl,.inl ⟨rfl,fun y hy=> ?_⟩⟩;obtain⟨z,hz,rfl⟩:=aZj.1 hy;exact HR.out z hz
 ·have kx:=(H.nodes _ (aZj.2 ⟨x,hx,rfl⟩)).c;have hch:(nd x.a).ch=x.ch:=(I.nds x hx).2.1;have hl:=hlk w kb;simp only[h2,aYj,zE,aZr,if_false]at hl;have HX:=Hi (Ai hx h1);clear H I hO M hlk h1 h2 hx;go_enter Tryz.func70,Tryz.ntmps70;go_wp2_with fail;go_at_call 103;refine(there_cG kh).mono ?_;rintro e w2 ⟨rfl,rfl⟩;go_wp2_with fail;refine bodyPost_ret (results_tmp2 rfl _ _ _) rfl ⟨rfl,.inr ⟨x.cn,aZj.2 ⟨x,HX.out.1,rfl⟩,HX.out.2,rfl⟩⟩
end
section
open Go.RowKit
section
variable {P:Program} {ops:Array Oper} {Q:Exit→Act→World→Prop}
theorem K9 {l n:Nat} {o:Oper} {a:Act} {w:World} {next:Act→World→Prop} (hd:∀c,o.op≠ .defer c) (h:o.wp P a w next Q):o.wpIn (Fence.wide.inRound l) n P a w next Q:=by
 refine⟨fun _ _=>trivial,?_⟩;rw[Fence.inRound_round,Oper.semAt_some _ _ _ hd];unfold Oper.wp at h
 revert h
 generalize(execOp a.eval o).run P w=R;intro h;unfold Oper.upon at h;unfold Oper.uponIn;split at h
 ·exact h
 ·exact h
 ·exact h
 ·exact⟨fun e=>(by cases e),callsIn_wide.2 h⟩
 ·refine⟨fun e=>(by cases e),fun c cs hr=> ?_⟩;obtain⟨v,w',h1,h2⟩:=h c cs;exact⟨v,w',h1,stepsIn_wide.2 h2⟩
 ·exact h
 ·exact h.elim
theorem N3 {l n:Nat} {md:Region.Mode} (hd:∀(i:Nat) o,ops[i]? =some o→∀c,o.op≠ .defer c) (hL:¬LetsOut Q):∀(fuel:Nat) (listed:Array Bool) (a:Act) (w:World),wpAny P md ops Q fuel listed a w→wpAnyIn (Fence.wide.inRound l) n P md ops Q fuel listed a w:=by
 intro fuel
 induction fuel with
 |zero=>exact fun listed a w h=>h
 |succ fuel ih=>
  intro listed a w h;refine⟨h.1,fun i hi=> ?_⟩;have h2:=h.2 i hi;unfold wpOp at h2;unfold wpOpIn;split
  ·rename_i ho;simp only[ho]at h2;exact ih _ _ _ h2
  ·rename_i o ho;simp only[ho]at h2;split
   ·rename_i hw;simp only[hw,if_true]at h2;rcases h2 with h2|h2
    ·exact Oper.wpIn_mono (fun a w h=>ih _ a w h) (K9 (hd i o ho) h2)
    ·exact absurd h2.2 hL
   ·rename_i hw;simp only[hw]at h2;exact⟨fun _ _=>trivial,ih _ _ _ h2⟩
def noDefer (ops:Array Oper):Bool:=ops.all fun o=>match o.op with
 | .defer _=>false
 |_=>true
theorem t8 (h:noDefer ops=true):∀(i:Nat) o,ops[i]? =some o→∀c,o.op≠ .defer c:=by
 intro i o ho c e;unfold noDefer at h;rw[aZ5]at h;have:=h o (Array.mem_of_getElem? ho);rw[e]at this;cases this
theorem sD {l n id:Nat} {a:Act} {w:World} (hm:P.follows .mixedOrders=true) (hd:noDefer ops=true) (hL:¬LetsOut Q)
  (h:wpAny P .any ops Q ops.size (Array.replicate ops.size false) a {w with drawn:=w.drawn+1}):(Code.region id ops true).wpIn (Fence.wide.inRound l) n P Q a w:=
 wpIn_region_any hm (N3 (t8 hd) hL _ _ _ _ h)
end
section
variable {P:Program} {ops:Array Oper} {Q:Exit→Act→World→Prop} {T0:Nat→Prop} {κ:Nat→Nat} {υ:Nat→List Tmp}
theorem fR {m n id:Nat} {a:Act} {w:World} {K:aL} (l:List Nat) (hm:P.follows .mixedOrders=true) (hd:noDefer ops=true) (hL:¬LetsOut Q) (hok:pR ops κ υ l=true) (hK:bR K) (hk:K T0 w) (hlt:∀i,T0 i→i<w.heap.size)
  (h:TG P ops Q T0 w κ υ l a Bx.nil K):(Code.region id ops true).wpIn (Fence.wide.inRound m) n P Q a w:=
 sD hm hd hL (FS l hok hK ⟨T0,hK T0 w w.drew hk (Mod.refl _ w).drew,hlt,fun _ _ h=>h,(Mod.refl _ w).drew,fun _ _ hh=>by cases hh⟩ h)
theorem F5 {m n id:Nat} {a:Act} {w:World} {K:aL} (l rest:List Nat) (hm:P.follows .mixedOrders=true) (hd:noDefer ops=true) (hL:¬LetsOut Q) (hok:pG ops κ υ l rest=true) (hK:bR K) (hk:K T0 w) (hlt:∀i,T0 i→i<w.heap.size)
  (h:TG P ops (fun _ a w=>TE P ops Q κ rest a w) T0 w κ υ l a Bx.nil K):(Code.region id ops true).wpIn (Fence.wide.inRound m) n P Q a w:=
 sD hm hd hL (FF l rest hok hK ⟨T0,hK T0 w w.drew hk (Mod.refl _ w).drew,hlt,fun _ _ h=>h,(Mod.refl _ w).drew,fun _ _ hh=>by cases hh⟩ h)
end
end
section
open Go.RowKit Go.Shelf
attribute [local go_sem] Oper.semAt_some aH aC aN aK aP aF aO Value.cells
theorem ahead_cG (s:Nat) (b:Bool) (w:World):Calls Tryz.prog 140 #[ptrV s,.bool b] w fun e w'=>e= .returned (.func (.func 158) #[] #[.pointer (some ⟨w.heap.size,0,none⟩),.pointer (some ⟨w.heap.size+1,0,none⟩)])∧w'=(w.alloc (.cells #[ptrV s] 246)).alloc (.cells #[.bool b] 4):=by
 go_enter Tryz.func140,Tryz.ntmps140;go_wp2_with fail;go_ret;exact⟨rfl,rfl⟩
def rK (R:Nat→Prop) (W W':World):Prop:=∀i,R i→W'.heap[i]? =W.heap[i]?
theorem KW {R:Nat→Prop} {A B C:World} (h:rK R A B) (k:rK R B C):rK R A C:=fun i hi=>(k i hi).trans (h i hi)
def sP (Bs Bw s:Nat) (rv:Value) (i:Nat):Prop:=i=Bs∨i=Bw∨i=s∨rv.ownBlock=some i
def c9 {α:Type} (zw:Option α) (zr:List α) (b:Bool):List α:=zw.toList++if b then zr else []
section
variable {α:Type} (f:α→Nat)
theorem xS (n l Bs Bw s:Nat) (zw:Option α) (b:Bool) (ad:Option Addr) (c:Nat) (J Jx:List α→World→Prop)
  (hY:∀pre x W1,J pre W1→pre.length<(c9 zw [] b).length→YieldAt Fence.wide n Tryz.prog l #[ptrV (f x)] W1 fun e W'=>
   (e= .returned (.bool true)∧J (pre++[x]) W'∧rK (sP Bs Bw s (.slice ad 0 c)) W1 W')∨(e= .returned (.bool false)∧Jx (pre++[x]) W'))
  (W:World) (kb:W.heap[Bs]? =some (.cells #[ptrV s] 246 (0,0))) (kw:W.heap[Bw]? =some (.cells #[.bool b] 4 (0,0)))
  (ks:W.heap[s]? =some (.cells #[yW (zw.map f),.slice ad 0 c] 248 (0,0))) (h0:J [] W):
  CallsIn Fence.wide (n+1) Tryz.prog 158 #[.func (.yield l) #[] #[],.pointer (some ⟨Bs,0,none⟩),.pointer (some ⟨Bw,0,none⟩)] W fun e W'=>(∃v,e= .returned v)∧
   (J (c9 zw [] b) W'∨∃pre,Jx pre W'):=by
 refine callsIn_of_wp Tryz.func158 rfl trivial ?_ rfl;simp only[Tryz.ntmps158,aYs,aZu,aYw,Nat.reduceAdd,Nat.reduceSub,aXd,aXc,aXo,aXj,aYq,aYg];cases b with
 |false=>
  cases zw with
  |none=>
   replace ks:W.heap[s]? =some (.cells #[.pointer none,.slice ad 0 c] 248 (0,0)):=ks
   gi_wp2
   refine⟨fun _ h=>(by cases h),?_⟩
   gi_wp2
   refine bodyPost_ret (results_none rfl _ _ _) rfl ?_;exact⟨⟨_,rfl⟩,.inl h0⟩
  |some x=>
   obtain⟨fn,tmps,assign,body,hy,hR⟩:=hY [] x W h0 (by simp[c9]);replace ks:W.heap[s]? =some (.cells #[ptrV (f x),.slice ad 0 c] 248 (0,0)):=ks
   gi_wp2
   refine hR.mono ?_;rintro e W3 (⟨rfl,hJ,hk3⟩|⟨rfl,hJx3⟩)
   ·replace kw:=(hk3 Bw (.inr (.inl rfl))).trans kw
    gi_wp2
    refine bodyPost_ret (results_none rfl _ _ _) rfl ?_;exact⟨⟨_,rfl⟩,.inl hJ⟩
   ·gi_wp2
    refine bodyPost_ret (results_none rfl _ _ _) rfl ?_;exact⟨⟨_,rfl⟩,.inr ⟨_,hJx3⟩⟩
 |true=>
  cases zw with
  |none=>
   replace ks:W.heap[s]? =some (.cells #[.pointer none,.slice ad 0 c] 248 (0,0)):=ks
   gi_wp2
   refine⟨fun _ h=>(by cases h),?_⟩
   gi_wp2
   have hJ:=h0
   gi_loopw [29] (fun i wr=>i= .int .i64 0∧J ([]:List α) wr) (fun _ _=>0)
   case atStart=>exact⟨rfl,hJ⟩
   case round=>
    obtain⟨rfl,hJs⟩:=hrel
    gi_wp2
    go_end0;exact⟨⟨_,rfl⟩,.inl hJs⟩
  |some x=>
   obtain⟨fn,tmps,assign,body,hy,hR⟩:=hY [] x W h0 (by simp[c9]);replace ks:W.heap[s]? =some (.cells #[ptrV (f x),.slice ad 0 c] 248 (0,0)):=ks
   gi_wp2
   refine hR.mono ?_;rintro e W3 (⟨rfl,hJ,hk3⟩|⟨rfl,hJx3⟩)
   ·replace kw:=(hk3 Bw (.inr (.inl rfl))).trans kw;replace kb:=(hk3 Bs (.inl rfl)).trans kb;replace ks:=(hk3 s (.inr (.inr (.inl rfl)))).trans ks
    gi_wp2
    gi_loopw [29] (fun i wr=>i= .int .i64 0∧J [x] wr) (fun _ _=>0)
    case atStart=>exact⟨rfl,hJ⟩
    case round=>
     obtain⟨rfl,hJs⟩:=hrel
     gi_wp2
     go_end0;exact⟨⟨_,rfl⟩,.inl hJs⟩
   ·gi_wp2
    refine bodyPost_ret (results_none rfl _ _ _) rfl ?_;exact⟨⟨_,rfl⟩,.inr ⟨_,hJx3⟩⟩
theorem xT (n l Bs Bw s:Nat) (zw:Option α) (b:Bool) (zr:List α) (g c:Nat) (cur:Array Value) (hlen:zr.length≤1000000) (hcur:∀(i:Nat) (x:α),zr[i]? =some x→cur[i]? =some (ptrV (f x))) (J Jx:List α→World→Prop)
  (hY:∀pre x W1,J pre W1→pre.length<(c9 zw zr b).length→YieldAt Fence.wide n Tryz.prog l #[ptrV (f x)] W1 fun e W'=>
   (e= .returned (.bool true)∧J (pre++[x]) W'∧rK (sP Bs Bw s (.slice (some ⟨g,0,none⟩) zr.length c)) W1 W')∨(e= .returned (.bool false)∧Jx (pre++[x]) W'))
  (W:World) (kb:W.heap[Bs]? =some (.cells #[ptrV s] 246 (0,0))) (kw:W.heap[Bw]? =some (.cells #[.bool b] 4 (0,0)))
  (ks:W.heap[s]? =some (.cells #[yW (zw.map f),.slice (some ⟨g,0,none⟩) zr.length c] 248 (0,0))) (kg:W.heap[g]? =some (.cells cur 238 (0,0))) (h0:J [] W):
  CallsIn Fence.wide (n+1) Tryz.prog 158 #[.func (.yield l) #[] #[],.pointer (some ⟨Bs,0,none⟩),.pointer (some ⟨Bw,0,none⟩)] W fun e W'=>(∃v,e= .returned v)∧
   (J (c9 zw zr b) W'∨∃pre,Jx pre W'):=by
 refine callsIn_of_wp Tryz.func158 rfl trivial ?_ rfl;simp only[Tryz.ntmps158,aYs,aZu,aYw,Nat.reduceAdd,Nat.reduceSub,aXd,aXc,aXo,aXj,aYq,aYg];have HC:=Hi hcur;clear hcur;cases b with
 |false=>
  cases zw with
  |none=>
   replace ks:W.heap[s]? =some (.cells #[.pointer none,.slice (some ⟨g,0,none⟩) zr.length c] 248 (0,0)):=ks
   gi_wp2
   refine⟨fun _ h=>(by cases h),?_⟩
   gi_wp2
   refine bodyPost_ret (results_none rfl _ _ _) rfl ?_;exact⟨⟨_,rfl⟩,.inl h0⟩
  |some x=>
   obtain⟨fn,tmps,assign,body,hy,hR⟩:=hY [] x W h0 (by simp[c9]);replace ks:W.heap[s]? =some (.cells #[ptrV (f x),.slice (some ⟨g,0,none⟩) zr.length c] 248 (0,0)):=ks
   gi_wp2
   refine hR.mono ?_;rintro e W3 (⟨rfl,hJ,hk3⟩|⟨rfl,hJx3⟩)
   ·replace kw:=(hk3 Bw (.inr (.inl rfl))).trans kw
    gi_wp2
    refine bodyPost_ret (results_none rfl _ _ _) rfl ?_;exact⟨⟨_,rfl⟩,.inl hJ⟩
   ·gi_wp2
    refine bodyPost_ret (results_none rfl _ _ _) rfl ?_;exact⟨⟨_,rfl⟩,.inr ⟨_,hJx3⟩⟩
 |true=>
  cases zw with
  |none=>
   replace ks:W.heap[s]? =some (.cells #[.pointer none,.slice (some ⟨g,0,none⟩) zr.length c] 248 (0,0)):=ks
   gi_wp2
   refine⟨fun _ h=>(by cases h),?_⟩
   gi_wp2
   have hJ:=h0
   gi_loopw [29] (fun i wr=>∃k:Nat,k≤zr.length∧i= .int .i64 k∧J (([]:List α)++zr.take k) wr∧wr.heap[g]? =some (.cells cur 238 (0,0)))
    (fun i _=>zr.length-(intOf i).toNat)
   case atStart=>exact⟨0,aYf _,rfl,by simpa using hJ,kg⟩
   case round=>
    obtain⟨k,hk,rfl,hJs,kg⟩:=hrel;by_cases hlt:k<zr.length
    ·have hx:zr[k]? =some zr[k]:=aZb hlt;generalize zr[k]=y at hx;have hcx:=HC.out k y hx;have HX:=Hi hx;clear hx;obtain⟨fn,tmps,assign,body,hy,hR⟩:=hY (([]:List α)++zr.take k) y wr hJs (by simp[c9];omega)
     gi_wp2
     refine hR.mono ?_;rintro e W3 (⟨rfl,hJ3,hk3⟩|⟨rfl,hJx3⟩)
     ·have kg3:=(hk3 g (.inr (.inr (.inr rfl)))).trans kg
      gi_wp2
      go_roundw
      case rel=>exact⟨k+1,by omega,by simp,by rw[aYa,HX.out,Option.toList_some,←aZw];exact hJ3,kg3⟩
      case measure=>simp[intOf];omega
     ·gi_wp2
      refine bodyPost_ret (results_none rfl _ _ _) rfl ?_;exact⟨⟨_,rfl⟩,.inr ⟨_,hJx3⟩⟩
    ·obtain rfl:k=zr.length:=by omega
     gi_wp2
     go_end0;refine⟨⟨_,rfl⟩,.inl ?_⟩;rw[aY5]at hJs;exact hJs
  |some x=>
   obtain⟨fn,tmps,assign,body,hy,hR⟩:=hY [] x W h0 (by simp[c9]);replace ks:W.heap[s]? =some (.cells #[ptrV (f x),.slice (some ⟨g,0,none⟩) zr.length c] 248 (0,0)):=ks
   gi_wp2
   refine hR.mono ?_;rintro e W3 (⟨rfl,hJ,hk3⟩|⟨rfl,hJx3⟩)
   ·replace kw:=(hk3 Bw (.inr (.inl rfl))).trans kw;replace kb:=(hk3 Bs (.inl rfl)).trans kb;replace ks:=(hk3 s (.inr (.inr (.inl rfl)))).trans ks;replace kg:=(hk3 g (.inr (.inr (.inr rfl)))).trans kg
    gi_wp2
    gi_loopw [29] (fun i wr=>∃k:Nat,k≤zr.length∧i= .int .i64 k∧J ([x]++zr.take k) wr∧wr.heap[g]? =some (.cells cur 238 (0,0)))
     (fun i _=>zr.length-(intOf i).toNat)
    case atStart=>exact⟨0,aYf _,rfl,by simpa using hJ,kg⟩
    case round=>
     obtain⟨k,hk,rfl,hJs,kg⟩:=hrel;by_cases hlt:k<zr.length
     ·have hx:zr[k]? =some zr[k]:=aZb hlt;generalize zr[k]=y at hx;have hcx:=HC.out k y hx;have HX:=Hi hx;clear hx;obtain⟨fn,tmps,assign,body,hy,hR⟩:=hY ([x]++zr.take k) y wr hJs (by simp[c9];omega)
      gi_wp2
      refine hR.mono ?_;rintro e W3 (⟨rfl,hJ3,hk3⟩|⟨rfl,hJx3⟩)
      ·have kg3:=(hk3 g (.inr (.inr (.inr rfl)))).trans kg
       gi_wp2
       go_roundw
       case rel=>exact⟨k+1,by omega,by simp,by rw[aYa,HX.out,Option.toList_some,←aZw];exact hJ3,kg3⟩
       case measure=>simp[intOf];omega
      ·gi_wp2
       refine bodyPost_ret (results_none rfl _ _ _) rfl ?_;exact⟨⟨_,rfl⟩,.inr ⟨_,hJx3⟩⟩
     ·obtain rfl:k=zr.length:=by omega
      gi_wp2
      go_end0;refine⟨⟨_,rfl⟩,.inl ?_⟩;rw[aY5]at hJs;exact hJs
   ·gi_wp2
    refine bodyPost_ret (results_none rfl _ _ _) rfl ?_;exact⟨⟨_,rfl⟩,.inr ⟨_,hJx3⟩⟩
theorem vG (n Bs Bw s:Nat) (zw:Option α) (zr:List α) (b:Bool) (rv:Value) (w:World) (kb:w.heap[Bs]? =some (.cells #[ptrV s] 246 (0,0))) (kw:w.heap[Bw]? =some (.cells #[.bool b] 4 (0,0)))
  (ks:w.heap[s]? =some (.cells #[yW (zw.map f),rv] 248 (0,0))) (ho:aE pc 1 238 w 0 rv (zr.map f)) (hlen:zr.length≤1000000):
  SeqStopsK Fence.wide (n+1) Tryz.prog 158 #[.pointer (some ⟨Bs,0,none⟩),.pointer (some ⟨Bw,0,none⟩)] (fun x:α=> #[ptrV (f x)]) (rK (sP Bs Bw s rv)) (fun ys=>ys=c9 zw zr b) (fun _=>True) (c9 zw zr b).length w:=by
 intro l J Jx W hW _ _ hY h0;have hb:∀ {i o},w.heap[i]? =some o→W.heap[i]? =some o:=fun{i o} h=>(hW.block i (aA h)).trans h;by_cases hz:zr=[]
 ·subst hz;obtain⟨ad,c,rfl,_,_,_⟩:=ho.at fF;refine(xS f n l Bs Bw s zw b ad c J Jx hY W (hb kb) (hb kw) (hb ks) h0).mono ?_;rintro e W' ⟨h1,h2⟩;exact⟨h1,h2.imp (fun h=>⟨_,rfl,h⟩) (fun⟨p,h⟩=>⟨p,trivial,h⟩)⟩
 ·obtain⟨g,c,cur,rfl,_,kg,_,_,hcur,_⟩:=iF ho (by simpa using hz);simp only[aZs]at ks⊢;refine(xT f n l Bs Bw s zw b zr g c cur hlen (fun i x hx=>hcur i (f x) (by simp[hx])) J Jx hY W (hb kb) (hb kw) (hb ks) (hb kg) h0).mono ?_;rintro e W' ⟨h1,h2⟩;exact⟨h1,h2.imp (fun h=>⟨_,rfl,h⟩) (fun⟨p,h⟩=>⟨p,trivial,h⟩)⟩
end
end
section
theorem rW {es:Array MapEntry} {j:Nat} {e0:MapEntry} (hn:(es.toList.map (·.born)).Nodup) (h:es.toList[j]? =some e0):es.findIdx? (fun e=>((e.born:Nat):Int)==((e0.born:Nat):Int))=some j:=by
 rw[Array.findIdx?_eq_some_iff_getElem];have hj:j<es.size:=by simpa using(aZa.1 h).1
 have he:es[j]=e0:=by
  have:=(aZa.1 h).2;simpa using this
 refine⟨hj,by simp[he],fun i hi=> ?_⟩;intro e;have hi2:i<es.size:=by omega
 have e2:es[i].born=e0.born:=by
  have:=beq_iff_eq.1 e
  exact_mod_cast this
 rw[aWw,List.pairwise_iff_getElem]at hn;have:=hn i j (by simpa using hi2) (by simpa using hj) hi;simp at this;exact this (by rw[e2,←he])
section
variable {κ ν:Type} [DecidableEq κ] {P:Program} {T K E:TypeId} {f:κ→Value} {g:ν→Value}
theorem aR.entry {es:Array MapEntry} {clock:Nat} {m:List (κ×ν)} (h:aR f g es clock m) (hk:mM P K f) (hT:P.underlying T=some (.map K E)) {z:ν} (hz:∀w,(zeroValue E).run P w= .ok (g z) w)
  (w:World) {b:Nat} (hb:w.heap[b]? =some (.map es clock)) (k:κ):
  ∃st es1 c1,(Instr.mapEntry T (.map (some b)) (f k)).run P w= .ok (.tuple #[g ((lkp k m).getD z),goInt st]) (setBlock w b (.map es1 c1))∧aR f g es1 c1 (put k ((lkp k m).getD z) m)∧
   ∀(w2:World) (x:ν),w2.heap[b]? =some (.map es1 c1)→∃es' c',(Instr.entryStore T (.map (some b)) (goInt st) (g x)).run P w2= .ok () (setBlock w2 b (.map es' c'))∧aR f g es' c' (put k x m):=by
 obtain⟨l,hl⟩:=hk.lit k;rcases h.find hk w k with⟨h1,h2⟩|⟨j,u,e,hm,he,hek,hev,h1,h2⟩
 ·refine⟨clock,es.push ⟨f k,g z,clock⟩,clock+1,?_,?_,fun w2 x hw2=>⟨es.push ⟨f k,g x,clock⟩,clock+1,?_,?_⟩⟩
  ·simp[Instr.mapEntry,run_underlying hT,MapKept.run_getObj_map hb,hk.law.check w _ hl,h2,h1,hz,MapKept.run_setObj_map _ hb,Result.andThen,setBlock]
  ·obtain⟨es',c',hr,M⟩:=h.update hk hT w hb k z;have e1:(Instr.mapUpdate T (.map (some b)) (f k) (g z)).run P w= .ok () (setBlock w b (.map (es.push ⟨f k,g z,clock⟩) (clock+1))):=by
    simp[Instr.mapUpdate,run_underlying hT,MapKept.run_getObj_map hb,hk.law.check w _ hl,h2,MapKept.run_setObj_map _ hb,Result.andThen,setBlock]
   rw[e1]at hr;have e2:=congrArg (fun r=>match r with| .ok _ w=>w.heap[b]? |_=>none) hr;simp only[aD w _ (aA hb)]at e2;cases e2;rw[h1];exact M
  ·have hidx:(es.push ⟨f k,g z,clock⟩).findIdx? (fun e=>((e.born:Nat):Int)==((clock:Nat):Int))=some es.size:=by
    have:=rW (es:=es.push ⟨f k,g z,clock⟩) (j:=es.size) (e0:=⟨f k,g z,clock⟩) (by
     simp only[Array.toList_push,List.map_append,aZo,aYo];refine aZ7.2 ⟨h.apart,by simp,fun a ha c hc e1=> ?_⟩;simp only[aZm]at hc;obtain⟨x,hx,rfl⟩:=aZj.1 ha;have:=h.lt x hx;omega) (by simp)
    exact this
   have hmod:(es.push ⟨f k,g z,clock⟩).modify es.size (fun e=> {e with val:=g x})=es.push ⟨f k,g x,clock⟩:=by
    apply Array.ext';rw[aWv,Array.toList_push,Array.toList_push,←aYd,iE _ (e:=⟨f k,g z,clock⟩) (by simp)];simp
   simp[Instr.entryStore,MapKept.run_getObj_map hw2,asInt,asIntOf,goInt,hidx,hmod,MapKept.run_setObj_map _ hw2,Result.andThen,setBlock]
  ·obtain⟨es',c',hr,M⟩:=h.update hk hT w hb k x;have e1:(Instr.mapUpdate T (.map (some b)) (f k) (g x)).run P w= .ok () (setBlock w b (.map (es.push ⟨f k,g x,clock⟩) (clock+1))):=by
    simp[Instr.mapUpdate,run_underlying hT,MapKept.run_getObj_map hb,hk.law.check w _ hl,h2,MapKept.run_setObj_map _ hb,Result.andThen,setBlock]
   rw[e1]at hr;have e2:=congrArg (fun r=>match r with| .ok _ w=>w.heap[b]? |_=>none) hr;simp only[aD w _ (aA hb)]at e2;cases e2;exact M
 ·have hj:es[j]? =some e:=by simpa using he
  have hsame:es.modify j (fun e=> {e with key:=f k})=es:=by
   apply Array.ext';rw[aWv,iE _ he]
   have:({e with key:=f k}:MapEntry)=e:=by rw[←hek]
   rw[this];exact set_same he
  refine⟨e.born,es,clock,?_,?_,fun w2 x hw2=>⟨es.modify j (fun e'=> {e' with key:=f k,val:=g x}),clock,?_,?_⟩⟩
  ·simp[Instr.mapEntry,run_underlying hT,MapKept.run_getObj_map hb,hk.law.check w _ hl,h2,hj,hek,hk.law.stays w hl,hsame,MapKept.run_setObj_map _ hb,Result.andThen,setBlock,h1]
  ·rw[h1,zE,G1 h.nodup hm,set_same hm];exact h
  ·have hidx:es.findIdx? (fun e'=>((e'.born:Nat):Int)==((e.born:Nat):Int))=some j:=rW h.apart he;have hmod:es.modify j (fun e=> {e with val:=g x})=es.modify j (fun e'=> {e' with key:=f k,val:=g x}):=by
    apply Array.ext';rw[aWv,aWv,iE _ he,iE _ he,←hek]
   simp[Instr.entryStore,MapKept.run_getObj_map hw2,asInt,asIntOf,goInt,hidx,hmod,MapKept.run_setObj_map _ hw2,Result.andThen,setBlock]
  ·obtain⟨es',c',hr,M⟩:=h.update hk hT w hb k x;have e1:(Instr.mapUpdate T (.map (some b)) (f k) (g x)).run P w= .ok () (setBlock w b (.map (es.modify j (fun e'=> {e' with key:=f k,val:=g x})) clock)):=by
    simp[Instr.mapUpdate,run_underlying hT,MapKept.run_getObj_map hb,hk.law.check w _ hl,h2,hj,hek,hk.law.stays w hl,MapKept.run_setObj_map _ hb,Result.andThen,setBlock]
   rw[e1]at hr;have e2:=congrArg (fun r=>match r with| .ok _ w=>w.heap[b]? |_=>none) hr;simp only[aD w _ (aA hb)]at e2;cases e2;exact M
end
section
variable {P:Program} {ops:Array Oper}
theorem CM {i:Nat} {a:Act} {o:Oper} {K:Act→World→Prop} {w w':World} {T:TypeId} {x y:Operand} {X Y v:Value} {Q:Exit→Act→World→Prop} (ho:ops[i]? =some o) (hw:Region.wanted o (yielded ops a.tmps)=true)
  (hop:o.op= .mapEntry T x y) (hx:a.eval x=X) (hy:a.eval y=Y) (hr:(Instr.mapEntry T X Y).run P w= .ok v w') (h:K (a.put o.dst v) w'):wpOp P ops Q i K a w:=
 eV ho hw (by subst hx;subst hy;simp[execOp,hop,hr,Result.andThen]) h
theorem FH {i:Nat} {a:Act} {o:Oper} {K:Act→World→Prop} {w w':World} {T:TypeId} {x y:Operand} {b:Bool} {X Y v:Value} {Q:Exit→Act→World→Prop} (ho:ops[i]? =some o) (hw:Region.wanted o (yielded ops a.tmps)=true)
  (hop:o.op= .lookup T x y b) (hx:a.eval x=X) (hy:a.eval y=Y) (hr:(Instr.lookup T X Y b).run P w= .ok v w') (h:K (a.put o.dst v) w'):wpOp P ops Q i K a w:=
 eV ho hw (by subst hx;subst hy;simp[execOp,hop,hr,Result.andThen]) h
theorem yC {i:Nat} {a:Act} {o:Oper} {K:Act→World→Prop} {w w':World} {T:TypeId} {x y z:Operand} {X Y Z:Value} {Q:Exit→Act→World→Prop} (ho:ops[i]? =some o) (hw:Region.wanted o (yielded ops a.tmps)=true)
  (hop:o.op= .entryStore T x y z) (hx:a.eval x=X) (hy:a.eval y=Y) (hz:a.eval z=Z) (hr:(Instr.entryStore T X Y Z).run P w= .ok () w') (h:K (a.put o.dst undef) w'):wpOp P ops Q i K a w:=
 lN ho hw (by subst hx;subst hy;subst hz;simp[execOp,hop,hr,Result.andThen]) h
theorem ZL {P:Program} {ops:Array Oper} {Q:Exit→Act→World→Prop} {i:Nat} {a:Act} {o:Oper} {K:Act→World→Prop} {w w':World} {T:TypeId} {x y:Operand} {b:Bool} {X Y v:Value} (hr:(Instr.lookup T X Y b).run P w= .ok v w') (h:K (a.put o.dst v) w') (ho:ops[i]? =some o:=by simp only[zK];rfl) (hw:Region.wanted o (yielded ops a.tmps)=true:=by rfl) (hop:o.op= .lookup T x y b:=by rfl) (hx:a.eval x=X:=by(try simp only[zM]);(try rfl)) (hy:a.eval y=Y:=by(try simp only[zM]);(try rfl)):wpOp P ops Q i K a w:=FH ho hw hop hx hy hr h
theorem ZF {P:Program} {ops:Array Oper} {Q:Exit→Act→World→Prop} {i:Nat} {a:Act} {o:Oper} {K:Act→World→Prop} {w w':World} {T:TypeId} {x y:Operand} {X Y v:Value} (hr:(Instr.mapEntry T X Y).run P w= .ok v w') (h:K (a.put o.dst v) w') (ho:ops[i]? =some o:=by simp only[zK];rfl) (hw:Region.wanted o (yielded ops a.tmps)=true:=by rfl) (hop:o.op= .mapEntry T x y:=by rfl) (hx:a.eval x=X:=by(try simp only[zM]);(try rfl)) (hy:a.eval y=Y:=by(try simp only[zM]);(try rfl)):wpOp P ops Q i K a w:=CM ho hw hop hx hy hr h
theorem ZW {P:Program} {ops:Array Oper} {Q:Exit→Act→World→Prop} {i:Nat} {a:Act} {o:Oper} {K:Act→World→Prop} {w w':World} {T:TypeId} {x y z:Operand} {X Y Z:Value} (hr:(Instr.entryStore T X Y Z).run P w= .ok () w') (h:K (a.put o.dst undef) w') (ho:ops[i]? =some o:=by simp only[zK];rfl) (hw:Region.wanted o (yielded ops a.tmps)=true:=by rfl) (hop:o.op= .entryStore T x y z:=by rfl) (hx:a.eval x=X:=by(try simp only[zM]);(try rfl)) (hy:a.eval y=Y:=by(try simp only[zM]);(try rfl)) (hz:a.eval z=Z:=by(try simp only[zM]);(try rfl)):wpOp P ops Q i K a w:=yC ho hw hop hx hy hz hr h
theorem TE.mid_setG {κ:Nat→Nat} {Q:Exit→Act→World→Prop} {r:List Nat} {a:Act} {w:World} {p:Nat} {o o':Obj} (hb:w.heap[p]? =some o) (h:∀w',w'.heap[p]? =some o'→Mod (fun i=>i=p) w w'→TE P ops Q κ r a w'):TE P ops Q κ r a (setBlock w p o'):=
 h _ (aD w _ (aA hb)) (bN w p o')
theorem TE.mid_setCellG {κ:Nat→Nat} {Q:Exit→Act→World→Prop} {r:List Nat} {a:Act} {w:World} {p i:Nat} {cs:Array Value} {U:TypeId} {fr:Nat×Nat} {v:Value} (hb:w.heap[p]? =some (.cells cs U fr))
  (h:∀w',w'.heap[p]? =some (.cells (cs.setIfInBounds i v) U fr)→Mod (fun i=>i=p) w w'→TE P ops Q κ r a w'):TE P ops Q κ r a (w.setCell ⟨p,i,none⟩ v):=by
 rw[setCell_blk hb];exact TE.mid_setG hb h
end
end
section
section
variable {P:Program} {ops:Array Oper} {Q:Exit→Act→World→Prop} {T0:Nat→Prop} {w0:World} {κ:Nat→Nat} {υ:Nat→List Tmp}
theorem TG.soundX (hsel:∀(j:Nat) (p:Oper) cs b,ops[j]? =some p→p.op≠ .select cs b)
  (hback:∀i o,ops[i]? =some o→∀e∈o.after,Region.binds .any e=true→e.on<i) {rest:List Nat} {E:Act→World→Prop} (hE:∀listed a w,bV ops listed rest→E a w→wpAny P .any ops Q rest.length listed a w):
  ∀(fuel:Nat) (l:List Nat) (listed:Array Bool) (a:Act) (B:Bx) (K:aL) (w:World),l.length=fuel→(l++rest).Nodup→(∀i∈l++rest,i<ops.size)→cI ops κ υ l=true→
   (∀x∈l,∀y∈rest,x≠y∧(cT ops x).testBit y=true)→bV ops listed (l++rest)→bR K→
   RG T0 w0 B K w→TG P ops (fun _ a w=>E a w) T0 w0 κ υ l a B K→wpAny P .any ops Q (rest.length+fuel) listed a w:=by
 intro fuel
 induction fuel with
 |zero=>
  intro l listed a B K w hl hn hlt hp hb hL hK hR h;obtain rfl:l=[]:=aY2.1 hl;have hte:E a w:=by
   cases h with|nil h=>exact h w hR
  exact hE listed a w (by simpa using hL) hte
 |succ fuel ih=>
  intro l listed a B K w hl hn hlt hp hb hL hK hR h;refine⟨fun hnil=> ?_,fun i hi=> ?_⟩
  ·exfalso
   match l,hl with
   |i::l',_=>exact bX hback hL hlt i i (by simp) (aZq _) hnil
  ·obtain⟨hun,o,ho,hall⟩:=mem_ready.1 hi;have hil:i∈l:=by
    rcases aZh.1 ((hL.mem i).2 hun)with hin|hin
    ·exact hin
    ·exfalso;clear h
     match l,hl with
     |x::l',_=>
      have hxy:=hb x (by simp) i hin;obtain⟨_,hpth⟩:=(bI hxy.2).resolve_left (fun e=>hxy.1 e.symm);have hl1:=bM hL.closed _ x i o ho hall hpth;have hl2:=aW ((hL.mem x).1 (by simp));rw[hl1]at hl2;cases hl2
   obtain⟨pre,post,rfl⟩:=aXf hil;obtain⟨h1,h2⟩:=dO hp;have hf:=TG.front hsel ho pre a B K hK ⟨w,hR⟩ (fun x hx=>by
    have:=h1 x hx;unfold j4 at this;have hxo:ops[x]? =some (ops[x]'(hlt x (by simp[hx]))):=aYe _;rw[hxo,ho]at this;simp only[aY4,aZy]at this;rcases this with hpth|hok
    ·obtain⟨_,hpth⟩:=(bI hpth.2).resolve_left (fun e=>by have:=hpth.1;simp[e]at this);have hl1:=bM hL.closed _ x i o ho hall hpth;have hl2:=aW ((hL.mem x).1 (by simp[hx]));rw[hl1]at hl2;cases hl2
    ·exact⟨_,hxo,hok.1,hok.2⟩) h
   have hl':(pre++post).length=fuel:=by simp at hl⊢;omega
   have hsub:((pre++post)++rest).Sublist ((pre++i::post)++rest):=List.Sublist.append_right (aYy (aYk _ _) _) _;have hn':((pre++post)++rest).Nodup:=hn.sublist hsub;have hlt':∀j∈(pre++post)++rest,j<ops.size:=fun j hj=>hlt j (hsub.subset hj);have hb':∀x∈pre++post,∀y∈rest,x≠y∧(cT ops x).testBit y=true:=fun x hx=>hb x ((aYy (aYk i post) pre).subset hx);have hL':bV ops (listed.setIfInBounds i true) ((pre++post)++rest):=by
    have:=bV.next (pre:=pre) (post:=post++rest) (i:=i) (by simpa using hL) (by simpa using hn) ho hall;simpa using this
   rcases hf.kinds with ko|ko|ko|ko
   ·obtain⟨v,hy,ht⟩:=hf.inv_val ko ho;obtain⟨T,hRT⟩:=hR;exact YieldsIf.wpOp ho hy hRT.mod (ih _ _ _ _ _ _ hl' hn' hlt' h2 hb' hL' hK ⟨T,hRT⟩ ht)
   ·obtain⟨hw,d,T,z,V,hd,hr,ht⟩:=hf.inv_alloc ko ho;obtain⟨U,hRT⟩:=hR;have hR':RG T0 w0 (B.set w.heap.size ⟨z,T,d⟩) K (w.alloc (LB.o ⟨z,T,d⟩)):=⟨U,hRT.alloc hK z T d⟩;unfold wpOp;simp only[ho,hw,if_true];refine .inl ?_;unfold Oper.wp;rw[hr.2 w];exact ih _ _ _ _ _ _ hl' hn' hlt' h2 hb' hL' hK hR' (ht _ hRT.none ⟨_,hR'⟩)
   ·obtain⟨hw,hd,d,T,y,p,b,hop,hev,hbb,htag,hr,ht⟩:=hf.inv_store ko ho;obtain⟨U,hRT⟩:=hR;unfold wpOp;simp only[ho,hw,if_true];refine .inl ?_;unfold Oper.wp;rw[hr w (hRT.box p b hbb).2.2];simp only[Oper.upon,hd];exact ih _ _ _ _ _ _ hl' hn' hlt' h2 hb' hL' hK ⟨U,hRT.store hK hbb _⟩ ht
   ·obtain⟨hw,K',hE,ht⟩:=hf.inv_eff ko ho;obtain⟨U,hRT⟩:=hR;exact(hE.step hRT).wp ho hw fun v w' hv=>ih _ _ _ _ _ _ hl' hn' hlt' h2 hb' hL' (hE.cl v) hv (ht v ⟨w',hv⟩)
def F3 (ops:Array Oper) (rest:List Nat) (i:Nat):Bool:=rest.all fun j=>j==i|| !(cT ops j).testBit i
def D8 (P:Program) (ops:Array Oper) (Q:Exit→Act→World→Prop):Nat→List Nat→Act→World→Prop
 |0,_,a,w=>Q .normal a w
 |n+1,rest,a,w=>∀i∈rest,F3 ops rest i=true→wpOp P ops Q i (D8 P ops Q n (rest.erase i)) a w
theorem bC {rest:List Nat} {a:Act} {w:World} (h:Q .normal a w):D8 P ops Q 0 rest a w:=h
theorem aG {b:Bool} {p:Prop} (hf:b=false) (hb:b=true):p:=by
 rw[hf]at hb;cases hb
theorem EJ (hsel:∀(j:Nat) (p:Oper) cs b,ops[j]? =some p→p.op≠ .select cs b)
  (hback:∀i o,ops[i]? =some o→∀e∈o.after,Region.binds .any e=true→e.on<i):∀(n:Nat) (rest:List Nat),rest.length=n→rest.Nodup→(∀i∈rest,i<ops.size)→
  ∀(listed:Array Bool) (a:Act) (w:World),bV ops listed rest→D8 P ops Q n rest a w→wpAny P .any ops Q n listed a w:=by
 intro n
 induction n with
 |zero=>
  intro rest hl hn hlt listed a w hL h;obtain rfl:=aY2.1 hl;exact TE.sound (κ:=fun _=>0) hsel hback 0 [] listed a w rfl aWn (by simp) rfl hL (.nil h)
 |succ n ih=>
  intro rest hl hn hlt listed a w hL h;have hne:rest≠[]:=by intro e;rw[e]at hl;cases hl
  refine⟨fun hnil=> ?_,fun i hi=> ?_⟩
  ·exfalso;obtain⟨x,hx⟩:=List.exists_mem_of_ne_nil _ hne;exact bX hback hL hlt x x hx (aZq _) hnil
  ·obtain⟨hun,o,ho,hall⟩:=mem_ready.1 hi;have hin:=(hL.mem i).2 hun;have hhead:F3 ops rest i=true:=by
    unfold F3;rw[aYh];intro j hj;by_cases e:j=i
    ·simp[e]
    ·cases hb:(cT ops j).testBit i with
     |false=>simp
     |true=>
      exfalso;obtain⟨_,hpth⟩:=(bI hb).resolve_left (fun e'=>e e'.symm);have hl1:=bM hL.closed _ j i o ho hall hpth;have hl2:=aW ((hL.mem j).1 hj);rw[hl1]at hl2;cases hl2
   obtain⟨pre,post,hr⟩:=aXf hin;have hN:=bV.next (pre:=pre) (post:=post) (i:=i) (by rw[←hr];exact hL) (by rw[←hr];exact hn) ho hall;have hq:(rest.erase i).Perm (pre++post):=List.Perm.cons_inv ((List.perm_cons_erase hin).symm.trans (by rw[hr];exact List.perm_middle));refine wpOp_mono (fun a' w' hk=> ?_) (h i hin hhead);refine ih (rest.erase i) (by rw[List.length_erase_of_mem hin];omega) (hn.erase i) (fun x hx=>hlt x (List.mem_of_mem_erase hx)) _ a' w' ⟨hN.size,fun x=>(hq.mem_iff).trans (hN.mem x),hN.closed⟩ hk
def zP (ops:Array Oper) (κ:Nat→Nat) (υ:Nat→List Tmp) (l rest:List Nat):Bool:=
 Region.noSelect ops&&((List.range ops.size).all fun i=>match ops[i]? with|none=>false|some o=>o.after.all fun e=> !Region.binds .any e||decide (e.on<i))&&
 (decide (rest.length+l.length=ops.size)&&((l++rest).all (fun i=>decide (i<ops.size))&&((List.range ops.size).all fun i=>(l++rest).contains i)))&&
 (decide (l++rest).Nodup&&cI ops κ υ l&&
  l.all (fun x=>rest.all fun y=> !(x==y)&&(cT ops x).testBit y))
theorem UJ {a:Act} {w1:World} {K:aL} (l rest:List Nat) (hok:zP ops κ υ l rest=true) (hK:bR K) (hR:RG T0 w0 Bx.nil K w1)
  (h:TG P ops (fun _ a w=>D8 P ops Q rest.length rest a w) T0 w0 κ υ l a Bx.nil K):wpAny P .any ops Q ops.size (Array.replicate ops.size false) a w1:=by
 simp only[zP,aZy,aYh,decide_eq_true_eq]at hok;obtain⟨⟨⟨h1,h2⟩,h3,h4,h5⟩,⟨hnd,h6⟩,h8⟩:=hok;have hback:∀i o,ops[i]? =some o→∀e∈o.after,Region.binds .any e=true→e.on<i:=fun i o ho e he hb=>by
  have:=h2 i (aYu.2 (aZf.1 ho).1);rw[ho]at this;have:=aZ5.1 this e he;simpa[hb] using this
 rw[←h3];have hnr:rest.Nodup:=(aZ7.1 hnd).2.1;refine TG.soundX (Region.noSelect_spec h1) hback (fun listed a w hL hE=>EJ (Region.noSelect_spec h1) hback rest.length rest rfl hnr (fun i hi=>h4 i (aYi _ hi)) listed a w hL hE) _ l _ a _ _ _ rfl hnd h4 h6 (fun x hx y hy=> ?_) ?_ hK hR h
 ·have:=h8 x hx y hy;exact⟨by simpa using this.1,this.2⟩
 ·rw[h3];refine⟨by simp,fun i=> ?_,fun i o hi=> ?_⟩
  ·constructor
   ·intro hi;have:=h4 i hi;simp[this]
   ·intro hi
    have:i<ops.size:=by
     rcases aYt i ops.size with h'|h'
     ·exact h'
     ·simp[Nat.not_lt.2 h']at hi
    simpa using h5 i (aYu.2 this)
  ·exfalso
   have:(Array.replicate ops.size false).getD i false=false:=by
    by_cases h':i<ops.size
    ·simp[h']
    ·simp[h']
   rw[this]at hi;cases hi
theorem mI {id:Nat} {a:Act} {w:World} {K:aL} (l rest:List Nat) (hm:P.follows .mixedOrders=true) (hok:zP ops κ υ l rest=true) (hK:bR K) (hk:K T0 w) (hlt:∀i,T0 i→i<w.heap.size)
  (h:TG P ops (fun _ a w=>D8 P ops Q rest.length rest a w) T0 w κ υ l a Bx.nil K):(Code.region id ops true).wp P Q a w:=
 wp_region_any hm (UJ l rest hok hK ⟨T0,hK T0 w w.drew hk (Mod.refl _ w).drew,hlt,fun _ _ h=>h,(Mod.refl _ w).drew,fun _ _ hh=>by cases hh⟩ h)
end
end
section
theorem pair_len {q:Nat}:∀(l:List Nat) (m:Nat),l.Pairwise (·<·)→(∀x∈l,m≤x∧x<q)→l=[]∨l.length+m≤q
 |[],_,_,_=> .inl rfl
 |x::r,m,hp,h=>by
  right;rw[List.pairwise_cons]at hp;obtain⟨h1,h2⟩:=h x (by simp);rcases pair_len r (x+1) hp.2 (fun y hy=>⟨hp.1 y hy,(h y (by simp[hy])).2⟩)with e|e
  ·subst e;simp;omega
  ·simp;omega
section
variable {q:Nat} {L:List An} {N:List (Int64×Nat)} {S:List (aQ×Nat)} {nd:Nat→Nr} {sp:Nat→Sr}
theorem eH.Llen (I:eH q L N S nd sp):L.length≤q:=by
 rcases pair_len (q:=q) (L.map An.pt) 0 I.pts (fun x hx=>⟨aYf _,by
  obtain⟨y,hy,rfl⟩:=aZj.1 hx;exact I.ptu y hy⟩)with e|e
 ·have:L=[]:=by simpa using e
  subst this;simp
 ·simpa using e
theorem eH.ainj (I:eH q L N S nd sp) {b c:An} (hb:b∈L) (hc:c∈L) (h:b.a=c.a):b=c:=by
 have h1:∀(L:List An),(L.map An.a).Nodup→b∈L→c∈L→b=c:=by
  intro L
  induction L with
  |nil=>intro _ h;cases h
  |cons x r ih=>
   intro hp hb hc;rw[aZo,aYc]at hp;rcases aZc.1 hb with e1|hb<;>rcases aZc.1 hc with e2|hc
   ·rw[e1,e2]
   ·exact absurd (aZj.2 ⟨c,hc,by rw[←h,e1]⟩) hp.1
   ·exact absurd (aZj.2 ⟨b,hb,by rw[h,e2]⟩) hp.1
   ·exact ih hp.2 hb hc
 exact h1 L I.ad hb hc
end
theorem l5 (k:aQ) (L:List An):(spotOf k L).2.length≤L.length:=by
 induction L using bA with
 |h0=>simp
 |h1 l x ih=>
  rw[spotOf_snoc,aZg];unfold stepS;split
  ·simp;omega
  ·simp
  ·simp;omega
theorem IW (L:List An) (k:aQ) (wr:Bool):(l7 L k wr).length≤L.length+1:=by
 unfold l7;have:=l5 k L;rw[aZg];have h1:(spotOf k L).1.toList.length≤1:=by cases(spotOf k L).1<;>simp
 split
 ·omega
 ·simp;omega
theorem l8 (L:List An) (ks:List (aQ×Bool)):(dX L ks).length≤ks.length*(L.length+1):=by
 unfold dX
 induction ks with
 |nil=>simp
 |cons p r ih=>
  rw[aWe,aZg,aZu,aWh];have:=IW L p.1 p.2;omega
theorem DR {L:List An} {ks js:List (aQ×Bool)} (h:ks.Perm js):(dX L ks).Perm (dX L js):=by
 unfold dX
 induction h with
 |nil=>exact .refl _
 |cons x _ ih=>rw[aWe,aWe];exact ih.append_left _
 |swap x y l=>
  simp only[aWe];rw[←aZw,←aZw];exact List.perm_append_comm.append_right _
 |trans _ _ h1 h2=>exact h1.trans h2
def SP (s:Int×Int64) (b:An):Int×Int64:=if s.1<(b.pt:Int)then((b.pt:Int),b.ch)else s
def lc (id:Int64) (E:List An):Int×Int64:=E.foldl SP (-1,id)
theorem tR (id:Int64) (E:List An) (b:An):lc id (E++[b])=SP (lc id E) b:=by simp[lc]
theorem lc_spec (id:Int64) (E:List An):E=[]∨∃b∈E,lc id E=((b.pt:Int),b.ch)∧∀c∈E,c.pt≤b.pt:=by
 induction E using bA with
 |h0=>exact .inl rfl
 |h1 l x ih=>
  right;rw[tR];unfold SP;rcases ih with rfl|⟨b,hb,h1,h2⟩
  ·refine⟨x,by simp,?_,fun c hc=> ?_⟩
   ·rw[if_pos (by simp[lc];omega)]
   ·simp at hc;rw[hc];exact aZq _
  ·rw[h1];by_cases h:(b.pt:Int)<x.pt
   ·rw[if_pos h];refine⟨x,by simp,rfl,fun c hc=> ?_⟩;rcases aZh.1 hc with hc|hc
    ·have:=h2 c hc;omega
    ·simp at hc;rw[hc];exact aZq _
   ·rw[if_neg h];refine⟨b,aZl _ hb,rfl,fun c hc=> ?_⟩;rcases aZh.1 hc with hc|hc
    ·exact h2 c hc
    ·simp at hc;rw[hc];omega
def tI (how:aQ→Option Bool) (ks:List (aQ×Bool)):Bool:=ks.any fun p=>match how p.1 with
 |some b=>b||p.2
 |none=>false
theorem lP {x:An} {ks:List (aQ×Bool)}:tI x.how ks=true↔∃p∈ks,jG p.1 (x.how p.1) (some p.2):=by
 unfold tI;rw[aYv];refine exists_congr fun p=>and_congr_right fun _=> ?_;unfold jG;cases x.how p.1<;>simp
def eU (C:List Cn) (id:Int64) (ks:List (aQ×Bool)):Int64:=((C.filter fun x=>tI x.how ks).getLast?.map Cn.ch).getD id
theorem last_split {α:Type} {p:α→Bool}:∀(L:List α),(L.filter p=[]∧∀x∈L,p x=false)∨∃X b Y,L=X++b::Y∧p b=true∧(∀y∈Y,p y=false)∧(L.filter p).getLast? =some b:=by
 intro L
 induction L using bA with
 |h0=>exact .inl ⟨rfl,fun _ h=>by cases h⟩
 |h1 l x ih=>
  by_cases h:p x=true
  ·right;refine⟨l,x,[],rfl,h,(fun _ h=>by cases h),?_⟩;rw[aZ6];simp[h]
  ·have hf:p x=false:=by simpa using h
   rcases ih with⟨h1,h2⟩|⟨X,b,Y,rfl,hb,hY,hl⟩
   ·left;refine⟨by rw[aZ6,h1];simp[hf],fun y hy=> ?_⟩;rcases aZh.1 hy with hy|hy
    ·exact h2 y hy
    ·simp at hy;rw[hy];exact hf
   ·right;refine⟨X,b,Y++[x],by simp,hb,fun y hy=> ?_,by rw[aZ6];simp[hf]at hl⊢;exact hl⟩;rcases aZh.1 hy with hy|hy
    ·exact hY y hy
    ·simp at hy;rw[hy];exact hf
theorem uC {X Y:List An} {b c:An} (h:((X++b::Y).map An.pt).Pairwise (·<·)) (hc:c∈X):c.pt<b.pt:=by
 rw[List.map_append,List.pairwise_append]at h;exact h.2.2 c.pt (aZj.2 ⟨c,hc,rfl⟩) b.pt (by simp)
section
variable {q:Nat} {L:List An} {N:List (Int64×Nat)} {S:List (aQ×Nat)} {nd:Nat→Nr} {sp:Nat→Sr}
theorem eH.chain (I:eH q L N S nd sp) (id:Int64) {ks:List (aQ×Bool)} {E:List An} (hE:E.Perm (dX L ks)):(lc id E).2=eU (L.map An.cn) id ks:=by
 unfold eU;rw[List.filter_map,List.getLast?_map];have e:((fun x=>tI x.how ks)∘An.cn)=fun x:An=>tI x.how ks:=rfl;rw[e];rcases last_split (p:=fun x:An=>tI x.how ks) L with⟨h1,h2⟩|⟨X,b,Y,hL,hb,hY,hl⟩
 ·rw[h1]
  have:E=[]:=by
   cases hE0:E with
   |nil=>rfl
   |cons c r=>
    obtain⟨h3,h4⟩:=jU (hE.mem_iff.1 (show c∈E by rw[hE0];simp));have h5:=h2 c h3;rw[lP.2 h4]at h5;cases h5
  rw[this];rfl
 ·rw[hl];obtain⟨p,hp,hh⟩:=lP.1 hb;have hbE:b∈E:=by
   rw[hE.mem_iff,hL];refine xC hp hh (fun y hy r hr hit=> ?_);have h5:=hY y hy;simp only[lP.2 ⟨r,hr,hit⟩]at h5;cases h5
  rcases lc_spec id E with h|⟨c,hc,h1,h2⟩
  ·rw[h]at hbE;cases hbE
  ·have hcL:=jU (hE.mem_iff.1 hc)
   have:c=b:=by
    have h3:=h2 b hbE;have h4:c∈X++b::Y:=hL▸hcL.1;rcases aZh.1 h4 with h5|h5
    ·have:=uC (hL▸I.pts) h5;omega
    ·rcases aZc.1 h5 with h5|h5
     ·exact h5
     ·have h6:=hY c h5;simp only[lP.2 hcL.2]at h6;cases h6
   rw[h1,this];rfl
end
structure RK (L:List An) (nd0 nd:Nat→Nr) (a:Nat) (id:Int64) (pu kb:Nat) (ks:List (aQ×Bool)) (E:List An):Prop where
 old:∀b∈L,∃v,nd b.a= {nd0 b.a with nv:=v,nx:=(nd0 b.a).nx++List.replicate (E.count b) a}
 new:nd a=⟨id,(lc id E).2,pu,E.length,.slice none 0 0,[],kb,ks⟩
structure JR (L:List An) (x:An) (D:List (aQ×Bool)) (S:List (aQ×Nat)) (sp:Nat→Sr):Prop where
 sn:(S.map Prod.snd).Nodup
 done:∀k,(∃h,(k,h)∈D)→∃s,lkp k S=some s∧vD (sp s) (spotOf k (L++[x]))
 left:∀k,(∀h,(k,h)∉D)→(∀s,lkp k S=some s→vD (sp s) (spotOf k L))∧(lkp k S=none→spotOf k L=(none,[]))
theorem RK.edge {L:List An} {nd0 nd:Nat→Nr} {a:Nat} {id:Int64} {pu kb:Nat} {ks:List (aQ×Bool)} {E:List An} (h:RK L nd0 nd a id pu kb ks E) {b:An} (hb:b∈L) (ha:∀c∈L,c.a≠a) (hi:∀c∈L,c.a=b.a→c=b) (v:Value):
  RK L nd0 (fJ (fJ nd b.a {nd b.a with nv:=v,nx:=(nd b.a).nx++[a]}) a {nd a with wt:=E.length+1,ch:=(lc id (E++[b])).2}) a id pu kb ks (E++[b]) where
 old c hc:=by
  obtain⟨u,hu⟩:=h.old c hc;rw[dG _ _ (ha c hc)];by_cases e:c.a=b.a
  ·obtain rfl:=hi c hc e;refine⟨v,?_⟩;rw[upd_same,hu,List.count_append];simp[aZw,List.replicate_succ']
  ·refine⟨u,?_⟩;rw[dG _ _ e,hu,List.count_append]
   have:c≠b:=fun h=>e (by rw[h]);simp[List.count_singleton,Ne.symm this]
 new:=by
  rw[upd_same,h.new,aZg];rfl
theorem snoc_split {α:Type} {L X Y:List α} {x y:α} (h:L++[x]=X++y::Y):(Y=[]∧y=x∧X=L)∨∃Y',Y=Y'++[x]∧L=X++y::Y':=by
 rcases List.eq_nil_or_concat Y with rfl|⟨Y',z,rfl⟩
 ·left;have:=List.append_inj' h rfl;exact⟨rfl,by simpa using this.2.symm,this.1.symm⟩
 ·right;rw[List.concat_eq_append,show X++y::(Y'++[z])=(X++y::Y')++[z]by simp]at h;have:=List.append_inj' h rfl;have h2:x=z:=by simpa using this.2
  exact⟨Y',by rw[List.concat_eq_append,h2],this.1⟩
theorem pE {α:Type} [BEq α] [LawfulBEq α] {l:List α} {x:α} (h:x∉l):l.count x=0:=List.count_eq_zero.2 h
theorem eH.put {q:Nat} {L:List An} {N:List (Int64×Nat)} {S S':List (aQ×Nat)} {nd nd':Nat→Nr} {sp sp':Nat→Sr} (I:eH q L N S nd sp) (hq:q<900) {a kb:Nat} {id:Int64} {ks D:List (aQ×Bool)} (ha:∀c∈L,c.a≠a) (hid:lkp id N=none)
  (hk:(ks.map Prod.fst).Nodup) (hkl:ks.length≤1000) (hD:D.Perm ks) (hN:RK L nd nd' a id q kb ks (dX L D)) (hS:JR L ⟨a,id,eU (L.map An.cn) id ks,q,ks⟩ D S' sp'):
  eH (q+1) (L++[⟨a,id,eU (L.map An.cn) id ks,q,ks⟩]) (put id a N) S' nd' sp':=by
 have hperm:=DR (L:=L) hD;have hlen:∀ {l:List An} (b:An),l.count b≤l.length:=fun b=>aWg;have hsl:(dX L D).length≤1000000:=by
  rw[hperm.length_eq];have h1:=l8 L ks;have h2:=I.Llen;have h3:ks.length*(L.length+1)≤1000*1000:=Nat.mul_le_mul hkl (by omega);omega
 have hinv:∀b∈L,JO (nd' b.a) b∧(nd' b.a).wt=(nd b.a).wt∧(nd' b.a).nx=(nd b.a).nx++List.replicate ((dX L D).count b) a:=fun b hb=>by
  obtain⟨v,hv⟩:=hN.old b hb;rw[hv];exact⟨I.nds b hb,rfl,rfl⟩
 have hxa:∀y∈L,y≠(⟨a,id,eU (L.map An.cn) id ks,q,ks⟩:An):=fun y hy e=>ha y hy (by rw[e]);refine⟨?_,?_,?_,?_,by omega,?_,?_,?_,?_,hS.sn,?_,?_,?_,?_⟩
 ·rw[jP hid,List.map_append];exact I.N.append_right _
 ·rw[List.map_append,aZ7];refine⟨I.ad,by simp,fun c hc d hd e=> ?_⟩;obtain⟨y,hy,rfl⟩:=aZj.1 hc;simp at hd;exact ha y hy (e.trans hd)
 ·rw[List.map_append,List.pairwise_append];refine⟨I.pts,by simp,fun c hc d hd=> ?_⟩;obtain⟨y,hy,rfl⟩:=aZj.1 hc;simp at hd;rw[hd];exact I.ptu y hy
 ·intro y hy;rcases aZh.1 hy with hy|hy
  ·have:=I.ptu y hy;omega
  ·simp at hy;rw[hy];simp
 ·intro y hy;rcases aZh.1 hy with hy|hy
  ·exact I.kl y hy
  ·simp at hy;rw[hy];exact hkl
 ·intro y hy;rcases aZh.1 hy with hy|hy
  ·rw[(hinv y hy).2.2,aZg,aZ9];have h1:=I.nxl y hy;have h2:=hlen (l:=dX L D) y;omega
  ·simp at hy;subst hy;rw[hN.new];simp
 ·intro y hy;rcases aZh.1 hy with hy|hy
  ·exact(hinv y hy).1
  ·simp at hy;subst hy;dsimp only;rw[hN.new];exact⟨rfl,I.chain id hperm,rfl,rfl⟩
 ·intro y hy;rcases aZh.1 hy with hy|hy
  ·exact I.kn y hy
  ·simp at hy;subst hy;exact hk
 ·intro k;by_cases hk:∃h,(k,h)∈D
  ·obtain⟨s,h1,h2⟩:=hS.done k hk;refine⟨fun s' h3=> ?_,fun h3=> ?_⟩
   ·rw[h1]at h3;cases h3;exact h2
   ·rw[h1]at h3;cases h3
  ·have hk':∀h,(k,h)∉D:=fun h hh=>hk ⟨h,hh⟩;have e:spotOf k (L++[⟨a,id,eU (L.map An.cn) id ks,q,ks⟩])=spotOf k L:=by
    rw[spotOf_snoc];unfold stepS
    have:An.how ⟨a,id,eU (L.map An.cn) id ks,q,ks⟩ k=none:=by
     unfold An.how;dsimp only;rw[eL];intro hm;obtain⟨p,hp,rfl⟩:=aZj.1 hm;exact hk' p.2 (hD.mem_iff.2 hp)
    rw[this]
   rw[e];exact hS.left k hk'
 ·intro X y Y hL;rcases snoc_split hL with⟨_,rfl,rfl⟩|⟨Y',rfl,hL'⟩
  ·dsimp only;rw[hN.new,hperm.length_eq]
  ·have hy:y∈L:=by rw[hL'];simp
   rw[(hinv y hy).2.1];exact I.wts X y Y' hL'
 ·intro X y Y hL b hb;rcases aZh.1 hb with hb|hb
  ·rw[(hinv b hb).2.2,List.count_append,List.count_replicate];rcases snoc_split hL with⟨_,rfl,rfl⟩|⟨Y',rfl,hL'⟩
   ·have h0:(nd b.a).nx.count a=0:=pE (fun hm=>by
     obtain⟨z,hz,e⟩:=I.nxm b hb _ hm;exact ha z hz e)
    simp[h0,hperm.count_eq]
   ·have hy:y∈L:=by rw[hL'];simp
    have hne:¬a=y.a:=fun e=>ha y hy e.symm;rw[I.nxs X y Y' hL' b hb];simp[hne]
  ·simp at hb;subst hb;dsimp only;rw[hN.new];dsimp only;rw[List.count_nil];refine(pE fun hm=> ?_).symm;have h1:=(jU hm).1;rcases snoc_split hL with⟨_,rfl,rfl⟩|⟨Y',rfl,hL'⟩
   ·exact hxa _ h1 rfl
   ·have h2:∀z,z∈X→z∈L:=fun z hz=>by rw[hL'];exact aZl _ hz
    exact hxa _ (h2 _ h1) rfl
 ·intro b hb y hy;rcases aZh.1 hb with hb|hb
  ·rw[(hinv b hb).2.2]at hy;rcases aZh.1 hy with hy|hy
   ·obtain⟨z,hz,e⟩:=I.nxm b hb y hy;exact⟨z,aZl _ hz,e⟩
   ·have:=aXy hy;exact⟨_,aYi _ (aZm.2 rfl),this.symm⟩
  ·simp at hb;subst hb;dsimp only at hy;rw[hN.new]at hy;cases hy
end
section
open Go.RowKit
def eI (n:Nat) (ds:List Deferred) (w:World):Prop:=∃Ds:List Nat,ds=Ds.map (fun D=>({target:= .collected D,args:= #[]}:Deferred))∧Ds.Nodup∧∀D∈Ds,n≤D∧w.heap[D]? =some (.deferred (some []))
theorem eI.nil (n:Nat) (w:World):eI n [] w:=⟨[],rfl,aWn,fun _ h=>by cases h⟩
theorem eI.mod {n:Nat} {ds:List Deferred} {w w':World} {M:Nat→Prop} (h:eI n ds w) (hm:Mod M w w') (hM:∀i,w.heap[i]? =some (.deferred (some []))→¬M i):eI n ds w':=by
 obtain⟨Ds,e,h1,h2⟩:=h;exact⟨Ds,e,h1,fun D hD=>⟨(h2 D hD).1,hm.at (h2 D hD).2 (hM D (h2 D hD).2)⟩⟩
theorem eI.cons {n D:Nat} {ds:List Deferred} {w w':World} {M:Nat→Prop} (h:eI n ds w) (hm:Mod M w w') (hM:∀i,w.heap[i]? =some (.deferred (some []))→¬M i) (hn:n≤w.heap.size) (hD:w.heap.size≤D) (hk:w'.heap[D]? =some (.deferred (some []))):
  eI n (({target:= .collected D,args:= #[]}:Deferred)::ds) w':=by
 obtain⟨Ds,e,h1,h2⟩:=h;refine⟨D::Ds,by rw[e];rfl,aYc.2 ⟨fun hh=> ?_,h1⟩,fun E hE=> ?_⟩
 ·have:=aA (h2 D hh).2;omega
 ·rcases aZc.1 hE with rfl|hE
  ·exact⟨by omega,hk⟩
  ·exact⟨(h2 E hE).1,hm.at (h2 E hE).2 (hM E (h2 E hE).2)⟩
theorem eI.keeps {n:Nat} {ds:List Deferred} {w w':World} (h:eI n ds w) (hm:KeepsOthers w w'):eI n ds w':=by
 obtain⟨Ds,e,h1,h2⟩:=h;exact⟨Ds,e,h1,fun D hD=>⟨(h2 D hD).1,hm.same _ _ (h2 D hD).2 rfl⟩⟩
theorem eI.cons' {n D:Nat} {ds:List Deferred} {w w':World} (h:eI n ds w) (hm:KeepsOthers w w') (hn:n≤w.heap.size) (hD:w.heap.size≤D) (hk:w'.heap[D]? =some (.deferred (some []))):eI n (({target:= .collected D,args:= #[]}:Deferred)::ds) w':=by
 obtain⟨Ds,e,h1,h2⟩:=h;refine⟨D::Ds,by rw[e];rfl,aYc.2 ⟨fun hh=> ?_,h1⟩,fun E hE=> ?_⟩
 ·have:=aA (h2 D hh).2;omega
 ·rcases aZc.1 hE with rfl|hE
  ·exact⟨by omega,hk⟩
  ·exact⟨(h2 E hE).1,hm.same _ _ (h2 E hE).2 rfl⟩
theorem oJ (w:World) (b:Nat) (o:Obj):w.putObj b o=setBlock w b o:=rfl
theorem tT {F:Fence} {m:Nat} {P:Program} {fn:Func} {tmps:Array Value} {R:Ending→World→Prop} {n:Nat}:∀(ds:List Deferred) (w:World),eI n ds w→
  (∀w',Mod (fun i=>n≤i∧w.heap[i]? =some (.deferred (some []))) w w'→∃v,(results fn tmps).run P w'= .ok v w'∧R (.returned v) w')→LeavesInM F m P fn tmps R ds .returning w:=by
 intro ds
 induction ds with
 |nil=>exact fun w _ h=>h w (Mod.refl _ _)
 |cons d ds ih=>
  rintro w ⟨Ds,e,h1,h2⟩ h;cases Ds with
  |nil=>cases e
  |cons D Ds=>
   rw[aZo,List.cons.injEq]at e;obtain⟨rfl,e⟩:=e;rw[aYc]at h1;obtain⟨hD,hk⟩:=h2 D (by simp);refine⟨by simp,.inl ⟨D,_,rfl,run_takeDeferred hk,?_⟩⟩;have hm:Mod (fun i=>i=D) w (w.putObj D (.deferred none)):=by rw[oJ];exact bN w D _
   refine ih _ ⟨Ds,e,h1.2,fun E hE=>⟨(h2 E (by simp[hE])).1,hm.at (h2 E (by simp[hE])).2 (fun e=>h1.1 (e▸hE))⟩⟩ fun w' hw'=> ?_;refine h w' ((hm.mono (fun i _ e=>by rw[e];exact⟨hD,hk⟩)).then hw' (fun i hi hh=>⟨hh.1,?_⟩));by_cases e:i=D
   ·rw[e];exact hk
   ·rw[←hm.block i hi e];exact hh.2
section
variable {tag tag':u5} {w w':World} {g nb sb pu:Nat} {A:List Nat} {N:List (Int64×Nat)} {S:List (aQ×Nat)} {nd nd':Nat→Nr} {sp:Nat→Sr}
theorem dR.nds {M:Nat→Prop} (h:dR tag w g nb sb pu A N S nd sp) (hm:Mod M w w') (hM:∀i c r,tag i=some (c,r)→M i→r≤2) (ht:∀i,i<w.heap.size→tag' i=tag i) (hx:∀c∈A,u9 tag' w' c (nd' c)):dR tag' w' g nb sb pu A N S nd' sp:=by
 obtain⟨es,c,hk,M1⟩:=h.kn;obtain⟨es2,c2,hk2,M2⟩:=h.ks;refine⟨hm.at h.c (fun e=> ?_),⟨es,c,hm.at hk (fun e=> ?_),M1⟩,⟨es2,c2,hm.at hk2 (fun e=> ?_),M2⟩,hx,fun p hp=>(h.spots p hp).mod hm (fun i r e h3 h4 hi=> ?_) ht,(ht _ (aA h.c)).trans h.tg,(ht _ (aA hk)).trans h.tnb,(ht _ (aA hk2)).trans h.tsb⟩
 ·have:=hM _ _ _ h.tg e;omega
 ·have:=hM _ _ _ h.tnb e;omega
 ·have:=hM _ _ _ h.tsb e;omega
 ·have:=hM _ _ _ e hi;omega
theorem dR.turn {M:Nat→Prop} {B:Nat} (h:dR tag w g nb sb pu A N S nd sp) (hm:Mod M w w') (hM:∀i,M i→B≤i∧∀cs T,w.heap[i]? ≠some (.cells cs T (0,0))) (h1:nb<B) (h2:sb<B) (h3:∀a∈A,(nd a).kb<B):dR tag w' g nb sb pu A N S nd sp:=by
 obtain⟨es,c,hk,M1⟩:=h.kn;obtain⟨es2,c2,hk2,M2⟩:=h.ks;have hc:∀ {i cs T},w.heap[i]? =some (.cells cs T (0,0))→¬M i:=fun e hi=>(hM _ hi).2 _ _ e;have hb:∀ {i},i<B→¬M i:=fun e hi=>by have:=(hM _ hi).1;omega
 have ho:∀ {v:Value} {l:List Nat},aE pc 1 238 w 0 v l→aE pc 1 238 w' 0 v l:=fun h=>h.mod hm (fun g hg=>by
  obtain⟨cur,hk⟩:=k9 h hg;exact hc hk)
 refine⟨hm.at h.c (hc h.c),⟨es,c,hm.at hk (hb h1),M1⟩,⟨es2,c2,hm.at hk2 (hb h2),M2⟩,fun a ha=> ?_,fun p hp=> ?_,h.tg,h.tnb,h.tsb⟩
 ·have hn:=h.nodes a ha;obtain⟨es,c,hk,M'⟩:=hn.k;exact⟨hm.at hn.c (hc hn.c),ho hn.o,⟨es,c,hm.at hk (hb (h3 a ha)),M'⟩,hn.ta,hn.tk,hn.tn⟩
 ·have hs:=h.spots p hp;exact⟨hm.at hs.c (hc hs.c),ho hs.o,hs.ta,hs.tr⟩
end
theorem B8 (t:Array Value):t=((List.range t.size).map (fun i=>t.getD i undef)).toArray:=by
 apply Array.ext
 ·simp
 ·intro i h1 h2;simp[h1]
theorem xX (t:Array Value) (h:t.size=157):∃u:Nat→Value,(∀i,t.getD i undef=u i)∧t=(List.toArray (u 0::u 1::u 2::u 3::u 4::u 5::u 6::u 7::u 8::u 9::u 10::u 11::u 12::u 13::u 14::u 15::u 16::u 17::u 18::u 19::u 20::u 21::u 22::u 23::u 24::u 25::u 26::u 27::u 28::u 29::u 30::u 31::u 32::u 33::u 34::u 35::u 36::u 37::u 38::u 39::u 40::u 41::u 42::u 43::u 44::u 45::u 46::u 47::u 48::u 49::u 50::u 51::u 52::u 53::u 54::u 55::u 56::u 57::u 58::u 59::u 60::u 61::u 62::u 63::u 64::u 65::u 66::u 67::u 68::u 69::u 70::u 71::u 72::u 73::u 74::u 75::u 76::u 77::u 78::u 79::u 80::u 81::u 82::u 83::u 84::u 85::u 86::u 87::u 88::u 89::u 90::u 91::u 92::u 93::u 94::u 95::u 96::u 97::u 98::u 99::u 100::u 101::u 102::u 103::u 104::u 105::u 106::u 107::u 108::u 109::u 110::u 111::u 112::u 113::u 114::u 115::u 116::u 117::u 118::u 119::u 120::u 121::u 122::u 123::u 124::u 125::u 126::u 127::u 128::u 129::u 130::u 131::u 132::u 133::u 134::u 135::u 136::u 137::u 138::u 139::u 140::u 141::u 142::u 143::u 144::u 145::u 146::u 147::u 148::u 149::u 150::u 151::u 152::u 153::u 154::u 155::u 156::[])):=
 ⟨fun i=>t.getD i undef,fun _=>rfl,by
  have:=B8 t;rw[h]at this;exact this⟩
def jS:Code→Option Code
 | .rangeFunc _ _ _ c=>some c
 | .loop c=>jS c
 | .seq a b=>match jS a with
  |some c=>some c
  |none=>jS b
 | .block _ c=>jS c
 | .scope c=>jS c
 | .cond _ a b=>match jS a with
  |some c=>some c
  |none=>jS b
 |_=>none
def iW:Code→Option Code
 | .rangeFunc a b c d=>some (.rangeFunc a b c d)
 | .loop c=>iW c
 | .seq a b=>match iW a with
  |some c=>some c
  |none=>iW b
 | .block _ c=>iW c
 | .scope c=>iW c
 | .cond _ a b=>match iW a with
  |some c=>some c
  |none=>iW b
 |_=>none
def lB:Code→Option Code
 | .loop c=>(iW c).map fun _=>c
 | .seq a b=>match lB a with
  |some c=>some c
  |none=>lB b
 | .block _ c=>lB c
 | .scope c=>lB c
 | .cond _ a b=>match lB a with
  |some c=>some c
  |none=>lB b
 |_=>none
noncomputable def edgeBody:Code:=((Tryz.f102).body.bind jS).getD .skip
noncomputable def edgeCode:Code:=((Tryz.f102).body.bind iW).getD .skip
noncomputable def keysBody:Code:=((Tryz.f102).body.bind lB).getD .skip
end
section
open Go.RowKit Go.Shelf
attribute [local go_sem] Oper.semAt_some aN aK aP aF aO aH aC Value.cells
structure lG (g nb sb q:Nat) (L:List An) (a:Nat) (id:Int64) (kb:Nat) (ks:List (aQ×Bool)) (N:List (Int64×Nat)) (S:List (aQ×Nat)) (nd0:Nat→Nr) (sp:Nat→Sr) (b7 p10:Nat) (E:List An) (tag:u5) (nd:Nat→Nr) (W:World):Prop where
 mem:dR tag W g nb sb (q+1) (L.map An.a++[a]) N S nd sp
 ndp:RK L nd0 nd a id q kb ks E
 k7:W.heap[b7]? =some (.cells #[ptrV a] 238 (0,0))
 kl:W.heap[p10]? =some (.cells #[.int .i64 (lc id E).1] 3 (0,0))
 hlt:∀i,tag i≠none→i<W.heap.size
 n7:tag b7=none
 nl:tag p10=none
theorem pU {M:Nat→Prop} {W W':World} (hm:Mod M W W') (hM:∀i,M i→∃cs T,W.heap[i]? =some (.cells cs T (0,0))):KeepsOthers W W':=⟨hm.size,fun k o hk ho=>hm.at hk (fun h=>by
 obtain⟨cs,T,e⟩:=hM k h;rw[hk]at e;cases e;cases ho)⟩
def rS (tag:u5) (p10:Nat) (i:Nat):Prop:=i=p10∨∃c r,tag i=some (c,r)∧(r=0∨r=2)
def sN (l:List Nat) (v:Value):aL:=fun T w=>aE pc 1 238 w 0 v l∧∀g,v.ownBlock=some g→T g
theorem fB (l:List Nat) (v:Value):aI (sN l v) where
 cl:=fun T w w' h hm=>⟨h.1.mod hm (fun b hb hn=>hn (h.2 b hb)),h.2⟩
 gr:=fun T T' w hT h=>⟨h.1,fun g hg=>hT g (h.2 g hg)⟩
theorem JV {w:World} {l q:List Nat} {c:Nat} {v:Value} {a:Option Addr} {T:Nat→Prop} (hv:sN l v T w) (hs:aS pc 1 w a q) (hq:l.length+q.length≤1000000000000):∃v' w',(Builtin.append_ #[236,236] 236 #[v,.slice a q.length c]).run Tryz.prog w= .ok v' w'∧Mod T w w'∧sN (l++q) v' (Grow T w w') w':=by
 obtain⟨v',w',hap,hO,m,hn⟩:=aE.appendB fF (c:=c) hv.1 hs hq (by omega) (aYf _) 236;refine⟨v',w',hap,m.mono (fun i _ e=>hv.2 i e),hO,fun g hg=> ?_⟩;rcases hn with h|h
 ·rw[hg]at h;exact .inl (hv.2 g h.symm)
 ·rw[hg]at h;cases h;exact .inr ⟨aZq _,(hO.lt _ hg).2⟩
theorem GR {w:World} {p b:Nat} (h:w.heap[p]? =some (.cells #[ptrV b] 238 (0,0))):aS pc 1 w (some ⟨p,0,none⟩) [b]:= .inr ⟨p,0,_,_,_,rfl,h,fun i x hx=>by
 cases i with
 |zero=>
  simp at hx;subst hx;exact⟨rfl,by simp⟩
 |succ i=>simp at hx⟩
theorem vK {w:World} {l:List Nat} {p b:Nat} {v:Value} {T:Nat→Prop} (hv:sN l v T w) (hs:w.heap[p]? =some (.cells #[ptrV b] 238 (0,0))) (hq:l.length+1≤1000000000000):∃v' w',(Builtin.append_ #[236,236] 236 #[v,.slice (some ⟨p,0,none⟩) 1 1]).run Tryz.prog w= .ok v' w'∧Mod T w w'∧sN (l++[b]) v' (Grow T w w') w':=by
 have h:=JV (c:=1) hv (GR hs) (by rw[aZx];exact hq);rw[aZx]at h;exact h
theorem XG (b:Nat):∀w,(Instr.buildSlice 236 1 #[(0,ptrV b)]).run Tryz.prog w= .ok (.slice (some ⟨w.heap.size,0,none⟩) 1 1) (w.alloc (.cells #[ptrV b] 238)):=fun w=>by
 go_simp
theorem XN {w:World} {p i:Nat} {cs:Array Value} {T:TypeId} (h:w.heap[p]? =some (.cells cs T (0,0))) (hi:i<cs.size) (z:Int):(Instr.storeAt 3 (.pointer (some ⟨p,i,none⟩)) (.int .i64 z)).run Tryz.prog w= .ok () (w.setCell ⟨p,i,none⟩ (.int .i64 z)):=by
 have hc:w.cell? ⟨p,i,none⟩=some cs[i]:=by rw[aH,h];simp[hi]
 have hf:w.frozen? ⟨p,i,none⟩=some false:=by
  rw[aC,h];rfl
 go_simp
theorem OI {g nb sb q:Nat} {L:List An} {a:Nat} {id:Int64} {kb:Nat} {ks:List (aQ×Bool)} {N:List (Int64×Nat)} {S:List (aQ×Nat)} {nd0:Nat→Nr} {sp:Nat→Sr} {b7 p10:Nat} {E:List An} {tag:u5} {nd:Nat→Nr} {W:World} (H:lG g nb sb q L a id kb ks N S nd0 sp b7 p10 E tag nd W)
  {b:An} (hb:b∈L) (ha:∀c∈L,c.a≠a) (hi:∀c∈L,c.a=b.a→c=b) (hnd:JO (nd0 b.a) b) (hpt:b.pt≤1000000) (hnx:(nd0 b.a).nx.length≤900000000) (hE:E.length≤1000000) (hq:q≤1000000) (u:Nat→Value) {l m:Nat} {Q:Exit→Act→World→Prop} (hL:¬LetsOut Q)
  (hQ:∀a' W',(∃tag' nd',lG g nb sb q L a id kb ks N S nd0 sp b7 p10 (E++[b]) tag' nd' W'∧∀i,i<W.heap.size→tag' i=tag i)→Mod (rS tag p10) W W'→KeepsOthers W W'→Q .normal a' W'):
  edgeBody.wpIn (Fence.wide.inRound l) m Tryz.prog Q ⟨(List.toArray (u 0::u 1::u 2::u 3::u 4::u 5::u 6::ptrV b7::u 8::u 9::ptrV p10::u 11::u 12::u 13::u 14::ptrV b.a::u 16::u 17::u 18::u 19::u 20::u 21::u 22::u 23::u 24::u 25::u 26::u 27::u 28::u 29::u 30::u 31::u 32::u 33::u 34::u 35::u 36::u 37::u 38::u 39::u 40::u 41::u 42::u 43::u 44::u 45::u 46::u 47::u 48::u 49::u 50::u 51::u 52::u 53::u 54::u 55::u 56::u 57::u 58::u 59::u 60::u 61::u 62::u 63::u 64::u 65::u 66::u 67::u 68::u 69::u 70::u 71::u 72::u 73::u 74::u 75::u 76::u 77::u 78::u 79::u 80::u 81::u 82::u 83::u 84::u 85::u 86::u 87::u 88::u 89::u 90::u 91::u 92::u 93::u 94::u 95::u 96::u 97::u 98::u 99::u 100::u 101::u 102::u 103::u 104::u 105::u 106::u 107::u 108::u 109::u 110::u 111::u 112::u 113::u 114::u 115::u 116::u 117::u 118::u 119::u 120::u 121::u 122::u 123::u 124::u 125::u 126::u 127::u 128::u 129::u 130::u 131::u 132::u 133::u 134::u 135::u 136::u 137::u 138::u 139::u 140::u 141::u 142::u 143::u 144::u 145::u 146::u 147::u 148::u 149::u 150::u 151::u 152::u 153::u 154::u 155::u 156::[])),[]⟩ W:=by
 obtain⟨v0,hv0⟩:=H.ndp.old b hb;have hba:=ha b hb;have hX:=H.mem.nodes b.a (by simp;exact .inl ⟨b,hb,rfl⟩);have hY:=H.mem.nodes a (by simp);rw[hv0]at hX;rw[H.ndp.new]at hY;obtain⟨i1,i2,i3,i4⟩:=hnd;have kb1:=hX.c;have ka1:=hY.c;have ho:=hX.o;dsimp only at ho;obtain⟨ad,c0,e0,-,-,-⟩:=ho.at fF;subst e0;generalize hln:((nd0 b.a).nx++List.replicate (E.count b) a).length=ln at *;have hlnb:ln≤901000000:=by
  rw[←hln,aZg,aZ9];have:=aWg (a:=b) (l:=E);omega
 have HC:=Hi H;have HX:=Hi hX;have HY:=Hi hY;have k7:=H.k7;have kl:=H.kl;replace kb1:W.heap[b.a]? =some (.cells #[.int .i64 (nd0 b.a).id.toInt,.int .i64 (nd0 b.a).ch.toInt,.int .i64 ((nd0 b.a).pt:Int),.int .i64 ((nd0 b.a).wt:Int),.slice ad ln c0,.map (some (nd0 b.a).kb)] 244 (0,0)):=kb1;replace ka1:W.heap[a]? =some (.cells #[.int .i64 id.toInt,.int .i64 (lc id E).2.toInt,.int .i64 (q:Int),.int .i64 (E.length:Int),.slice none 0 0,.map (some kb)] 244 (0,0)):=ka1;rw[i2,i3]at kb1;clear H hX hY
 conv=>arg 4;whnf
 have nTb:¬(Value.slice ad ln c0).ownBlock=some b.a:=fun e=>by
  have h1:=HX.out.tn _ e;rw[HX.out.ta]at h1;cases h1
 have nT7:¬(Value.slice ad ln c0).ownBlock=some b7:=fun e=>by
  have h1:=HX.out.tn _ e;rw[HC.out.n7]at h1;cases h1
 have nTl:¬(Value.slice ad ln c0).ownBlock=some p10:=fun e=>by
  have h1:=HX.out.tn _ e;rw[HC.out.nl]at h1;cases h1
 have nTa:¬(Value.slice ad ln c0).ownBlock=some a:=fun e=>by
  have h1:=HX.out.tn _ e;rw[HY.out.ta]at h1;cases h1
 have n7b:b7≠b.a:=fun e=>by
  have h1:=HX.out.ta;rw[←e,HC.out.n7]at h1;cases h1
 have nlb:p10≠b.a:=fun e=>by
  have h1:=HX.out.ta;rw[←e,HC.out.nl]at h1;cases h1
 have n7a:b7≠a:=fun e=>by
  have h1:=HY.out.ta;rw[←e,HC.out.n7]at h1;cases h1
 have nla:p10≠a:=fun e=>by
  have h1:=HY.out.ta;rw[←e,HC.out.nl]at h1;cases h1
 have n7l:b7≠p10:=aB k7 kl (aM (by decide));have HP:=Hi (Ai hb (Ai ha (Ai hi (Ai hv0 (Ai i2 (Ai i3 (Ai i4 i1)))))));have HQ:=Hi hQ;have HO:=Hi ho;have HL:=Hi hln;clear hb ha hi hv0 i2 i3 i4 i1 hQ hln;generalize hlx:(nd0 b.a).nx++List.replicate (E.count b) a=LX at *;have HLX:=Hi hlx;clear hlx
 gi_wp2
 have Lkb1:=aA kb1;have Lka1:=aA ka1;have Lk7:=aA k7;have Lkl:=aA kl;refine F5 (T0:=fun i=>(Value.slice ad ln c0).ownBlock=some i) (K:=sN LX (.slice ad ln c0)) (κ:=fun i=>[0,0,0,0,0,0,3,6,0,0,6].getD i 0) (υ:=fun i=>[[],[],[],[],[],[],[],[105],[],[],[]].getD i []) [0,1,2,3,4,5,6,7] [8,9,10] (by kernel_rfl) (by kernel_rfl) (by rintro⟨_,_,h⟩;exact hL ⟨_,_,h⟩) (by kernel_rfl) (fB LX (.slice ad ln c0)).cl (⟨ho,fun g hg=>hg⟩) (fun i hi=>(ho.lt i hi).2) ?_;have gK:=fB LX (.slice ad ln c0)
 iterate 4 refine Zg ?_
 (refine Zk ?_ (hy:=by intro wq hSq;have kb1q:=hSq.atn kb1;have ka1q:=hSq.atn ka1;have k7q:=hSq.atn k7;have klq:=hSq.atn kl;go_simp;try with_reducible rfl));(refine Zk ?_ (hy:=by intro wq hSq;have kb1q:=hSq.atn kb1;have ka1q:=hSq.atn ka1;have k7q:=hSq.atn k7;have klq:=hSq.atn kl;go_simp;try with_reducible rfl));(refine TG.bslice (by simp only[zK];rfl) rfl (by rfl) rfl rfl ?hx7 (XG a) (fun p105 hp105 _=> ?n7);(case hx7=>(simp only[aYr,aZo,aYo,zM];(try rfl)));try simp only[zL]);(refine TG.appK (X:= ?X8) (Y:= ?Y8) (sN (LX++[a])) (fB (LX++[a])) (by simp only[zK];rfl) rfl (by rfl) rfl ?hx8 ?hz8 (fun T wq kq ltq hSq ub=> ?y8) ?n8;(case hx8=>simp only[zM];try rfl);(case hz8=>simp only[zM];try rfl);(case y8=>(have kb1q:=hSq.atn kb1;have ka1q:=hSq.atn ka1;have k7q:=hSq.atn k7;have klq:=hSq.atn kl;have kp105:=ub.box (p:=p105) (by first|exact Bx.set_same _ _ _|(simp only[Bx.set_same];rfl)) (by first|decide|exact aZm.2 rfl|simp);dsimp only[Value.cells]at kp105;have nUp105:=(ub p105 _ (by first|exact Bx.set_same _ _ _|(simp only[Bx.set_same];rfl)) (by first|decide|exact aZm.2 rfl|simp)).1;exact vK kq kp105 (by rw[HL.out];omega)));rintro v8 ⟨wI,TI,hI⟩;replace gK:=(fB (LX++[a])) v8;skip;(try clear hI TI wI);try simp only[zL]);refine TG.nil (fun w1 ⟨TR,hr⟩=> ?_);replace kb1:=hr.mod.atn kb1;replace ka1:=hr.mod.atn ka1;replace k7:=hr.mod.atn k7;replace kl:=hr.mod.atn kl;obtain⟨gp105,nTp105,kp105⟩:=hr.b p105;clear gK;have hO1:=hr.k.1;obtain⟨a6,c6,hv6,_⟩:=hO1.at fF;generalize hn6:(LX++[a]).length=n6 at hv6;subst hv6;have nT1:∀i,(Value.slice a6 n6 c6).ownBlock=some i→(Value.slice ad ln c0).ownBlock=some i∨W.heap.size≤i:=fun i hi=>by
  rcases aYt i W.heap.size with h|h
  ·exact .inl (hr.old i h (hr.k.2 i hi))
  ·exact .inr h
 have m1:=hr.mod;have HO1:=Hi (Ai hO1 (Ai nT1 hn6));have HM1:=Hi m1;clear hO1 nT1 hr m1 hn6;refine Ze ?_;refine Ze ?_;refine Zz ?_;refine ZS ?_;refine ZN kb1 fun wn kb1 mS=> ?_;(try simp only[Array.setIfInBounds,zL]at kb1);(try simp only[zL]);replace kb1:wn.heap[b.a]? =some (.cells #[.int .i64 (nd0 b.a).id.toInt,.int .i64 b.ch.toInt,.int .i64 (b.pt:Int),.int .i64 ((nd0 b.a).wt:Int),.slice a6 n6 c6,.map (some (nd0 b.a).kb)] 244 (0,0)):=kb1;replace ka1:=mS.at_ne ka1 (Ne.symm hba);replace k7:=mS.at_ne k7 n7b;replace kl:=mS.at_ne kl nlb;have m2:Mod (fun i=>i=b.a∨(Value.slice ad ln c0).ownBlock=some i) W wn:=(HM1.out.mono (fun _ _ e=> .inr e)).then mS (fun _ _ e=> .inl e);have HO2:=Hi (HO1.out.1.mod mS (fun g hg e=>by
  rw[e]at hg;rcases HO1.out.2.1 _ hg with h|h
  ·exact nTb h
  ·omega))
 have HM2:=Hi m2;clear mS m2
 gi_wp2
 have mS3:Mod (fun i=>i=a) wn (wn.setCell ⟨a,3,none⟩ (.int .i64 ((E.length:Int)+1))):=(Mod.refl _ _).setCell _ (fun _=>rfl);have ka3:(wn.setCell ⟨a,3,none⟩ (.int .i64 ((E.length:Int)+1))).heap[a]? =some (.cells #[.int .i64 id.toInt,.int .i64 (lc id E).2.toInt,.int .i64 (q:Int),.int .i64 ((E.length:Int)+1),.slice none 0 0,.map (some kb)] 244 (0,0)):=by
  rw[setCell_blk ka1,aD _ _ (aA ka1)];rfl
 generalize wn.setCell ⟨a,3,none⟩ (.int .i64 ((E.length:Int)+1))=w3 at *;replace kb1:=mS3.at_ne kb1 hba;replace k7:=mS3.at_ne k7 n7a;replace kl:=mS3.at_ne kl nla;have HM3:Hid (Mod (fun i=>i=a∨i=b.a∨(Value.slice ad ln c0).ownBlock=some i) W w3):=Hi ((HM2.out.mono (fun _ _ e=> .inr e)).then mS3 (fun _ _ e=> .inl e));have HO3:=Hi (HO2.out.mod mS3 (fun g hg e=>by
  rw[e]at hg;rcases HO1.out.2.1 _ hg with h|h
  ·exact nTa h
  ·omega))
 clear mS3;have fin:∀(a':Act) (w':World),w'.heap[b.a]? =some (.cells #[.int .i64 (nd0 b.a).id.toInt,.int .i64 b.ch.toInt,.int .i64 (b.pt:Int),.int .i64 ((nd0 b.a).wt:Int),.slice a6 n6 c6,.map (some (nd0 b.a).kb)] 244 (0,0))→
   w'.heap[a]? =some (.cells #[.int .i64 id.toInt,.int .i64 (lc id (E++[b])).2.toInt,.int .i64 (q:Int),.int .i64 ((E.length:Int)+1),.slice none 0 0,.map (some kb)] 244 (0,0))→w'.heap[b7]? =some (.cells #[ptrV a] 238 (0,0))→
   w'.heap[p10]? =some (.cells #[.int .i64 (lc id (E++[b])).1] 3 (0,0))→aE pc 1 238 w' 0 (.slice a6 n6 c6) (LX++[a])→Mod (fun i=>i=p10∨i=a∨i=b.a∨(Value.slice ad ln c0).ownBlock=some i) W w'→Q .normal a' w':=by
  intro a' w' fb fa f7 fl fo fm;obtain⟨hb,ha,hi,hv0,i2,i3,i4,i1⟩:=HP.out;have hMt:∀i c r,tag i=some (c,r)→(i=p10∨i=a∨i=b.a∨(Value.slice ad ln c0).ownBlock=some i)→(c=a∧r=0)∨(c=b.a∧(r=0∨r=2)):=by
   rintro i c r e (rfl|rfl|rfl|h)
   ·rw[HC.out.nl]at e;cases e
   ·rw[HY.out.ta]at e;cases e;exact .inl ⟨rfl,rfl⟩
   ·rw[HX.out.ta]at e;cases e;exact .inr ⟨rfl,.inl rfl⟩
   ·rw[HX.out.tn i h]at e;cases e;exact .inr ⟨rfl,.inr rfl⟩
  have hT:∀i,i<W.heap.size→(if W.heap.size≤i∧(Value.slice a6 n6 c6).ownBlock=some i then some (b.a,2)else tag i)=tag i:=fun i hi=>by rw[if_neg (by omega)]
  have hkb:∀ {c x es cl},tag c=some (x,1)→W.heap[c]? =some (.map es cl)→w'.heap[c]? =some (.map es cl):=fun e hk=>fm.at hk (fun h=>by
   rcases hMt _ _ _ e h with⟨_,h⟩|⟨_,h|h⟩<;>cases h)
  refine HQ.out a' w' ⟨fun i=>if W.heap.size≤i∧(Value.slice a6 n6 c6).ownBlock=some i then some (b.a,2)else tag i,_,⟨HC.out.mem.nds fm (fun i c r e h=> ?_) hT (fun c hc=> ?_),HC.out.ndp.edge hb ha hi (.slice a6 n6 c6),f7,fl,fun i hi=> ?_,?_,?_⟩,hT⟩ (fm.mono fun i _ h=> ?_) (pU fm fun i h=> ?_)
  ·rcases hMt i c r e h with⟨_,h⟩|⟨_,h|h⟩<;>omega
  ·by_cases e1:c=a
   ·rw[e1,upd_same,HC.out.ndp.new];obtain⟨es,cl,hk,M'⟩:=HY.out.k;exact⟨fa,aE.nil _ _,⟨es,cl,hkb HY.out.tk hk,M'⟩,(hT _ Lka1).trans HY.out.ta,(hT _ (aA hk)).trans HY.out.tk,fun g hg=>(by cases hg)⟩
   ·rw[dG _ _ e1];by_cases e2:c=b.a
    ·rw[e2,upd_same,hv0];dsimp only;obtain⟨es,cl,hk,M'⟩:=HX.out.k;refine⟨?_,fo,⟨es,cl,hkb HX.out.tk hk,M'⟩,(hT _ Lkb1).trans HX.out.ta,(hT _ (aA hk)).trans HX.out.tk,fun g hg=> ?_⟩
     ·rw[fb,←i2,←i3]
     ·by_cases h:W.heap.size≤g
      ·simp only[if_pos (Ai h hg)]
      ·rcases HO1.out.2.1 g hg with h1|h1
       ·rw[hT g (by omega)];exact HX.out.tn g h1
       ·exact absurd h1 h
    ·rw[dG _ _ e2];refine(HC.out.mem.nodes c hc).mod fm (fun i r e h3 h=> ?_) hT;rcases hMt i c r e h with⟨h,_⟩|⟨h,_⟩
     ·exact e1 h
     ·exact e2 h
  ·by_cases h:W.heap.size≤i∧(Value.slice a6 n6 c6).ownBlock=some i
   ·exact(fo.lt _ h.2).2
   ·simp only[if_neg h]at hi;exact aZd (HC.out.hlt i hi) fm.size
  ·rw[hT _ Lk7];exact HC.out.n7
  ·rw[hT _ Lkl];exact HC.out.nl
  ·rcases h with h|h|h|h
   ·exact .inl h
   ·exact .inr ⟨a,0,by rw[h];exact HY.out.ta,.inl rfl⟩
   ·exact .inr ⟨b.a,0,by rw[h];exact HX.out.ta,.inl rfl⟩
   ·exact .inr ⟨b.a,2,HX.out.tn i h,.inr rfl⟩
  ·rcases h with h|h|h|h
   ·rw[h];exact⟨_,_,HC.out.kl⟩
   ·rw[h];exact⟨_,_,HY.out.c⟩
   ·rw[h];exact⟨_,_,HX.out.c⟩
   ·obtain⟨cur,hk⟩:=k9 ho h;exact⟨_,_,hk⟩
 have HF:=Hi fin;clear fin;by_cases hgt:(lc id E).1<(b.pt:Int)
 ·have hdt:=Dt hgt;have Lkb1:=aA kb1;have Lka3:=aA ka3;have Lk7:=aA k7;have Lkl:=aA kl;refine fR (T0:=fun _=>False) (K:=fun _ _=>True) (κ:=fun i=>[0,0,0,0,0,0].getD i 0) (υ:=fun _=>[]) [0,1,2,3,4,5] (by kernel_rfl) (by kernel_rfl) (by rintro⟨_,_,h⟩;exact hL ⟨_,_,h⟩) (by kernel_rfl) (aI.true).cl (trivial) (fun _ h=>h.elim) ?_;have gK:=aI.true
  iterate 6 first|refine Zg ?_|refine Zh ?_
  refine TG.nil (fun w4 ⟨TR,hr⟩=> ?_);replace kb1:=hr.q kb1;replace ka3:=hr.q ka3;replace k7:=hr.q k7;replace kl:=hr.q kl;clear gK;have hle:lc id (E++[b])=((b.pt:Int),b.ch):=by rw[tR];unfold SP;rw[if_pos hgt]
  have HM4:=Hi (HM3.out.then0 hr.mod);have HO4:=Hi (HO3.out.mod0 hr.mod);have HLE:=Hi hle;clear hle hr hgt hdt
  gi_wp2
  have Lkb1:=aA kb1;have Lk7:=aA k7;refine fR (T0:=fun i=>i=p10∨i=a) (K:=fun T w=>(T p10∧w.heap[p10]? =some (.cells #[.int .i64 (lc id E).1] 3 (0,0)))∧(T a∧w.heap[a]? =some (.cells #[.int .i64 id.toInt,.int .i64 (lc id E).2.toInt,.int .i64 (q:Int),.int .i64 ((E.length:Int)+1),.slice none 0 0,.map (some kb)] 244 (0,0)))) (κ:=fun i=>[0,0,0,0,0,0,0,0,0,6,0,0,6].getD i 0) (υ:=fun _=>[]) [0,1,2,3,4,5,6,7,8,9,10,11,12] (by kernel_rfl) (by kernel_rfl) (by rintro⟨_,_,h⟩;exact hL ⟨_,_,h⟩) (by kernel_rfl) ((aI.at p10 (.cells #[.int .i64 (lc id E).1] 3 (0,0))).and (aI.at a (.cells #[.int .i64 id.toInt,.int .i64 (lc id E).2.toInt,.int .i64 (q:Int),.int .i64 ((E.length:Int)+1),.slice none 0 0,.map (some kb)] 244 (0,0)))).cl (⟨⟨.inl rfl,kl⟩,.inr rfl,ka3⟩) (fun i hi=>hi.elim (fun e=>e▸aA kl) (fun e=>e▸aA ka3)) ?_;have gK:=(aI.at p10 (.cells #[.int .i64 (lc id E).1] 3 (0,0))).and (aI.at a (.cells #[.int .i64 id.toInt,.int .i64 (lc id E).2.toInt,.int .i64 (q:Int),.int .i64 ((E.length:Int)+1),.slice none 0 0,.map (some kb)] 244 (0,0)));(refine Zk ?_ (hy:=by intro wq hSq;have kb1q:=hSq.atn kb1;have k7q:=hSq.atn k7;go_simp;try with_reducible rfl))
  iterate 3 refine Zg ?_
  (refine Zk ?_ (hy:=by intro wq hSq;have kb1q:=hSq.atn kb1;have k7q:=hSq.atn k7;go_simp;try with_reducible rfl))
  iterate 3 refine Zg ?_
  (refine Zk ?_ (hy:=by intro wq hSq;have kb1q:=hSq.atn kb1;have k7q:=hSq.atn k7;go_simp;try with_reducible rfl));(refine TG.storeO (X:= ?X27) (Y:= ?Y27) (fun T w=>(T p10∧w.heap[p10]? =some (.cells #[.int .i64 (b.pt:Int)] 3 (0,0)))∧(T a∧w.heap[a]? =some (.cells #[.int .i64 id.toInt,.int .i64 (lc id E).2.toInt,.int .i64 (q:Int),.int .i64 ((E.length:Int)+1),.slice none 0 0,.map (some kb)] 244 (0,0)))) ((aI.at p10 (.cells #[.int .i64 (b.pt:Int)] 3 (0,0))).and (aI.at a (.cells #[.int .i64 id.toInt,.int .i64 (lc id E).2.toInt,.int .i64 (q:Int),.int .i64 ((E.length:Int)+1),.slice none 0 0,.map (some kb)] 244 (0,0)))) (by simp only[zK];rfl) rfl (by rfl) rfl rfl ?hx27 ?hz27 (fun T wq kq=> ?y27) (fun _=> ?n27);(case hx27=>simp only[zM];try rfl);(case hz27=>simp only[zM];try rfl);(case y27=>(obtain⟨⟨k1,k2⟩,k3,k4⟩:=kq;exact⟨_,XN k2 (by simp) _,(Mod.refl _ _).setCell _ (fun _=>k1),⟨k1,by rw[setCell_blk k2,aD _ _ (aA k2)];rfl⟩,k3,by rw[setCell_blk k2,cV _ _ (Ne.symm nla)];exact k4⟩));replace gK:=((aI.at p10 (.cells #[.int .i64 (b.pt:Int)] 3 (0,0))).and (aI.at a (.cells #[.int .i64 id.toInt,.int .i64 (lc id E).2.toInt,.int .i64 (q:Int),.int .i64 ((E.length:Int)+1),.slice none 0 0,.map (some kb)] 244 (0,0))));try simp only[zL])
  iterate 2 refine Zg ?_
  (refine TG.storeO (X:= ?X30) (Y:= ?Y30) (fun T w=>(T p10∧w.heap[p10]? =some (.cells #[.int .i64 (b.pt:Int)] 3 (0,0)))∧(T a∧w.heap[a]? =some (.cells #[.int .i64 id.toInt,.int .i64 b.ch.toInt,.int .i64 (q:Int),.int .i64 ((E.length:Int)+1),.slice none 0 0,.map (some kb)] 244 (0,0)))) ((aI.at p10 (.cells #[.int .i64 (b.pt:Int)] 3 (0,0))).and (aI.at a (.cells #[.int .i64 id.toInt,.int .i64 b.ch.toInt,.int .i64 (q:Int),.int .i64 ((E.length:Int)+1),.slice none 0 0,.map (some kb)] 244 (0,0)))) (by simp only[zK];rfl) rfl (by rfl) rfl rfl ?hx30 ?hz30 (fun T wq kq=> ?y30) (fun _=> ?n30);(case hx30=>simp only[zM];try rfl);(case hz30=>simp only[zM];try rfl);(case y30=>(obtain⟨⟨k1,k2⟩,k3,k4⟩:=kq;exact⟨_,XN k4 (by simp) _,(Mod.refl _ _).setCell _ (fun _=>k3),⟨k1,by rw[setCell_blk k4,cV _ _ nla];exact k2⟩,k3,by rw[setCell_blk k4,aD _ _ (aA k4)];rfl⟩));replace gK:=((aI.at p10 (.cells #[.int .i64 (b.pt:Int)] 3 (0,0))).and (aI.at a (.cells #[.int .i64 id.toInt,.int .i64 b.ch.toInt,.int .i64 (q:Int),.int .i64 ((E.length:Int)+1),.slice none 0 0,.map (some kb)] 244 (0,0))));try simp only[zL]);refine TG.nil (fun w5 ⟨TR,hr⟩=> ?_);replace kb1:=hr.mod.atn kb1;replace k7:=hr.mod.atn k7;clear gK;obtain⟨⟨_,f1⟩,_,f2⟩:=hr.k;have hm5:Mod (fun i=>i=p10∨i=a) w4 w5:=hr.mod;have HF5:Hid (aE pc 1 238 w5 0 (.slice a6 n6 c6) (LX++[a])∧Mod (fun i=>i=p10∨i=a∨i=b.a∨(Value.slice ad ln c0).ownBlock=some i) W w5):=Hi ⟨HO4.out.mod hm5 (fun g hg e=>by
   rcases HO1.out.2.1 g hg with h|h
   ·rcases e with e|e
    ·rw[e]at h;exact nTl h
    ·rw[e]at h;exact nTa h
   ·omega),(HM4.out.mono (fun _ _ e=> .inr e)).then hm5 (fun _ _ e=>e.elim .inl (fun e=> .inr (.inl e)))⟩
  clear hr hm5
  gi_wp2
  exact HF.out _ _ kb1 (by rw[HLE.out];exact f2) k7 (by rw[HLE.out];exact f1) HF5.out.1 HF5.out.2
 ·have hdt:=Df hgt;have Lkb1:=aA kb1;have Lka3:=aA ka3;have Lk7:=aA k7;have Lkl:=aA kl;refine fR (T0:=fun _=>False) (K:=fun _ _=>True) (κ:=fun i=>[0,0,0,0,0,0].getD i 0) (υ:=fun _=>[]) [0,1,2,3,4,5] (by kernel_rfl) (by kernel_rfl) (by rintro⟨_,_,h⟩;exact hL ⟨_,_,h⟩) (by kernel_rfl) (aI.true).cl (trivial) (fun _ h=>h.elim) ?_;have gK:=aI.true
  iterate 6 first|refine Zg ?_|refine Zh ?_
  refine TG.nil (fun w4 ⟨TR,hr⟩=> ?_);replace kb1:=hr.q kb1;replace ka3:=hr.q ka3;replace k7:=hr.q k7;replace kl:=hr.q kl;clear gK;have hle:lc id (E++[b])=lc id E:=by rw[tR];unfold SP;rw[if_neg hgt]
  have HM4:=Hi (HM3.out.then0 hr.mod);have HO4:=Hi (HO3.out.mod0 hr.mod);have HLE:=Hi hle;clear hle hr hgt hdt
  gi_wp2
  exact HF.out _ _ kb1 (by rw[HLE.out];exact ka3) k7 (by rw[HLE.out];exact kl) HO4.out (HM4.out.mono (fun _ _ e=> .inr e))
end
section
open Go.RowKit Go.Shelf
attribute [local go_sem] Oper.semAt_some aN aK aP aF aO aH aC Value.cells
theorem C7 {W W':World} {row:Option Nat} (hg:W.grownBy W' row):Mod (fun i=>row=some i) W W':=⟨hg.os,hg.tape,hg.output,hg.size,fun i hi hs=>hg.block i hi (fun e=>hs e.symm)⟩
structure NW (L:List An) (a:Nat) (nd0:Nat→Nr):Prop where
 ha:∀c∈L,c.a≠a
 hi:∀b∈L,∀c∈L,c.a=b.a→c=b
 nds:∀b∈L,JO (nd0 b.a) b
 pts:∀b∈L,b.pt≤1000000
 nxl:∀b∈L,(nd0 b.a).nx.length≤900000000
 len:L.length≤1000
section
variable {g nb sb q:Nat} {L:List An} {a:Nat} {id:Int64} {kb:Nat} {ks:List (aQ×Bool)} {N:List (Int64×Nat)} {S:List (aQ×Nat)} {nd0:Nat→Nr} {sp:Nat→Sr} {b7 p10:Nat} {E:List An} {tag:u5} {nd:Nat→Nr} {w:World}
theorem lG.kbs (H:lG g nb sb q L a id kb ks N S nd0 sp b7 p10 E tag nd w) (c:Nat) (hc:c∈L.map An.a++[a]):(nd c).kb=if c=a then kb else(nd0 c).kb:=by
 by_cases e:c=a
 ·rw[if_pos e,e,H.ndp.new]
 ·rw[if_neg e];rcases aZh.1 hc with h|h
  ·obtain⟨b,hb,rfl⟩:=aZj.1 h;obtain⟨v,hv⟩:=H.ndp.old b hb;rw[hv]
  ·exact absurd (aZm.1 h) e
theorem lG.kbl (H:lG g nb sb q L a id kb ks N S nd0 sp b7 p10 E tag nd w) (c:Nat) (hc:c∈L.map An.a++[a]):(if c=a then kb else(nd0 c).kb)<w.heap.size:=by
 rw[←H.kbs c hc];obtain⟨es,cl,hk,_⟩:=(H.mem.nodes c hc).k;exact aA hk
theorem lG.turn {M:Nat→Prop} {w':World} {B:Nat} (H:lG g nb sb q L a id kb ks N S nd0 sp b7 p10 E tag nd w) (hm:Mod M w w') (hM:∀i,M i→B≤i∧∀cs T,w.heap[i]? ≠some (.cells cs T (0,0))) (h1:nb<B) (h2:sb<B) (h3:∀c∈L.map An.a++[a],(if c=a then kb else(nd0 c).kb)<B):lG g nb sb q L a id kb ks N S nd0 sp b7 p10 E tag nd w':=
 ⟨H.mem.turn hm hM h1 h2 (fun c hc=>by rw[H.kbs c hc];exact h3 c hc),H.ndp,hm.at H.k7 (fun h=>(hM _ h).2 _ _ H.k7),hm.at H.kl (fun h=>(hM _ h).2 _ _ H.kl),fun i hi=>aZd (H.hlt i hi) hm.size,H.n7,H.nl⟩
def y9 (x: {b:An//b∈L}):Nat:=x.1.a
theorem WX (H:lG g nb sb q L a id kb ks N S nd0 sp b7 p10 E tag nd w) (hf:NW L a nd0) (hE:E.length≤900000) (hq:q≤1000000) {zw:Option {b:An//b∈L}} {zr:List {b:An//b∈L}} {wr:Bool} {Bs Bw s:Nat} {rv:Value}
  (kB:w.heap[Bs]? =some (.cells #[ptrV s] 246 (0,0))) (kw:w.heap[Bw]? =some (.cells #[.bool wr] 4 (0,0))) (ksp:w.heap[s]? =some (.cells #[yW (zw.map y9),rv] 248 (0,0))) (ho:aE pc 1 238 w 0 rv (zr.map y9)) (hlen:zr.length≤1000)
  (hBs:tag Bs=none) (hBw:tag Bw=none) (nBs:Bs≠p10) (nBw:Bw≠p10) (hs3:tag s=some (s,3)) (hr4:∀g,rv.ownBlock=some g→tag g=some (s,4)) (u:Nat→Value) (ds:List Deferred) {Q:Exit→Act→World→Prop}
  (hdone:∀D W tag' nd',w.heap.size≤D→W.heap[D]? =some (.deferred (some []))→lG g nb sb q L a id kb ks N S nd0 sp b7 p10 (E++(c9 zw zr wr).map (·.1)) tag' nd' W→(∀i,i<w.heap.size→tag' i=tag i)→Mod (rS tag p10) w W→KeepsOthers w W→Q .normal ⟨(List.toArray (u 0::u 1::u 2::u 3::u 4::u 5::u 6::ptrV b7::u 8::u 9::ptrV p10::u 11::u 12::u 13::u 14::u 15::u 16::u 17::u 18::u 19::u 20::u 21::u 22::u 23::u 24::u 25::u 26::u 27::u 28::u 29::u 30::u 31::u 32::u 33::u 34::u 35::u 36::u 37::u 38::u 39::u 40::u 41::u 42::u 43::u 44::u 45::u 46::u 47::u 48::u 49::u 50::u 51::u 52::u 53::u 54::u 55::u 56::u 57::u 58::u 59::u 60::u 61::u 62::u 63::u 64::u 65::u 66::u 67::u 68::u 69::u 70::u 71::u 72::u 73::u 74::u 75::u 76::u 77::u 78::u 79::u 80::u 81::u 82::u 83::u 84::u 85::u 86::u 87::u 88::u 89::u 90::u 91::u 92::u 93::u 94::u 95::u 96:: .func (.func 158) #[] #[.pointer (some ⟨Bs,0,none⟩),.pointer (some ⟨Bw,0,none⟩)]::u 98::u 99::u 100::u 101::u 102::u 103::u 104::u 105::u 106::u 107::u 108::u 109::u 110::u 111::u 112::u 113::u 114::u 115::u 116::u 117::u 118::u 119::u 120::u 121::u 122::u 123::u 124::u 125::u 126::u 127::u 128::u 129::u 130::u 131::u 132::u 133::u 134::u 135::u 136::u 137::u 138::u 139::u 140::u 141::u 142::u 143::u 144::u 145::u 146::u 147::u 148::u 149::u 150::u 151::u 152::u 153::u 154::u 155::u 156::[])),{target:= .collected D,args:= #[]}::ds⟩ W):
  edgeCode.wp Tryz.prog Q ⟨(List.toArray (u 0::u 1::u 2::u 3::u 4::u 5::u 6::ptrV b7::u 8::u 9::ptrV p10::u 11::u 12::u 13::u 14::u 15::u 16::u 17::u 18::u 19::u 20::u 21::u 22::u 23::u 24::u 25::u 26::u 27::u 28::u 29::u 30::u 31::u 32::u 33::u 34::u 35::u 36::u 37::u 38::u 39::u 40::u 41::u 42::u 43::u 44::u 45::u 46::u 47::u 48::u 49::u 50::u 51::u 52::u 53::u 54::u 55::u 56::u 57::u 58::u 59::u 60::u 61::u 62::u 63::u 64::u 65::u 66::u 67::u 68::u 69::u 70::u 71::u 72::u 73::u 74::u 75::u 76::u 77::u 78::u 79::u 80::u 81::u 82::u 83::u 84::u 85::u 86::u 87::u 88::u 89::u 90::u 91::u 92::u 93::u 94::u 95::u 96:: .func (.func 158) #[] #[.pointer (some ⟨Bs,0,none⟩),.pointer (some ⟨Bw,0,none⟩)]::u 98::u 99::u 100::u 101::u 102::u 103::u 104::u 105::u 106::u 107::u 108::u 109::u 110::u 111::u 112::u 113::u 114::u 115::u 116::u 117::u 118::u 119::u 120::u 121::u 122::u 123::u 124::u 125::u 126::u 127::u 128::u 129::u 130::u 131::u 132::u 133::u 134::u 135::u 136::u 137::u 138::u 139::u 140::u 141::u 142::u 143::u 144::u 145::u 146::u 147::u 148::u 149::u 150::u 151::u 152::u 153::u 154::u 155::u 156::[])),ds⟩ w:=by
 have hR:∀i,sP Bs Bw s rv i→i<w.heap.size∧¬rS tag p10 i:=by
  rintro i (rfl|rfl|rfl|h)
  ·exact⟨aA kB,fun h=>h.elim nBs (fun⟨c,r,e,_⟩=>by rw[hBs]at e;cases e)⟩
  ·exact⟨aA kw,fun h=>h.elim nBw (fun⟨c,r,e,_⟩=>by rw[hBw]at e;cases e)⟩
  ·refine⟨aA ksp,fun h=>h.elim (fun e=> ?_) (fun⟨c,r,e,h⟩=> ?_)⟩
   ·rw[e,H.nl]at hs3;cases hs3
   ·rw[hs3]at e;cases e;omega
  ·refine⟨(ho.lt i h).2,fun h1=>h1.elim (fun e=> ?_) (fun⟨c,r,e,h2⟩=> ?_)⟩
   ·have:=hr4 i h;rw[e,H.nl]at this;cases this
   ·rw[hr4 i h]at e;cases e;omega
 have hal:(c9 zw zr wr).length≤1001:=by
  unfold c9
  have:zw.toList.length≤1:=by cases zw<;>simp
  rw[aZg];split<;>simp<;>omega
 have hnb:nb<w.heap.size:=by obtain⟨es,c,hk,_⟩:=H.mem.kn;exact aA hk
 have hsb:sb<w.heap.size:=by obtain⟨es,c,hk,_⟩:=H.mem.ks;exact aA hk
 conv=>arg 2;whnf
 refine wpIn_wide.1 (wpIn_rangeFunc_ownG (n:=2) rfl (by omega) (gf:=158) (lb:= #[.pointer (some ⟨Bs,0,none⟩),.pointer (some ⟨Bw,0,none⟩)]) rfl trivial (enters_of Tryz.func158 (by kernel_rfl) rfl)
  (vG y9 0 Bs Bw s zw zr wr rv w kB kw ksp ho (by omega)) KW (fun W l o o' hl hk _ _ i hi=>World.putObj_heap_other (by have:=(hR i hi).1;omega)) (Below.refl _ _) (fun _=>rfl)
  (fun pre W=>∃tag' nd',lG g nb sb q L a id kb ks N S nd0 sp b7 p10 (E++pre.map (·.1)) tag' nd' W∧(∀i,i<w.heap.size→tag' i=tag i)∧Mod (rS tag p10) w W∧KeepsOthers w W)
  (fun _ _ _=>False) ?own (fun _ _ _ _ _ hs _ _=>hs) ⟨tag,nd,by rw[aYo,aYx];exact H,fun _ _=>rfl,Mod.refl _ _,KeepsOthers.refl _⟩
  (fun x=>⟨(List.toArray (u 0::u 1::u 2::u 3::u 4::u 5::u 6::ptrV b7::u 8::u 9::ptrV p10::u 11::u 12::u 13::u 14::ptrV x.1.a::u 16::u 17::u 18::u 19::u 20::u 21::u 22::u 23::u 24::u 25::u 26::u 27::u 28::u 29::u 30::u 31::u 32::u 33::u 34::u 35::u 36::u 37::u 38::u 39::u 40::u 41::u 42::u 43::u 44::u 45::u 46::u 47::u 48::u 49::u 50::u 51::u 52::u 53::u 54::u 55::u 56::u 57::u 58::u 59::u 60::u 61::u 62::u 63::u 64::u 65::u 66::u 67::u 68::u 69::u 70::u 71::u 72::u 73::u 74::u 75::u 76::u 77::u 78::u 79::u 80::u 81::u 82::u 83::u 84::u 85::u 86::u 87::u 88::u 89::u 90::u 91::u 92::u 93::u 94::u 95::u 96:: .func (.func 158) #[] #[.pointer (some ⟨Bs,0,none⟩),.pointer (some ⟨Bw,0,none⟩)]::ptrV x.1.a::u 99::u 100::u 101::u 102::u 103::u 104::u 105::u 106::u 107::u 108::u 109::u 110::u 111::u 112::u 113::u 114::u 115::u 116::u 117::u 118::u 119::u 120::u 121::u 122::u 123::u 124::u 125::u 126::u 127::u 128::u 129::u 130::u 131::u 132::u 133::u 134::u 135::u 136::u 137::u 138::u 139::u 140::u 141::u 142::u 143::u 144::u 145::u 146::u 147::u 148::u 149::u 150::u 151::u 152::u 153::u 154::u 155::u 156::[])),[]⟩) ?assign ?body ?done ?stop)
 case own=>
  rintro pre W W' row ⟨tag',nd',H1,h2,h3,h3k⟩ hg hr;have hm:=C7 hg;refine⟨tag',nd',H1.turn (B:=w.heap.size) hm (fun i e=> ?_) hnb hsb H.kbl,h2,h3.then hm (fun i hi e=> ?_),⟨aYb h3k.size hm.size,fun k o hk ho=>hm.at (h3k.same k o hk ho) (fun e=>by have:=(hr k e).1;have:=aA hk;omega)⟩⟩
  ·obtain⟨h4,o,ho,hc⟩:=hr i e;exact⟨h4,fun cs T h5=>by rw[ho]at h5;cases h5;cases hc⟩
  ·have:=(hr i e).1;omega
 case assign=>
  intro l x W K hK
  gi_wp2
  exact hK
 case body=>
  rintro l pre x W ⟨tag',nd',H1,h2,h3,h3k⟩ hlt;refine OI H1 x.2 hf.ha (hf.hi x.1 x.2) (hf.nds _ x.2) (hf.pts _ x.2) (hf.nxl _ x.2) (by rw[aZg,aZs];omega) hq (fun i=>if i=98 then ptrV x.1.a else if i=97 then .func (.func 158) #[] #[.pointer (some ⟨Bs,0,none⟩),.pointer (some ⟨Bw,0,none⟩)]else u i) (fun⟨_,_,h⟩=>h) ?_;rintro a' W' ⟨tag'',nd'',H2,h4⟩ h5 h6;have h7:Mod (rS tag p10) w W':=h3.then h5 (fun i hi h=>h.imp _root_.id (fun⟨c,r,e,h⟩=>⟨c,r,by rw[←h2 i hi];exact e,h⟩));refine⟨h6.from _,fun i hi=> ?_,tag'',nd'',by rw[List.map_append,←aZw];exact H2,fun i hi=>(h4 i (aZd hi h3.size)).trans (h2 i hi),h7,h3k.trans h6⟩;obtain⟨r1,r2⟩:=hR i hi;rw[h7.block i r1 r2,h3.block i r1 r2]
 case done=>
  rintro D xs W hD rfl ⟨tag',nd',H1,h2,h3,h3k⟩ hK;exact hdone D W tag' nd' hD hK H1 h2 h3 h3k
 case stop=>
  rintro D c pre W hD _ h _;exact h.elim
theorem WW (H:lG g nb sb q L a id kb ks N S nd0 sp b7 p10 E tag nd w) (hf:NW L a nd0) (hE:E.length≤900000) (hq:q≤1000000) {zw:Option {b:An//b∈L}} {zr:List {b:An//b∈L}} {wr:Bool} {Bs Bw s:Nat} {rv:Value}
  (kB:w.heap[Bs]? =some (.cells #[ptrV s] 246 (0,0))) (kw:w.heap[Bw]? =some (.cells #[.bool wr] 4 (0,0))) (ksp:w.heap[s]? =some (.cells #[yW (zw.map y9),rv] 248 (0,0))) (ho:aE pc 1 238 w 0 rv (zr.map y9)) (hlen:zr.length≤1000)
  (hBs:tag Bs=none) (hBw:tag Bw=none) (nBs:Bs≠p10) (nBw:Bw≠p10) (hs3:tag s=some (s,3)) (hr4:∀g,rv.ownBlock=some g→tag g=some (s,4)) {Q:Exit→Act→World→Prop} (act:Act) (hn:act.tmps.size=157) (h7:act.tmps.getD 7 undef=ptrV b7) (h10:act.tmps.getD 10 undef=ptrV p10)
  (h97:act.tmps.getD 97 undef= .func (.func 158) #[] #[.pointer (some ⟨Bs,0,none⟩),.pointer (some ⟨Bw,0,none⟩)])
  (hdone:∀D W tag' nd',w.heap.size≤D→W.heap[D]? =some (.deferred (some []))→lG g nb sb q L a id kb ks N S nd0 sp b7 p10 (E++(c9 zw zr wr).map (·.1)) tag' nd' W→(∀i,i<w.heap.size→tag' i=tag i)→Mod (rS tag p10) w W→KeepsOthers w W→Q .normal ⟨act.tmps,{target:= .collected D,args:= #[]}::act.defers⟩ W):
  edgeCode.wp Tryz.prog Q act w:=by
 obtain⟨t,ds⟩:=act;dsimp only at hn h7 h10 h97 hdone;obtain⟨u,hu,e⟩:=xX t hn;rw[hu]at h7 h10 h97;rw[h7,h10,h97]at e;subst e;exact WX H hf hE hq kB kw ksp ho hlen hBs hBw nBs nBw hs3 hr4 u ds hdone
end
end
section
open Go.RowKit Go.Shelf
theorem tU {κ ν:Type} [DecidableEq κ] {S:List (κ×ν)} (h:(S.map Prod.snd).Nodup) {j k:κ} {s:ν} (hj:lkp j S=some s) (hk:lkp k S=some s):j=k:=by
 replace hj:=dD hj;replace hk:=dD hk
 induction S with
 |nil=>cases hj
 |cons p r ih=>
  rw[aZo,aYc]at h;rcases aZc.1 hj with e1|hj<;>rcases aZc.1 hk with e2|hk
  ·rw[←e1]at e2;cases e2;rfl
  ·exact absurd (aZj.2 ⟨_,hk,by rw[←e1]⟩) h.1
  ·exact absurd (aZj.2 ⟨_,hj,by rw[←e2]⟩) h.1
  ·exact ih h.2 hj hk
section
variable {L:List An} {x:An} {D:List (aQ×Bool)} {S:List (aQ×Nat)} {sp:Nat→Sr}
theorem JR.fresh (h:JR L x D S sp) {k:aQ} {s:Nat} (hk:lkp k S=none) (hs:∀p∈S,p.2≠s):JR L x D (put k s S) (fJ sp s ⟨none,.slice none 0 0,[]⟩):=by
 have hD:∀h',(k,h')∉D:=fun h' hh=>by
  obtain⟨s',h1,_⟩:=h.done k ⟨h',hh⟩;rw[hk]at h1;cases h1
 have hne:∀ {j s'},lkp j S=some s'→s'≠s:=fun hj=>hs _ (dD hj);refine⟨?_,fun j hj=> ?_,fun j hj=> ?_⟩
 ·rw[jP hk,List.map_append];refine aZ7.2 ⟨h.sn,by simp,fun y hy z hz e=> ?_⟩;obtain⟨p,hp,rfl⟩:=aZj.1 hy;simp at hz;exact hs p hp (e.trans hz)
 ·obtain⟨s',h1,h2⟩:=h.done j hj;have hjk:j≠k:=fun e=>by rw[e,hk]at h1;cases h1
  exact⟨s',by rw[kY hjk,h1],by rw[dG _ _ (hne h1)];exact h2⟩
 ·obtain⟨h1,h2⟩:=h.left j hj;by_cases hjk:j=k
  ·subst hjk;rw[cP];refine⟨fun s' e=> ?_,fun e=>by cases e⟩;cases e;rw[upd_same,h2 hk];exact⟨rfl,rfl⟩
  ·rw[kY hjk];exact⟨fun s' e=>by rw[dG _ _ (hne e)];exact h1 s' e,h2⟩
theorem JR.step (h:JR L x D S sp) {k:aQ} {b:Bool} {s:Nat} {X:Sr} (hk:lkp k S=some s) (hX:vD X (spotOf k (L++[x]))):JR L x (D++[(k,b)]) S (fJ sp s X):=by
 refine⟨h.sn,fun j hj=> ?_,fun j hj=> ?_⟩
 ·by_cases hjk:j=k
  ·subst hjk;exact⟨s,hk,by rw[upd_same];exact hX⟩
  ·obtain⟨h',hj⟩:=hj
   have:(j,h')∈D:=by
    rcases aZh.1 hj with hj|hj
    ·exact hj
    ·simp at hj;exact absurd hj.1 hjk
   obtain⟨s',h1,h2⟩:=h.done j ⟨h',this⟩
   have:s'≠s:=fun e=>hjk (tU h.sn h1 (e▸hk));exact⟨s',h1,by rw[dG _ _ this];exact h2⟩
 ·have hjk:j≠k:=fun e=>hj b (by rw[e];simp);obtain⟨h1,h2⟩:=h.left j (fun h' hh=>hj h' (aZl _ hh));refine⟨fun s' e=> ?_,h2⟩
  have:s'≠s:=fun e2=>hjk (tU h.sn e (e2▸hk));rw[dG _ _ this];exact h1 s' e
end
theorem xD {α:Type} {p:α→Prop}:∀(l:List α),(∀x∈l,p x)→∃l':List {x//p x},l'.map (·.1)=l
 |[],_=>⟨[],rfl⟩
 |x::r,h=>by
  obtain⟨l',e⟩:=xD r (fun y hy=>h y (by simp[hy]));exact⟨⟨x,h x (by simp)⟩::l',by simp[e]⟩
theorem MB {α:Type} {p:α→Prop} (o:Option α) (h:∀x,o=some x→p x):∃o':Option {x//p x},o'.map (·.1)=o:=by
 cases o with
 |none=>exact⟨none,rfl⟩
 |some x=>exact⟨some ⟨x,h x rfl⟩,rfl⟩
theorem B4 (L:List An) (k:aQ):∃(zw:Option {b:An//b∈L}) (zr:List {b:An//b∈L}),zw.map y9=(spotOf k L).1.map An.a∧zr.map y9=(spotOf k L).2.map An.a∧zr.length≤L.length∧∀h,(c9 zw zr h).map (·.1)=l7 L k h:=by
 obtain⟨zw,e1⟩:=MB (p:=fun b=>b∈L) (spotOf k L).1 (fun x hx=>(spotOf_writer hx).1);obtain⟨zr,e2⟩:=xD (p:=fun b=>b∈L) (spotOf k L).2 (fun x hx=>(dI hx).1);refine⟨zw,zr,?_,?_,?_,fun h=> ?_⟩
 ·rw[←e1,Option.map_map];rfl
 ·rw[←e2,aX0];rfl
 ·have:=congrArg List.length e2;rw[aZs]at this;rw[this];exact l5 k L
 ·unfold c9 l7;rw[List.map_append,←e1,←e2];congr 1
  ·cases zw<;>rfl
  ·cases h<;>simp
section
variable {g nb sb q:Nat} {L:List An} {a:Nat} {id:Int64} {kb:Nat} {ks:List (aQ×Bool)} {N:List (Int64×Nat)} {S:List (aQ×Nat)} {nd0:Nat→Nr} {sp:Nat→Sr} {b7 p10:Nat} {E:List An} {tag tag':u5} {nd:Nat→Nr} {w w':World}
theorem lG.mod {M:Nat→Prop} (H:lG g nb sb q L a id kb ks N S nd0 sp b7 p10 E tag nd w) (hm:Mod M w w') (hM:∀i,tag i≠none→¬M i) (h7:¬M b7) (hl:¬M p10):lG g nb sb q L a id kb ks N S nd0 sp b7 p10 E tag nd w':=
 ⟨H.mem.mod hm hM,H.ndp,hm.at H.k7 h7,hm.at H.kl hl,fun i hi=>aZd (H.hlt i hi) hm.size,H.n7,H.nl⟩
theorem lG.mod0 (H:lG g nb sb q L a id kb ks N S nd0 sp b7 p10 E tag nd w) (hm:Mod (fun _=>False) w w'):lG g nb sb q L a id kb ks N S nd0 sp b7 p10 E tag nd w':=H.mod hm (fun _ _ h=>h) (fun h=>h) (fun h=>h)
theorem lG.spot {M:Nat→Prop} {s:Nat} {X:Sr} (H:lG g nb sb q L a id kb ks N S nd0 sp b7 p10 E tag nd w) (hm:Mod M w w') (hM:∀i c r,tag i=some (c,r)→M i→c=s∧3≤r∧r≤4) (h7:¬M b7) (hl:¬M p10) (ht:∀i,i<w.heap.size→tag' i=tag i) (hx:B1 tag' w' s X)
  (hlt:∀i,tag' i≠none→i<w'.heap.size):lG g nb sb q L a id kb ks N S nd0 (fJ sp s X) b7 p10 E tag' nd w':=
 ⟨H.mem.spot hm hM ht hx,H.ndp,hm.at H.k7 h7,hm.at H.kl hl,hlt,(ht _ (aA H.k7)).trans H.n7,(ht _ (aA H.kl)).trans H.nl⟩
theorem lG.fresh {M:Nat→Prop} {s:Nat} {k:aQ} (H:lG g nb sb q L a id kb ks N S nd0 sp b7 p10 E tag nd w) (hm:Mod M w w') (hM:∀i,M i→i=sb) (hs:w.heap.size≤s) (hk:lkp k S=none)
  (ks':w'.heap[s]? =some (.cells #[.pointer none,.slice none 0 0] 248 (0,0))) (hS:∃es c,w'.heap[sb]? =some (.map es c)∧aR kv ptrV es c (put k s S)):
  lG g nb sb q L a id kb ks N (put k s S) nd0 (fJ sp s ⟨none,.slice none 0 0,[]⟩) b7 p10 E (fJ tag s (some (s,3))) nd w':=by
 have hlt:∀i,tag i≠none→i≠s:=fun i hi e=>by have:=H.hlt i hi;omega
 have ht:∀i,i<w.heap.size→fJ tag s (some (s,3)) i=tag i:=fun i hi=>dG _ _ (by omega);have hn:∀i c r,tag i=some (c,r)→(c,r)≠(g,7)→¬M i:=fun i c r e hne hi=>by
  rw[hM i hi,H.mem.tsb]at e;cases e;exact hne rfl
 obtain⟨es,c,hk1,M1⟩:=H.mem.kn;obtain⟨es2,c2,hk2,M2⟩:=hS;have hsz:=aA ks';refine⟨⟨hm.at H.mem.c (hn _ _ _ H.mem.tg (by simp)),⟨es,c,hm.at hk1 (hn _ _ _ H.mem.tnb (by simp)),M1⟩,⟨es2,c2,hk2,M2⟩,fun c hc=>(H.mem.nodes c hc).mod hm (fun i r e hr=>hn i _ _ e (by simp;omega)) ht,fun p hp=> ?_,(ht _ (aA H.mem.c)).trans H.mem.tg,(ht _ (aA hk1)).trans H.mem.tnb,?_⟩,H.ndp,hm.at H.k7 (fun h=> ?_),hm.at H.kl (fun h=> ?_),fun i hi=> ?_,(ht _ (aA H.k7)).trans H.n7,(ht _ (aA H.kl)).trans H.nl⟩
 ·rw[jP hk]at hp;rcases aZh.1 hp with hp|hp
  ·have h0:=H.mem.spots p hp
   have:p.2≠s:=fun e=>by have:=aA h0.c;omega
   rw[dG _ _ this];exact h0.mod hm (fun i r e h3 h4=>hn i _ _ e (by simp;omega)) ht
  ·simp at hp;subst hp;rw[upd_same];exact⟨ks',aE.nil _ _,upd_same _ _ _,fun g hg=>by cases hg⟩
 ·obtain⟨_,_,hk3,_⟩:=H.mem.ks;exact(ht _ (aA hk3)).trans H.mem.tsb
 ·have e:=H.n7;rw[hM _ h,H.mem.tsb]at e;cases e
 ·have e:=H.nl;rw[hM _ h,H.mem.tsb]at e;cases e
 ·by_cases e:i=s
  ·rw[e];exact hsz
  ·rw[dG _ _ e]at hi;exact aZd (H.hlt i hi) hm.size
end
end
section
open Go.RowKit Go.Shelf
attribute [local go_sem↓] eS jY eP tS eR uR
attribute [local go_sem] bB i7 dC j8 uH uG BA uI aN aK aP aF aO cR bY aH aC Value.cells k8
structure Fr (g b7 p10 r:Nat) (id:Int64) (a:Act):Prop where
 n:a.tmps.size=157
 h0:a.tmps.getD 0 undef=ptrV g
 h1:a.tmps.getD 1 undef= .int .i64 id.toInt
 h7:a.tmps.getD 7 undef=ptrV b7
 h10:a.tmps.getD 10 undef=ptrV p10
 h71:a.tmps.getD 71 undef=ptrV r
structure KI (T:Nat→Prop) (n:Nat) (w0:World) (g nb sb q:Nat) (L:List An) (x:An) (kb:Nat) (N:List (Int64×Nat)) (nd0:Nat→Nr) (b7 p10 r:Nat) (es:Array MapEntry) (cl:Nat) (D rem:List (aQ×Bool)) (S:List (aQ×Nat)) (sp:Nat→Sr) (tag:u5) (nd:Nat→Nr) (ds:List Deferred) (W:World):Prop where
 ei:lG g nb sb q L x.a x.id kb x.ks N S nd0 sp b7 p10 (dX L D) tag nd W
 spp:JR L x D S sp
 it:cZ W r kb kv bv es cl rem
 km:W.heap[kb]? =some (.map es cl)
 pm:(D++rem).Perm x.ks
 mks:eI n ds W
 fr:Mod T w0 W
 ow:∀i,tag i≠none→T i∨n≤i
 nr:tag r=none
structure KF (T:Nat→Prop) (n:Nat) (w0:World) (L:List An) (x:An) (kb:Nat) (nd0:Nat→Nr) (b7 p10 r:Nat) (es:Array MapEntry) (cl:Nat):Prop where
 pf:NW L x.a nd0
 M:aR kv bv es cl x.ks
 hn:w0.heap.size=n
 h7:n≤b7
 hl:n≤p10
 hr:n≤r
 hkn:n≤kb
 kl:x.ks.length≤800
 Ll:L.length≤900
theorem KX {T:Nat→Prop} {n:Nat} {w0:World} {g nb sb q:Nat} {L:List An} {x:An} {kb:Nat} {N:List (Int64×Nat)} {nd0:Nat→Nr} {b7 p10 r:Nat} {es:Array MapEntry} {cl:Nat} {D:List (aQ×Bool)} {S:List (aQ×Nat)} {sp:Nat→Sr} {tag:u5} {nd:Nat→Nr} {ds:List Deferred} {W:World}
  (F:KF T n w0 L x kb nd0 b7 p10 r es cl) (H:KI T n w0 g nb sb q L x kb N nd0 b7 p10 r es cl D [] S sp tag nd ds W) (u:Nat→Value) {Q:Exit→Act→World→Prop}
  (hexit:∀a',Fr g b7 p10 r x.id a'→a'.defers=ds→Q (.exit 2) a' W):keysBody.wp Tryz.prog Q ⟨(List.toArray (ptrV g:: .int .i64 x.id.toInt::u 2::u 3::u 4::u 5::u 6::ptrV b7::u 8::u 9::ptrV p10::u 11::u 12::u 13::u 14::u 15::u 16::u 17::u 18::u 19::u 20::u 21::u 22::u 23::u 24::u 25::u 26::u 27::u 28::u 29::u 30::u 31::u 32::u 33::u 34::u 35::u 36::u 37::u 38::u 39::u 40::u 41::u 42::u 43::u 44::u 45::u 46::u 47::u 48::u 49::u 50::u 51::u 52::u 53::u 54::u 55::u 56::u 57::u 58::u 59::u 60::u 61::u 62::u 63::u 64::u 65::u 66::u 67::u 68::u 69::u 70::ptrV r::u 72::u 73::u 74::u 75::u 76::u 77::u 78::u 79::u 80::u 81::u 82::u 83::u 84::u 85::u 86::u 87::u 88::u 89::u 90::u 91::u 92::u 93::u 94::u 95::u 96::u 97::u 98::u 99::u 100::u 101::u 102::u 103::u 104::u 105::u 106::u 107::u 108::u 109::u 110::u 111::u 112::u 113::u 114::u 115::u 116::u 117::u 118::u 119::u 120::u 121::u 122::u 123::u 124::u 125::u 126::u 127::u 128::u 129::u 130::u 131::u 132::u 133::u 134::u 135::u 136::u 137::u 138::u 139::u 140::u 141::u 142::u 143::u 144::u 145::u 146::u 147::u 148::u 149::u 150::u 151::u 152::u 153::u 154::u 155::u 156::[])),ds⟩ W:=by
 have hit:=H.it;have km:=H.km;rcases hit.next (P:=Tryz.prog) F.M km 0 with⟨_,hrun⟩|⟨p,rem',w3,it,hperm,hrun,kr3,m3,kb3,hent⟩
 ·have HE:=Hi hexit;clear H F hit hexit
  conv=>arg 2;whnf
  go_wp2_with fail;exact HE.out _ ⟨rfl,rfl,rfl,rfl,rfl,rfl⟩ rfl
 ·cases hperm.length_eq
structure KM (T:Nat→Prop) (n:Nat) (w0:World) (g nb sb q:Nat) (L:List An) (x:An) (kb:Nat) (N:List (Int64×Nat)) (nd0:Nat→Nr) (b7 p10 r:Nat) (es:Array MapEntry) (cl:Nat) (D:List (aQ×Bool)) (nd:Nat→Nr) (ds:List Deferred) (it:Obj) (k:aQ) (s:Nat) (S:List (aQ×Nat)) (sp:Nat→Sr) (tag:u5) (W:World):Prop where
 ei:lG g nb sb q L x.a x.id kb x.ks N S nd0 sp b7 p10 (dX L D) tag nd W
 spp:JR L x D S sp
 kr:W.heap[r]? =some it
 km:W.heap[kb]? =some (.map es cl)
 mks:eI n ds W
 fr:Mod T w0 W
 ow:∀i,tag i≠none→T i∨n≤i
 nr:tag r=none
 hk:lkp k S=some s
theorem yS {M:Nat→Prop} {W W':World} (hm:Mod M W W') (hM:∀i,¬M i):KeepsOthers W W':=pU hm (fun i h=>absurd h (hM i))
theorem wP {D rem rem' ks:List (aQ×Bool)} {p:aQ×Bool} (h:(D++rem).Perm ks) (hr:rem.Perm (p::rem')):((D++[p])++rem').Perm ks:=by
 refine .trans ?_ h;rw[aZw];exact(hr.symm).append_left D
theorem wQ {D rem:List (aQ×Bool)} {ks:List (aQ×Bool)} {p:aQ×Bool} (h:((D++[p])++rem).Perm ks) (hn:(ks.map Prod.fst).Nodup):∀b,(p.1,b)∉D:=by
 intro b hb;have h1:=((h.map Prod.fst).nodup_iff).2 hn;rw[List.map_append,List.map_append,aZw,aZ7]at h1;exact h1.2.2 p.1 (aZj.2 ⟨_,hb,rfl⟩) p.1 (by simp) rfl
theorem OS (w:World) (o:Option Nat):(binOp .eql 246 (yW o) (.pointer none)).run Tryz.prog w= .ok (.bool o.isNone) w:=by
 cases o<;>(go_simp;try rfl)
theorem SN {T:Nat→Prop} {n:Nat} {w0:World} {g nb sb q:Nat} {L:List An} {x:An} {kb:Nat} {N:List (Int64×Nat)} {nd0:Nat→Nr} {b7 p10 r:Nat} {es:Array MapEntry} {cl:Nat} {D rem:List (aQ×Bool)} {S:List (aQ×Nat)} {sp:Nat→Sr} {tag:u5} {nd:Nat→Nr} {ds:List Deferred} {W:World}
  (F:KF T n w0 L x kb nd0 b7 p10 r es cl) (H:KI T n w0 g nb sb q L x kb N nd0 b7 p10 r es cl D rem S sp tag nd ds W) (hq:q≤1000000) (hrem:rem≠[]) (u:Nat→Value) {Q:Exit→Act→World→Prop} (hP:∀c a w,¬Q (.panic c) a w) (hL:¬LetsOut Q)
  (hnext:∀D' rem' S' sp' tag' nd' a' W',Fr g b7 p10 r x.id a'→KI T n w0 g nb sb q L x kb N nd0 b7 p10 r es cl D' rem' S' sp' tag' nd' a'.defers W'→rem'.length<rem.length→Q .normal a' W'):keysBody.wp Tryz.prog Q ⟨(List.toArray (ptrV g:: .int .i64 x.id.toInt::u 2::u 3::u 4::u 5::u 6::ptrV b7::u 8::u 9::ptrV p10::u 11::u 12::u 13::u 14::u 15::u 16::u 17::u 18::u 19::u 20::u 21::u 22::u 23::u 24::u 25::u 26::u 27::u 28::u 29::u 30::u 31::u 32::u 33::u 34::u 35::u 36::u 37::u 38::u 39::u 40::u 41::u 42::u 43::u 44::u 45::u 46::u 47::u 48::u 49::u 50::u 51::u 52::u 53::u 54::u 55::u 56::u 57::u 58::u 59::u 60::u 61::u 62::u 63::u 64::u 65::u 66::u 67::u 68::u 69::u 70::ptrV r::u 72::u 73::u 74::u 75::u 76::u 77::u 78::u 79::u 80::u 81::u 82::u 83::u 84::u 85::u 86::u 87::u 88::u 89::u 90::u 91::u 92::u 93::u 94::u 95::u 96::u 97::u 98::u 99::u 100::u 101::u 102::u 103::u 104::u 105::u 106::u 107::u 108::u 109::u 110::u 111::u 112::u 113::u 114::u 115::u 116::u 117::u 118::u 119::u 120::u 121::u 122::u 123::u 124::u 125::u 126::u 127::u 128::u 129::u 130::u 131::u 132::u 133::u 134::u 135::u 136::u 137::u 138::u 139::u 140::u 141::u 142::u 143::u 144::u 145::u 146::u 147::u 148::u 149::u 150::u 151::u 152::u 153::u 154::u 155::u 156::[])),ds⟩ W:=by
 have hit:=H.it;have km:=H.km;rcases hit.next (P:=Tryz.prog) F.M km 0 with⟨e,hrun⟩|⟨p,rem',w3,it,hperm,hrun,kr3,m3,kb3,hent⟩
 ·exact absurd e hrem
 obtain⟨k,h⟩:=p;obtain⟨hv,hv1,hv2⟩:∃hv:Int,bv h= .int .i64 hv∧(hv==1)=h:=⟨if h then 1 else 0,rfl,by cases h<;>rfl⟩;dsimp only at hrun hent;rw[hv1]at hrun;simp only[hv1]at hent;have kr0:∃s1 s2 s3,W.heap[r]? =some (.mapIter (some kb) s1 s2 s3):=by
  obtain⟨s1,s2,s3,h1,_⟩:=hit;exact⟨s1,s2,s3,h1⟩
 have nr7:b7≠r:=by
  obtain⟨s1,s2,s3,h1⟩:=kr0;exact aB H.ei.k7 h1 (by simp)
 have nrl:p10≠r:=by
  obtain⟨s1,s2,s3,h1⟩:=kr0;exact aB H.ei.kl h1 (by simp)
 have hEI:=H.ei.mod m3 (fun i hi e=>hi (by rw[e];exact H.nr)) nr7 nrl;have kg:=hEI.mem.c;have hfr:Mod T w0 w3:=H.fr.then m3 (fun i hi e=>by have:=F.hr;have:=F.hn;omega);have hmk:eI n ds w3:=H.mks.mod m3 (fun i hi e=>by
  obtain⟨s1,s2,s3,h1⟩:=kr0;rw[e,h1]at hi;cases hi)
 obtain⟨es2,cl2,ksb,hMS⟩:=hEI.mem.ks;have hpm:=wP H.pm hperm;have hlen:rem'.length<rem.length:=by rw[hperm.length_eq];simp
 obtain⟨o,ho⟩:∃o,lkp k S=o:=⟨_,rfl⟩;have hlk:∀wq,Mod (fun _=>False) w3 wq→(Instr.lookup 180 (.map (some sb)) (.agg (kc k)) false).run Tryz.prog wq= .ok (yW o) wq:=fun wq hq=>by
  have h1:=hMS.lookup keyT Tryz.underlying180 (z:= .pointer none) (fun w=>by kernel_rfl) wq (hq.at0 ksb) k false;rw[ho]at h1;refine h1.trans ?_;cases o<;>rfl
 have HL:=Hi hlk;have HEn:=Hi hent;have HEI:=Hi hEI;have HN:=Hi hnext;have HP:=Hi (Ai hpm hlen);have HMS:=Hi hMS;have HFR:=Hi (Ai hfr hmk);have HO:=Hi ho;have HH:=Hi H;have HF:=Hi F;have hE2:∀wq,Mod (fun _=>False) w3 wq→(Instr.entry (.pointer (some ⟨r,0,none⟩))).run Tryz.prog wq= .ok (.tuple #[.agg (kc k),.int .i64 hv]) wq:=fun wq hm=>(hent wq (hm.at0 kr3) (hm.at0 kb3)).1;have HE2:=Hi hE2;have hrun2:(Instr.next (.pointer (some ⟨r,0,none⟩)) false 0).run Tryz.prog W= .ok (.tuple #[.bool true,.agg (kc k),.int .i64 hv]) w3:=hrun;clear hlk hent hEI hnext hpm hlen hMS hfr hmk ho H F hE2 hrun hit km kr0 hperm hrem hv1
 conv=>arg 2;whnf
 go_upto_region 17 with fail;have hent2:=HE2.out;have Lkg:=aA kg;have Lkr3:=aA kr3;have Lkb3:=aA kb3;have Lksb:=aA ksb;refine ZP0 [1,0,0,3,4,0] ?_;refine ZE hent2 ?_
 iterate 2 refine Zv ?_
 refine Za EG fun p11 hp11=> ?_;refine Zt ?_;refine Zv ?_;refine TD.nil (fun w4 hr=> ?_);replace kg:=hr.q kg;replace kr3:=hr.q kr3;replace kb3:=hr.q kb3;replace ksb:=hr.q ksb;obtain⟨gp11,kp11⟩:=hr.b p11;have m4:=hr.mod;clear hr hent2;go_upto_region 19 with fail;have hlk:∀wq,Mod (fun _=>False) w4 wq→(Instr.lookup 180 (.map (some sb)) (.agg (kc k)) false).run Tryz.prog wq= .ok (yW o) wq:=fun wq hq=>HL.out wq (m4.then0 hq);have Lkg:=aA kg;have Lkr3:=aA kr3;have Lkb3:=aA kb3;have Lksb:=aA ksb;have Lkp11:=aA kp11;refine ZP [0,0,0,1,1,1,0] ?_
 iterate 5 first|refine Zv ?_|refine Zd ?_
 refine ZK hlk ?_;refine Zv ?_;refine TD.nil (fun w5 hr=> ?_);replace kg:=hr.q kg;replace kr3:=hr.q kr3;replace kb3:=hr.q kb3;replace ksb:=hr.q ksb;replace kp11:=hr.q kp11;have m5:=m4.then0 hr.mod;have HM5:=Hi m5;have heq:=OS w5 o;clear hr hlk m4 m5
 go_upto_if 86 with fail
 have HE:=Hi heq;clear heq;go_cut [14]from 87 to 94 (fun s14 wx=>∃s S' sp' tag',s14=ptrV s∧Hid (KM T n w0 g nb sb q L x kb N nd0 b7 p10 r es cl D nd ds it k s S' sp' tag' wx))
 case first=>
  cases o with
  |some s=>
   go_wp2_with fail;go_meet;exact⟨s,S,sp,tag,rfl,Hi ⟨HEI.out.mod0 HM5.out,HH.out.spp,kr3,kb3,HFR.out.2.keeps (yS HM5.out (fun _ h=>h)),HFR.out.1.then0 HM5.out,HH.out.ow,HH.out.nr,HO.out⟩⟩
  |none=>
   go_upto_region 22 with fail;have m6:Mod (fun _=>False) w5 (w5.alloc (.cells #[.pointer none,.slice none 0 0] 248)):=(Mod.refl _ _).alloc _;have ksp:=heap_alloc_new w5 (.cells #[.pointer none,.slice none 0 0] 248);generalize w5.alloc (.cells #[.pointer none,.slice none 0 0] 248)=w6 at *;have hEI5:=HEI.out.mod0 HM5.out;have Lr5:=aA kr3;have HK5:=Hi ksb;have nsb:∀ {i o},w5.heap[i]? =some (.cells o (248) (0,0))→i≠sb:=fun h=>aB h ksb (by simp);have hss:w5.heap.size≠sb:=by have:=aA ksb;omega
   have hgs:g≠sb:=aB kg ksb (by simp);have hps:p11≠sb:=aB kp11 ksb (by simp);have hrs:r≠sb:=fun e=>by
    have h1:=HEI.out.mem.tsb;rw[←e,HH.out.nr]at h1;cases h1
   have hks:kb≠sb:=fun e=>by
    have h1:=(HEI.out.mem.nodes x.a (by simp)).tk;rw[HEI.out.ndp.new]at h1;dsimp only at h1;rw[e,HEI.out.mem.tsb]at h1;cases h1
   have H5:=Hi (Ai hEI5 (m6.at0 ksb));have kg6:=m6.at0 kg;have kp6:=m6.at0 kp11;have kr6:=m6.at0 kr3;have kb6:=m6.at0 kb3;have ks6:=m6.at0 ksb;clear hEI5 nsb kg kp11 kr3 kb3 ksb;generalize hs5:w5.heap.size=s at *;have HS5:=Hi hs5;have HM6:=Hi m6;clear hs5 m6;have Lkg6:=aA kg6;have Lkp6:=aA kp6;have Lksp:=aA ksp;have Lkr6:=aA kr6;have Lkb6:=aA kb6;have Lks6:=aA ks6;refine ZP [0,0,0,1,1,0,5] ?_
   iterate 6 first|refine Zv ?_|refine Zd ?_
   refine Zi fun wE hr=> ?_;replace kg6:=hr.mod.at0 kg6;replace kp6:=hr.mod.at0 kp6;replace ksp:=hr.mod.at0 ksp;replace kr6:=hr.mod.at0 kr6;replace kb6:=hr.mod.at0 kb6;replace ks6:=hr.mod.at0 ks6;have mE:=hr.mod;obtain⟨es20,cl20,hrun20,Mks6⟩:=HMS.out.update keyT Tryz.underlying180 wE ks6 k s;refine ZV (hrun20) ?_;refine ZN ks6 fun w7 ks6 mS=> ?_;(try simp only[Array.setIfInBounds,zL]at ks6);replace kg6:=mS.at_ne kg6 (by omega);replace kp6:=mS.at_ne kp6 (by omega);replace ksp:=mS.at_ne ksp (by omega);replace kr6:=mS.at_ne kr6 (by omega);replace kb6:=mS.at_ne kb6 (by omega);have m7:Mod (fun i=>i=sb) w5 w7:=((HM6.out.then0 mE).mono (fun _ _ h=>h.elim)).then mS (fun _ _ h=>h);have hEI7:=H5.out.1.fresh (s:=s) (k:=k) m7 (fun _ h=>h) (by rw[HS5.out];exact aZq _) HO.out ksp ⟨_,_,ks6,Mks6⟩;have hn7:n≤s:=by
    have h1:=HFR.out.1.size;have h2:=HM5.out.size;have h3:=HF.out.hn;have h4:=HS5.out;omega
   have hnS:∀p∈S,p.2≠s:=fun p hp=>by
    have:=aA (H5.out.1.mem.spots p hp).c;have:=HS5.out;omega
   have hrs2:r≠s:=fun e=>by omega
   have hend:KM T n w0 g nb sb q L x kb N nd0 b7 p10 r es cl D nd ds it k s (put k s S) (fJ sp s ⟨none,.slice none 0 0,[]⟩) (fJ tag s (some (s,3))) w7:=by
    refine⟨hEI7,HH.out.spp.fresh HO.out hnS,kr6,kb6,?_,?_,fun i hi=> ?_,(dG _ _ hrs2).trans HH.out.nr,cP _ _ _⟩
    ·exact(HFR.out.2.keeps (yS HM5.out (fun _ h=>h))).mod m7 (fun i hi e=>by
      rw[e,HK5.out]at hi;cases hi)
    ·refine(HFR.out.1.then0 HM5.out).then m7 (fun i hi e=> ?_);rcases HH.out.ow sb (by rw[HEI.out.mem.tsb];simp)with h1|h1
     ·rw[e];exact h1
     ·have:=HF.out.hn;omega
    ·by_cases e:i=s
     ·rw[e];exact .inr hn7
     ·rw[dG _ _ e]at hi;exact HH.out.ow i hi
   have HEND:=Hi hend;clear hend hEI7;go_wp2_with fail;go_meet;exact⟨s,_,_,_,rfl,HEND⟩
 case rest=>
  obtain⟨s,S',sp',tag',rfl,HKM⟩:=hcut;clear HM5 kg kr3 kb3 ksb kp11 HL HE2 HE HFR HMS HO;have hsp:=HKM.out.ei.mem.spots (k,s) (dD HKM.out.hk);go_wp2_with fail;go_at_call 140;refine(ahead_cG s h _).mono ?_;rintro e w8 ⟨rfl,rfl⟩;go_wp2_with fail;have hk8:∃W8,(wc.alloc (.cells #[ptrV s] 246)).alloc (.cells #[.bool h] 4)=W8∧W8.heap[wc.heap.size]? =some (.cells #[ptrV s] 246 (0,0))∧W8.heap[wc.heap.size+1]? =some (.cells #[.bool h] 4 (0,0))∧Mod (fun _=>False) wc W8:=by
   refine⟨_,rfl,?_,?_,((Mod.refl _ _).alloc _).alloc _⟩
   ·exact((Mod.refl (fun _=>False) (wc.alloc (.cells #[ptrV s] 246))).alloc _).at0 (heap_alloc_new _ _)
   ·have:=heap_alloc_new (wc.alloc (.cells #[ptrV s] 246)) (.cells #[.bool h] 4);rwa[World.size_alloc]at this
  obtain⟨W8,e8,kB,kW,m8⟩:=hk8;rw[e8];generalize hbs:wc.heap.size=bs at *;have hEI8:=HKM.out.ei.mod0 m8;have hsp8:=hEI8.mem.spots (k,s) (dD HKM.out.hk);have hnone:∀i,bs≤i→tag' i=none:=fun i hi=>by
   cases e:tag' i with
   |none=>rfl
   |some p=>
    have:=HKM.out.ei.hlt i (by rw[e];simp);omega
  have hnD:=wQ HP.out.1 HF.out.M.nodup;obtain⟨hs1,hs2⟩:=(HKM.out.spp.left k hnD).1 s HKM.out.hk;obtain⟨zw,zr,z1,z2,z3,z4⟩:=B4 L k;have ksp8:=hsp8.c;have ho8:=hsp8.o;unfold VC at ksp8;rw[hs1,←z1]at ksp8;rw[hs2,←z2]at ho8;have nBl:bs≠p10:=fun e=>by have:=aA HKM.out.ei.kl;omega
  have nBl2:bs+1≠p10:=fun e=>by have:=aA HKM.out.ei.kl;omega
  have hEl:(dX L D).length≤900000:=by
   have h1:=l8 L D;have h2:=HP.out.1.length_eq;have h3:=HF.out.kl;have h4:=HF.out.Ll;rw[aZg,aZg,aZx]at h2;have h5:D.length*(L.length+1)≤800*901:=Nat.mul_le_mul (by omega) (by omega);omega
  have hLl:=HF.out.Ll;refine WW hEI8 HF.out.pf hEl hq kB kW ksp8 ho8 (by omega) (hnone _ (aZq _)) (hnone _ (by omega)) nBl nBl2 hsp8.ta hsp8.tr _ rfl rfl rfl rfl ?_;intro Dm W9 tag2 nd2 hD hK hEI2 hext hM9 hKO;have hz:=hEI2.mem.spots (k,s) (dD HKM.out.hk);have hn8:n≤W8.heap.size:=by
   have h1:=(HKM.out.fr.then0 m8).size;have h2:=HF.out.hn;omega
  have hr8:r<W8.heap.size:=aA (m8.at0 HKM.out.kr);have hmk9:=(HKM.out.mks.keeps (yS m8 (fun _ h=>h))).cons' hKO hn8 hD hK;have hfr9:Mod T w0 W9:=(HKM.out.fr.then0 m8).then hM9 (fun i hi e=>by
   have h3:=HF.out.hn;rcases e with e|⟨c,r',e,_⟩
   ·have:=HF.out.hl;omega
   ·rcases HKM.out.ow i (by rw[e];simp)with h1|h1
    ·exact h1
    ·omega)
  have how9:∀i,tag2 i≠none→T i∨n≤i:=fun i hi=>by
   by_cases h1:i<W8.heap.size
   ·exact HKM.out.ow i (by rw[←hext i h1];exact hi)
   ·exact .inr (by omega)
  have hnr9:tag2 r=none:=(hext r hr8).trans HKM.out.nr;have hrl:r≠p10:=Ne.symm nrl;have kr9:W9.heap[r]? =some it:=hM9.at (m8.at0 HKM.out.kr) (fun e=>by
   rcases e with e|⟨c,r',e,_⟩
   ·exact hrl e
   ·rw[HKM.out.nr]at e;cases e)
  have htk2:tag2 kb=some (x.a,1):=by
   have h1:=(hEI2.mem.nodes x.a (by simp)).tk;rw[hEI2.ndp.new]at h1;exact h1
  have hkb8:kb<W8.heap.size:=aA (m8.at0 HKM.out.km);have km9:W9.heap[kb]? =some (.map es cl):=hM9.at (m8.at0 HKM.out.km) (fun e=>by
   rcases e with e|⟨c,r',e,h⟩
   ·exact aB hEI8.kl (m8.at0 HKM.out.km) (by simp) e.symm
   ·rw[←hext kb hkb8,htk2]at e;cases e;omega)
  have hE9:dX L D++(c9 zw zr h).map (·.1)=dX L (D++[(k,h)]):=by rw[z4];simp[dX]
  rw[hE9]at hEI2;have fin:∀(a':Act) (Wf:World) (tagf:u5) (X:Sr) (M:Nat→Prop),Fr g b7 p10 r x.id a'→a'.defers= {target:= .collected Dm,args:= #[]}::ds→Mod M W9 Wf→(∀i,M i→i=s∨(sp' s).rv.ownBlock=some i)→lG g nb sb q L x.a x.id kb x.ks N S' nd0 (fJ sp' s X) b7 p10 (dX L (D++[(k,h)])) tagf nd2 Wf→
    vD X (spotOf k (L++[x]))→(∀i,i<W9.heap.size→tagf i=tag2 i)→Q .normal a' Wf:=by
   intro a' Wf tagf X M h1 h2 h3 h4 h5 h6 h7;have hMt:∀i,M i→∃r,tag2 i=some (s,r)∧3≤r:=fun i hi=>(h4 i hi).elim (fun e=>⟨3,by rw[e];exact hz.ta,by omega⟩) (fun e=>⟨4,hz.tr i e,by omega⟩);have krf:=h3.at kr9 (fun e=>by
    obtain⟨r',e,_⟩:=hMt _ e;rw[hnr9]at e;cases e)
   have kmf:=h3.at km9 (fun e=>by
    obtain⟨r',e,_⟩:=hMt _ e;rw[htk2]at e;cases e;omega)
   refine HN.out (D++[(k,h)]) rem' S' (fJ sp' s X) tagf nd2 a' Wf h1 ⟨h5,HKM.out.spp.step HKM.out.hk h6,(HEn.out Wf krf kmf).2,kmf,HP.out.1,?_,?_,fun i hi=> ?_,?_⟩ HP.out.2
   ·rw[h2];refine hmk9.keeps (pU h3 fun i hi=> ?_);rcases h4 i hi with e|e
    ·rw[e];exact⟨_,_,hz.c⟩
    ·obtain⟨cur,hk⟩:=k9 hz.o e;exact⟨_,_,hk⟩
   ·refine hfr9.then h3 (fun i hi e=> ?_);obtain⟨r',e,_⟩:=hMt _ e;rcases how9 i (by rw[e];simp)with h8|h8
    ·exact h8
    ·have:=HF.out.hn;omega
   ·by_cases h8:i<W9.heap.size
    ·exact how9 i (by rw[←h7 i h8];exact hi)
    ·have:=hKO.size;exact .inr (by omega)
   ·exact(h7 r (aA kr9)).trans hnr9
  have hhow:x.how k=some h:=dP HF.out.M.nodup (HP.out.1.mem_iff.1 (by simp));have HFIN:=Hi fin;have HHOW:=Hi hhow;have HZ:=Hi hz;have HE9:=Hi hEI2;have HSP:=Hi (Ai hs1 (Ai hs2 hnD));have kz:=hz.c;have k79:=hEI2.k7;have hoz:=hz.o;obtain⟨ad,c0,e0,-,-,-⟩:=hoz.at fF;unfold VC at kz;have hrl:=congrArg List.length hs2;rw[aZs]at hrl;have hrl2:=l5 k L;have HR:=Hi (show(sp' s).rs.length≤1000 by omega);rw[e0]at kz;generalize hln:(sp' s).rs.length=ln at *;have n7s:b7≠s:=fun e=>by
   have h1:=HZ.out.ta;rw[←e,HE9.out.n7]at h1;cases h1
  have HE0:=Hi (Ai e0 hln);clear fin hhow hz hEI2 hs1 hs2 hnD hmk9 hfr9 how9 hE9 hext hM9 hKO hK hD hsp hsp8 hEI8 kB kW m8 ksp8 ho8 hoz e0 hrl hrl2 z1 z2 z3 z4 hnone hn8 hr8 hnr9 kr9 htk2 hkb8 km9 hEl hLl nBl nBl2 e8 hbs hln;cases h with
  |true=>
   dsimp only;go_upto_region 30 with fail;have Lkz:=aA kz;have Lk79:=aA k79;refine ZP0 [0,0,1,0,0,5,0,0,6] ?_
   iterate 5 first|refine Zv ?_|refine Zd ?_
   refine Zi fun w10 hr=> ?_;replace kz:=hr.q kz;replace k79:=hr.q k79;have mA:=hr.mod;clear hr;refine ZS ?_;(first|refine TE.mid_setG kz (fun wn kz mS=> ?_)|refine TE.mid_setCellG kz (fun wn kz mS=> ?_));(try simp only[Array.setIfInBounds,zL]at kz);have mB:Mod (fun i=>i=s) W9 wn:=(mA.mono (fun _ _ h=>h.elim)).then mS (fun _ _ e=>e);replace k79:=mS.at_ne k79 n7s;clear mS mA;refine Ze ?_;refine Ze ?_;refine Zz ?_;refine ZS ?_;refine ZN kz fun wn kz mS=> ?_;(try simp only[Array.setIfInBounds,zL]at kz);have mC:=mB.then mS (fun i _ e=>e);clear mS mB;(try simp only[zL]);replace kz:wn.heap[s]? =some (.cells #[ptrV x.a,.slice none 0 0] 248 (0,0)):=kz;have hX:vD ⟨some x.a,.slice none 0 0,[]⟩ (spotOf k (L++[x])):=by
    rw[spotOf_snoc];unfold stepS;rw[HHOW.out];exact⟨rfl,rfl⟩
   have hsz:=mC.size;have hnp:p10≠s:=fun e=>by
    have h1:=HZ.out.ta;rw[←e,HE9.out.nl]at h1;cases h1
   have hEIf:=HE9.out.spot (s:=s) (X:=⟨some x.a,.slice none 0 0,[]⟩) (tag':=tag2) mC (fun i c r e hi=>by
    rw[hi,HZ.out.ta]at e;cases e;exact⟨rfl,by omega,by omega⟩) n7s hnp (fun _ _=>rfl) ⟨kz,aE.nil _ _,HZ.out.ta,fun g hg=>by cases hg⟩ (fun i hi=>aZd (HE9.out.hlt i hi) hsz)
   have HG:=Hi (Ai hX (Ai hEIf mC));clear hX hEIf mC hsz hnp;go_wp2_with fail;exact HFIN.out _ _ tag2 ⟨some x.a,.slice none 0 0,[]⟩ _ ⟨rfl,rfl,rfl,rfl,rfl,rfl⟩ rfl HG.out.2.2 (fun i e=> .inl e) HG.out.2.1 HG.out.1 (fun _ _=>rfl)
  |false=>
   dsimp only;obtain⟨e0,hln⟩:=HE0.out;have hrs:=HR.out;have hO0:=HZ.out.o;have ht0:=HZ.out.tr;rw[e0]at hO0 ht0;have nTs:¬(Value.slice ad ln c0).ownBlock=some s:=fun e=>by
    have h1:=ht0 _ e;rw[HZ.out.ta]at h1;cases h1
   have nT7:¬(Value.slice ad ln c0).ownBlock=some b7:=fun e=>by
    have h1:=ht0 _ e;rw[HE9.out.n7]at h1;cases h1
   have nTl:¬(Value.slice ad ln c0).ownBlock=some p10:=fun e=>by
    have h1:=ht0 _ e;rw[HE9.out.nl]at h1;cases h1
   have HT0:=Hi ht0;have HO0:=Hi hO0;clear ht0 e0 hln hrs;go_upto_region 31 with fail;have Lkz:=aA kz;have Lk79:=aA k79;refine iJ (T0:=fun i=>(Value.slice ad ln c0).ownBlock=some i) (K:=sN (sp' s).rs (.slice ad ln c0)) (κ:=fun i=>[0,0,0,0,0,0,3,6,0,0,6].getD i 0) (υ:=fun i=>[[],[],[],[],[],[],[],[147],[],[],[]].getD i []) [0,1,2,3,4,5,6,7] [8,9,10] (by kernel_rfl) (by kernel_rfl) (fB (sp' s).rs (.slice ad ln c0)).cl (⟨hO0,fun g hg=>hg⟩) (fun i hi=>(hO0.lt i hi).2) ?_;have gK:=fB (sp' s).rs (.slice ad ln c0)
   iterate 4 refine Zg ?_
   (refine Zk ?_ (hy:=by intro wq hSq;have kzq:=hSq.atn kz;have k79q:=hSq.atn k79;go_simp;try with_reducible rfl));(refine Zk ?_ (hy:=by intro wq hSq;have kzq:=hSq.atn kz;have k79q:=hSq.atn k79;go_simp;try with_reducible rfl));(refine TG.bslice (by simp only[zK];rfl) rfl (by rfl) rfl rfl ?hx37 (XG x.a) (fun p147 hp147 _=> ?n37);(case hx37=>(simp only[aYr,aZo,aYo,zM];(try rfl)));try simp only[zL]);(refine TG.appK (X:= ?X38) (Y:= ?Y38) (sN ((sp' s).rs++[x.a])) (fB ((sp' s).rs++[x.a])) (by simp only[zK];rfl) rfl (by rfl) rfl ?hx38 ?hz38 (fun T wq kq ltq hSq ub=> ?y38) ?n38;(case hx38=>simp only[zM];try rfl);(case hz38=>simp only[zM];try rfl);(case y38=>(have kzq:=hSq.atn kz;have k79q:=hSq.atn k79;have kp147:=ub.box (p:=p147) (by first|exact Bx.set_same _ _ _|(simp only[Bx.set_same];rfl)) (by first|decide|exact aZm.2 rfl|simp);dsimp only[Value.cells]at kp147;have nUp147:=(ub p147 _ (by first|exact Bx.set_same _ _ _|(simp only[Bx.set_same];rfl)) (by first|decide|exact aZm.2 rfl|simp)).1;exact vK kq kp147 (by have:=HR.out;have h9:=HE0.out.2;omega)));rintro v38 ⟨wI,TI,hI⟩;replace gK:=(fB ((sp' s).rs++[x.a])) v38;skip;(try clear hI TI wI);try simp only[zL]);refine TG.nil (fun w10 ⟨TR,hr⟩=> ?_);replace kz:=hr.mod.atn kz;replace k79:=hr.mod.atn k79;obtain⟨gp147,nTp147,kp147⟩:=hr.b p147;clear gK;have hO1:=hr.k.1;obtain⟨a6,c6,hv6,_⟩:=hO1.at fF;generalize hn6:((sp' s).rs++[x.a]).length=n6 at hv6;subst hv6;have nT1:∀i,(Value.slice a6 n6 c6).ownBlock=some i→(Value.slice ad ln c0).ownBlock=some i∨W9.heap.size≤i:=fun i hi=>by
    rcases aYt i W9.heap.size with h|h
    ·exact .inl (hr.old i h (hr.k.2 i hi))
    ·exact .inr h
   have m1:=hr.mod;have HO1:=Hi (Ai hO1 (Ai nT1 hn6));have HM1:=Hi m1;have Ls9:=aA HZ.out.c;clear hO1 nT1 hr m1 hn6 hO0;refine Ze ?_;refine Ze ?_;refine Zz ?_;refine ZS ?_;refine ZN kz fun wn kz mS=> ?_;(try simp only[Array.setIfInBounds,zL]at kz);(try simp only[zL]);replace kz:wn.heap[s]? =some (.cells #[yW (sp' s).wr,.slice a6 n6 c6] 248 (0,0)):=kz;have mC:Mod (fun i=>i=s∨(Value.slice ad ln c0).ownBlock=some i) W9 wn:=(HM1.out.mono (fun _ _ e=> .inr e)).then mS (fun _ _ e=> .inl e);have hO2:=HO1.out.1.mod mS (fun g hg e=>by
    rw[e]at hg;rcases HO1.out.2.1 _ hg with h|h
    ·exact nTs h
    ·omega)
   clear mS;have hX:vD ⟨(sp' s).wr,.slice a6 n6 c6,(sp' s).rs++[x.a]⟩ (spotOf k (L++[x])):=by
    rw[spotOf_snoc];unfold stepS;rw[HHOW.out];refine⟨HSP.out.1,?_⟩;dsimp only;rw[HSP.out.2.1,List.map_append];rfl
   have hsz:=mC.size;have hnp:p10≠s:=fun e=>by
    have h1:=HZ.out.ta;rw[←e,HE9.out.nl]at h1;cases h1
   have hT:∀i,i<W9.heap.size→(if W9.heap.size≤i∧(Value.slice a6 n6 c6).ownBlock=some i then some (s,4)else tag2 i)=tag2 i:=fun i hi=>by rw[if_neg (by omega)]
   have hEIf:=HE9.out.spot (s:=s) (X:=⟨(sp' s).wr,.slice a6 n6 c6,(sp' s).rs++[x.a]⟩) (tag':=fun i=>if W9.heap.size≤i∧(Value.slice a6 n6 c6).ownBlock=some i then some (s,4)else tag2 i) mC (fun i c r e hi=>by
    rcases hi with hi|hi
    ·rw[hi,HZ.out.ta]at e;cases e;exact⟨rfl,by omega,by omega⟩
    ·rw[HT0.out i hi]at e;cases e;exact⟨rfl,by omega,by omega⟩) (fun e=>e.elim n7s nT7) (fun e=>e.elim hnp nTl) hT ⟨kz,hO2,(hT _ Ls9).trans HZ.out.ta,fun g hg=>by
      by_cases h:W9.heap.size≤g
      ·simp only[if_pos (Ai h hg)]
      ·rcases HO1.out.2.1 g hg with h1|h1
       ·rw[hT g (by omega)];exact HT0.out g h1
       ·exact absurd h1 h⟩ (fun i hi=>by
      by_cases h:W9.heap.size≤i∧(Value.slice a6 n6 c6).ownBlock=some i
      ·exact(hO2.lt _ h.2).2
      ·simp only[if_neg h]at hi;exact aZd (HE9.out.hlt i hi) hsz)
   have HG:=Hi (Ai hX (Ai hEIf (Ai mC hT)));clear hX hEIf mC hsz hnp hT hO2;go_wp2_with fail;exact HFIN.out _ _ _ ⟨(sp' s).wr,.slice a6 n6 c6,(sp' s).rs++[x.a]⟩ _ ⟨rfl,rfl,rfl,rfl,rfl,rfl⟩ rfl HG.out.2.2.1 (fun i e=>e.imp _root_.id (fun e=>by rw[HE0.out.1];exact e)) HG.out.2.1 HG.out.1 HG.out.2.2.2
theorem O7 {T:Nat→Prop} {n:Nat} {w0:World} {g nb sb q:Nat} {L:List An} {x:An} {kb:Nat} {N:List (Int64×Nat)} {nd0:Nat→Nr} {b7 p10 r:Nat} {es:Array MapEntry} {cl:Nat}
  (F:KF T n w0 L x kb nd0 b7 p10 r es cl) (hq:q≤1000000) {act:Act} {W:World} (hF:Fr g b7 p10 r x.id act) (H:∃D rem S sp tag nd,KI T n w0 g nb sb q L x kb N nd0 b7 p10 r es cl D rem S sp tag nd act.defers W) {Q:Exit→Act→World→Prop} (hP:∀c a w,¬Q (.panic c) a w) (hL:¬LetsOut Q)
  (hdone:∀D S' sp' tag' nd' a' W',Fr g b7 p10 r x.id a'→KI T n w0 g nb sb q L x kb N nd0 b7 p10 r es cl D [] S' sp' tag' nd' a'.defers W'→Q (.exit 2) a' W'):(Code.loop keysBody).wp Tryz.prog Q act W:=by
 refine wp_loop (fun a w=>Fr g b7 p10 r x.id a∧∃D rem S sp tag nd,KI T n w0 g nb sb q L x kb N nd0 b7 p10 r es cl D rem S sp tag nd a.defers w) (fun _ w=>leftN w r kb) ⟨hF,H⟩ ?_;rintro a w ⟨hf,D,rem,S,sp,tag,nd,K⟩;have hlf:=K.it.leftN K.km;obtain⟨t,ds⟩:=a;obtain⟨f0,f1,f2,f3,f4,f5⟩:=hf;dsimp only at f0 f1 f2 f3 f4 f5 K;obtain⟨u,hu,e⟩:=xX t f0;rw[hu]at f1 f2 f3 f4 f5;rw[f1,f2,f3,f4,f5]at e;subst e;by_cases hrem:rem=[]
 ·subst hrem;refine KX F K u ?_;rintro a' hf' rfl;exact hdone D S sp tag nd a' w hf' K
 ·refine SN F K hq hrem u (fun c a w h=>hP c a w h) (fun⟨a,w,h⟩=>hL ⟨a,w,h⟩) ?_;intro D' rem' S' sp' tag' nd' a' W' hf' K' hlt;exact⟨⟨hf',D',rem',S',sp',tag',nd',K'⟩,by rw[hlf,K'.it.leftN K'.km];exact hlt⟩
end
end Go.Proofs.YtblbegbjlaokjaaGreatDoor