/- The lemmas of the proof, part YO7: how the program and its data lie in memory, and what its functions do. -/
import Derived.Test.YtblbegbjlaokjaaGreatDoorYU6
import Derived.OwnWalk
import Derived.Lib.Bytes
set_option linter.unusedSimpArgs false
set_option linter.unusedVariables false
set_option linter.unusedSectionVars false

set_option maxRecDepth 100000
set_option maxHeartbeats 12800000
namespace Go.Proofs.YtblbegbjlaokjaaGreatDoor
open Go.RowKit
open Go.ChangeMaps (setBlock)
section
attribute [local go_sem↓] dE cD dD eG gM fY d9
attribute [local go_sem] aJ aC aO aL aQ aI aP Value.cells rkc_size dB bD bV cV iJ eP i7 fK eJ gP jK bE cB cC
def bT.con (y:bT):It:=⟨y.n,y.r.con,y.pl.toNat,y.sent⟩
def bZ (R:List (Option bT)):List (Option It):=R.map (Option.map bT.con)
structure Bf (w:We) (b s h:Nat) (R:List (Option bT)) (C:List Nd) (Ts Th Tr:Nat→Prop):Prop where
 kb:w.heap[b]? =some (.cells #[ptrV s,ptrV h] 149 (0,0))
 sat:tU s R Ts w
 hat:fM h C Th w
 rd:∀(i:Nat) y,R[i]? =some (some y)→eL w y.r∧jR Tr y.r∧iU y.r.con
 dsh:∀i,Ts i→¬Th i
 drs:∀i,Tr i→¬Ts i
 drh:∀i,Tr i→¬Th i
 db:¬Ts b∧¬Th b∧¬Tr b
section
variable {w w':We} {b s h:Nat} {R R':List (Option bT)} {C C':List Nd} {Ts Th Tr Th' Tr':Nat→Prop}
theorem Bf.mod0 (H:Bf w b s h R C Ts Th Tr) (hm:Mod (fun _=>False) w w'):Bf w' b s h R C Ts Th Tr:=
 ⟨hm.at0 H.kb,(tU.good s R).cl Ts w w' H.sat (hm.mono (fun _ _ e=>e.elim)),(fM.good h C).cl Th w w' H.hat (hm.mono (fun _ _ e=>e.elim)),fun i y hy=>⟨(H.rd i y hy).1.mod0 hm,(H.rd i y hy).2⟩,H.dsh,H.drs,H.drh,H.db⟩
theorem Bf.stepH (H:Bf w b s h R C Ts Th Tr) (hlt:∀i,Ts i∨Tr i∨i=b→i<w.heap.size) (hA:fM h C' Th' w') (hm:Mod Th w w') (hT:∀i,Th' i→Th i∨w.heap.size≤i):Bf w' b s h R C' Ts Th' Tr:=by
 refine⟨hm.at H.kb H.db.2.1,(tU.good s R).cl Ts w w' H.sat (hm.mono (fun i _ e k=>H.dsh i k e)),hA,fun i y hy=>⟨(H.rd i y hy).1.mod hm (H.rd i y hy).2.1 (fun j hj=>H.drh j hj),(H.rd i y hy).2⟩,fun i hi e=> ?_,H.drs,fun i hi e=> ?_,H.db.1,fun e=> ?_,H.db.2.2⟩
 ·rcases hT i e with h|h
  ·exact H.dsh i hi h
  ·have:=hlt i (.inl hi);omega
 ·rcases hT i e with h|h
  ·exact H.drh i hi h
  ·have:=hlt i (.inr (.inl hi));omega
 ·rcases hT b e with h|h
  ·exact H.db.2.1 h
  ·have:=hlt b (.inr (.inr rfl));omega
theorem Bf.stepS (H:Bf w b s h R C Ts Th Tr) (hA:tU s R' Ts w') (hm:Mod Ts w w') (ud:∀(i:Nat) y,R'[i]? =some (some y)→R[i]? =some (some y)∨(eL w y.r∧jR Tr y.r∧iU y.r.con)):Bf w' b s h R' C Ts Th Tr:=by
 refine⟨hm.at H.kb H.db.1,hA,(fM.good h C).cl Th w w' H.hat (hm.mono (fun i _ e k=>H.dsh i e k)),fun i y hy=> ?_,H.dsh,H.drs,H.drh,H.db⟩;have h1:eL w y.r∧jR Tr y.r∧iU y.r.con:=by
  rcases ud i y hy with h|h
  ·exact H.rd i y h
  ·exact h
 exact⟨h1.1.mod hm h1.2.1 (fun j hj=>H.drs j hj),h1.2⟩
theorem Bf.more (H:Bf w b s h R C Ts Th Tr) (hT:∀i,Tr i→Tr' i) (h1:∀i,Tr' i→¬Ts i) (h2:∀i,Tr' i→¬Th i) (h3:¬Tr' b):Bf w b s h R C Ts Th Tr':=
 ⟨H.kb,H.sat,H.hat,fun i y hy=>⟨(H.rd i y hy).1,(H.rd i y hy).2.1.mono hT,(H.rd i y hy).2.2⟩,H.dsh,h1,h2,H.db.1,H.db.2.1,h3⟩
end
def BH (w0:We) (O:Nat→Prop) (b:Nat) (S:List (Option It)) (ws:We):Prop:=∃s h R C Ts Th Tr,Bf ws b s h R C Ts Th Tr∧S=bZ R∧C.Perm (fJ 0 S)∧(∀i,Ts i∨Th i∨Tr i∨i=b→(O i∨w0.heap.size≤i)∧i<ws.heap.size)∧Mod O w0 ws
section
variable {w0 w1 w2 ws:We} {O:Nat→Prop} {b:Nat} {S:List (Option It)}
theorem BH.mod0 (H:BH w0 O b S w1) (hm:Mod (fun _=>False) w1 w2):BH w0 O b S w2:=by
 obtain⟨s,h,R,C,Ts,Th,Tr,HB,hS,hp,hT,m⟩:=H;exact⟨s,h,R,C,Ts,Th,Tr,HB.mod0 hm,hS,hp,fun i hi=>⟨(hT i hi).1,aZd (hT i hi).2 hm.size⟩,m.then0 hm⟩
theorem BH.m (H:BH w0 O b S w1):Mod O w0 w1:=by
 obtain⟨s,h,R,C,Ts,Th,Tr,HB,hS,hp,hT,m⟩:=H;exact m
def BT (b:Nat) (S:List (Option It)) (T:Nat→Prop) (w:We):Prop:=∃s h R C Ts Th Tr,Bf w b s h R C Ts Th Tr∧S=bZ R∧C.Perm (fJ 0 S)∧(∀i,Ts i∨Th i∨Tr i∨i=b→T i∧i≠0∧i<w.heap.size)
theorem BT.bh {T:Nat→Prop} {w:We} (H:BT b S T w):BH w (fun i=>T i∧i≠0) b S w:=by
 obtain⟨s,h,R,C,Ts,Th,Tr,HB,hS,hp,hT⟩:=H;exact⟨s,h,R,C,Ts,Th,Tr,HB,hS,hp,fun i hi=>⟨.inl ⟨(hT i hi).1,(hT i hi).2.1⟩,(hT i hi).2.2⟩,Mod.refl _ _⟩
theorem BT.pos {T:Nat→Prop} {w:We} (H:BT b S T w):0<w.heap.size:=by
 obtain⟨s,h,R,C,Ts,Th,Tr,HB,hS,hp,hT⟩:=H;have:=aA HB.kb;omega
theorem BH.bt {T:Nat→Prop} {w w':We} (H:BH w (fun i=>T i∧i≠0) b S w') (h0:0<w.heap.size):BT b S (Grow T w w') w':=by
 obtain⟨s,h,R,C,Ts,Th,Tr,HB,hS,hp,hT,m⟩:=H;refine⟨s,h,R,C,Ts,Th,Tr,HB,hS,hp,fun i hi=> ?_⟩;obtain⟨h1,h2⟩:=hT i hi;rcases h1 with h1|h1
 ·exact⟨.inl h1.1,h1.2,h2⟩
 ·exact⟨.inr ⟨h1,h2⟩,by omega,h2⟩
theorem BH.mt {T:Nat→Prop} {w w':We} (H:BH w (fun i=>T i∧i≠0) b S w'):Mod T w w':=H.m.mono (fun _ _ h=>h.1)
theorem BT.good (b:Nat) (S:List (Option It)):aH (BT b S) where
 cl:=fun T w w' H hm=>by
  obtain⟨s,h,R,C,Ts,Th,Tr,HB,hS,hp,hT⟩:=H;have hn:∀ {X:Nat→Prop},(∀i,X i→Ts i∨Th i∨Tr i∨i=b)→Mod (fun i=>¬X i) w w':=fun hX=>hm.mono (fun i _ e k=>e (hT i (hX i k)).1);refine⟨s,h,R,C,Ts,Th,Tr,⟨hm.at HB.kb (fun e=>e (hT b (.inr (.inr (.inr rfl)))).1),(tU.good s R).cl Ts w w' HB.sat (hn (fun i h=> .inl h)),(fM.good h C).cl Th w w' HB.hat (hn (fun i h=> .inr (.inl h))),fun i y hy=>⟨(HB.rd i y hy).1.mod (hn (X:=Tr) (fun i h=> .inr (.inr (.inl h)))) (HB.rd i y hy).2.1 (fun j hj e=>e hj),(HB.rd i y hy).2⟩,HB.dsh,HB.drs,HB.drh,HB.db⟩,hS,hp,fun i hi=>⟨(hT i hi).1,(hT i hi).2.1,aZd (hT i hi).2.2 hm.size⟩⟩
 gr:=fun T T' w rq H=>by
  obtain⟨s,h,R,C,Ts,Th,Tr,HB,hS,hp,hT⟩:=H;exact⟨s,h,R,C,Ts,Th,Tr,HB,hS,hp,fun i hi=>⟨rq i (hT i hi).1,(hT i hi).2⟩⟩
theorem tU.len {s:Nat} {R:List (Option bT)} {T:Nat→Prop} {w:We} (h:tU s R T w):1≤R.length∧R.length≤4096:=by
 obtain⟨g,u,cur,us,H,_⟩:=h;exact H.len
theorem BH.len (H:BH w0 O b S w1):1≤S.length∧S.length≤4096:=by
 obtain⟨s,h,R,C,Ts,Th,Tr,HB,rfl,hp,hT,m⟩:=H;simpa[bZ] using HB.sat.len
end
theorem qG {R:List (Option bT)} {i:Nat} {x:It} (h:(bZ R)[i]? =some (some x)):∃y,R[i]? =some (some y)∧y.con=x:=by
 unfold bZ at h;rw[aZv]at h;cases hR:R[i]? with
 |none=>rw[hR]at h;cases h
 |some o=>
  rw[hR]at h;cases o with
  |none=>cases h
  |some y=>exact⟨y,rfl,by simpa using h⟩
theorem GQ {R:List (Option bT)} {i:Nat} (h:(bZ R)[i]? =some none):R[i]? =some none:=by
 unfold bZ at h;rw[aZv]at h;cases hR:R[i]? with
 |none=>rw[hR]at h;cases h
 |some o=>
  rw[hR]at h;cases o with
  |none=>rfl
  |some y=>cases h
theorem pA {R:List (Option bT)} {i:Nat} {y:bT}:bZ (R.set i (some y))=(bZ R).set i (some y.con):=by
 unfold bZ;rw[aX4];rfl
theorem l7 {R:List (Option bT)} {i:Nat}:bZ (R.set i none)=(bZ R).set i none:=by
 unfold bZ;rw[aX4];rfl
theorem bthere_c {w:We} {b s h:Nat} (kb:w.heap[b]? =some (.cells #[ptrV s,ptrV h] 149 (0,0))):Calls Tryz.prog 47 #[ptrV b] w fun e w'=>e= .returned (.bool true)∧w'=w:=by
 go_enter Tryz.func47,Tryz.ntmps47;go_wp2_with fail;go_ret;exact⟨rfl,rfl⟩
def bT.rk (y:bT):Rk:=⟨y.r.prio,y.n⟩
theorem irank_c (y:bT) (w:We):Calls Tryz.prog 52 #[.agg (dM y)] w fun e w'=>e= .returned (.agg (rkc y.rk))∧Mod (fun _=>False) w w':=by
 have ft:∀w,(Instr.build 152 #[(0,u64v y.r.prio),(1,u64v y.n)]).run Tryz.prog w= .ok (.agg (rkc y.rk)) w:=fun w=>by kernel_rfl
 go_enter Tryz.func52,Tryz.ntmps52;go_upto_region 0 with fail;refine ZP0 [3,3] ?_;refine Zb fun p1 fx=> ?_;refine Za pZ fun p2 ce=> ?_;obtain⟨ne_p2_p1,ce⟩:=Bx.set_none ce;refine TD.nil (fun w1 hr=> ?_);obtain⟨gp1,kp1⟩:=hr.b p1;obtain⟨gp2,kp2⟩:=hr.b p2;have m1:=hr.mod;clear hr;replace kp2:w1.heap[p2]? =some (.cells #[.int .u64 0,.int .u64 0] 152 (0,0)):=kp2;go_upto_region 1 with fail;have Lkp1:=aA kp1;have Lkp2:=aA kp2;refine ZP0 [0,0,1,0,1,0,5] ?_
 iterate 5 first|refine Zv ?_|refine Zd ?_
 refine Zu ft ?_;refine Zi fun w2 hr=> ?_;have kp1:=hr.mod.at kp1 (fun h=>h);have kp2:=hr.mod.at kp2 (fun h=>h);have m2:=m1.then0 hr.mod;clear hr;refine ZS ?_;refine ZN kp2 fun wn kp2 mS=> ?_;(try simp only[Array.setIfInBounds,zL]at kp2);have m3:=m2.thenB mS (.inl gp2);clear mS;go_wp2_with fail;exact bodyPost_ret (results_cell1 (v:= .agg (rkc y.rk)) rfl rfl (by rw[eG];simp[kp2,rkc])) rfl ⟨rfl,m3⟩
section
variable {w w':We} {b s h:Nat} {R R':List (Option bT)} {C C':List Nd} {Ts Th Tr Th' Tr':Nat→Prop}
theorem sget_c (hs:tU s R Ts w) {i:Nat} {y:bT} (hy:R[i]? =some (some y)):Calls Tryz.prog 97 #[ptrV s,.int .i64 (i:Int)] w fun e w'=>e= .returned (.tuple #[.agg (dM y),.int .i64 0])∧Mod (fun _=>False) w w':=by
 obtain⟨g,u,cur,us,H,_⟩:=hs;exact QN H hy
theorem SK (hs:tU s R Ts w) {i:Nat} {y:bT} (hy:R[i]? =some (some y)) (z:bT):Calls Tryz.prog 120 #[ptrV s,.int .i64 (i:Int),.agg (dM z)] w fun e w'=>e= .returned (.int .i64 0)∧tU s (R.set i (some z)) Ts w'∧Mod Ts w w':=by
 obtain⟨g,u,cur,us,H,h1,h2,h3⟩:=hs;refine(R9 H hy z).mono ?_;rintro e w' ⟨he,cur',H',hm⟩;exact⟨he,⟨g,u,cur',us,H',h1,h2,h3⟩,hm.mono (fun i _ e=>by subst e;exact h2)⟩
theorem CO (hs:tU s R Ts w) {i:Nat} {y:bT} (hy:R[i]? =some (some y)):Calls Tryz.prog 54 #[ptrV s,.int .i64 (i:Int)] w fun e w'=>e= .returned (.int .i64 0)∧tU s (R.set i none) Ts w'∧Mod Ts w w':=by
 obtain⟨g,u,cur,us,H,h1,h2,h3⟩:=hs;refine(MO H hy).mono ?_;rintro e w' ⟨he,cur',us',H',hm⟩;exact⟨he,⟨g,u,cur',us',H',h1,h2,h3⟩,hm.mono (fun i _ e=>by rcases e with e|e|e<;>subst e<;>assumption)⟩
theorem SG (hs:tU s R Ts w) (hw:dP w) (hf:R.countP Option.isSome≠R.length) (y:bT):Calls Tryz.prog 49 #[ptrV s,.agg (dM y)] w fun e w'=>∃n:Nat,pS R n∧e= .returned (.tuple #[.int .i64 (n:Int),.int .i64 0])∧tU s (R.set n (some y)) Ts w'∧Mod Ts w w':=by
 obtain⟨g,u,cur,us,H,h1,h2,h3⟩:=hs;refine(RY H hw hf y).mono ?_;rintro e w' ⟨n,hn,he,cur',us',H',hm⟩;exact⟨n,hn,he,⟨g,u,cur',us',H',h1,h2,h3⟩,hm.mono (fun i _ e=>by rcases e with e|e|e<;>subst e<;>assumption)⟩
theorem sputN_c (hs:tU s R Ts w) (hf:R.countP Option.isSome=R.length) (y:bT):Calls Tryz.prog 49 #[ptrV s,.agg (dM y)] w fun e w'=>e= .returned (.tuple #[.int .i64 0,.int .i64 3])∧Mod (fun _=>False) w w':=by
 obtain⟨g,u,cur,us,H,h1,h2,h3⟩:=hs;exact RW H hf y
end
end
section
attribute [local go_sem↓] dE cD dD eG gM fY d9
attribute [local go_sem] aJ aC aO aL aQ aI aP Value.cells rkc_size dB bD bV cV iJ eP i7 fK eJ gP jK bE cB cC
theorem vV {p:Wk} (h:p=0):((p.toNat:Int)==0)=true:=by subst h;rfl
theorem KY {p:Wk} (h:p≠0):((p.toNat:Int)==0)=false:=by
 rw[beq_eq_false_iff_ne];intro e;exact h (UInt8.toNat_inj.1 (by simpa using e))
theorem nZ {i:Nat} {x:It} (h:x.pl≠0):nodeOf i (some x)=[]:=by simp[nodeOf,h]
theorem bC (R:List (Option bT)):(bZ R).length=R.length:=by simp[bZ]
theorem yI {i:Nat} {S:List (Option It)}:(wtgo i S).length≤S.length:=by
 unfold wtgo;rw[aZg];have h1:=nC (S:=S.take i) (k:=0);have h2:=nC (S:=S.drop (i+1)) (k:=i+1);rw[aZ4]at h1;rw[List.length_drop]at h2;omega
structure FI (w0:We) (O:Nat→Prop) (b p i:Nat) (R:List (Option bT)) (s h:Nat) (C:List Nd) (Ts Th Tr:Nat→Prop) (w:We):Prop where
 bf:Bf w b s h R C Ts Th Tr
 perm:C.Perm (wtgo i (bZ R))
 lt:∀j,Ts j∨Th j∨Tr j∨j=b→(O j∨w0.heap.size≤j)∧j<w.heap.size
 m:Mod O w0 w
 box:¬Ts p∧¬Th p∧¬Tr p∧b≠p∧w0.heap.size≤p
section
variable {w0 w w':We} {O:Nat→Prop} {b p i s h:Nat} {R:List (Option bT)} {C:List Nd} {Ts Th Tr:Nat→Prop}
theorem FI.mod0 (M:FI w0 O b p i R s h C Ts Th Tr w) (hm:Mod (fun _=>False) w w'):FI w0 O b p i R s h C Ts Th Tr w':=
 ⟨M.bf.mod0 hm,M.perm,fun j hj=>⟨(M.lt j hj).1,aZd (M.lt j hj).2 hm.size⟩,M.m.then0 hm,M.box⟩
theorem FI.setP (M:FI w0 O b p i R s h C Ts Th Tr w) (hm:Mod (fun j=>j=p) w w'):FI w0 O b p i R s h C Ts Th Tr w':=by
 have H:=M.bf;obtain⟨b1,b2,b3,b4,b5⟩:=M.box;refine⟨⟨hm.at H.kb b4,(tU.good s R).cl Ts w w' H.sat (hm.mono (fun j _ e k=>b1 (e▸k))),(fM.good h C).cl Th w w' H.hat (hm.mono (fun j _ e k=>b2 (e▸k))),fun k y hy=>⟨(H.rd k y hy).1.mod hm (H.rd k y hy).2.1 (fun j hj e=>b3 (e▸hj)),(H.rd k y hy).2⟩,H.dsh,H.drs,H.drh,H.db⟩,M.perm,fun j hj=>⟨(M.lt j hj).1,aZd (M.lt j hj).2 hm.size⟩,M.m.thenB hm (.inl b5),M.box⟩
theorem FI.small (M:FI w0 O b p i R s h C Ts Th Tr w):C.length≤700000:=by
 have h1:=M.perm.length_eq;have h2:=yI (i:=i) (S:=bZ R);rw[bC]at h2;have:=M.bf.sat.len.2;omega
theorem FI.ids (M:FI w0 O b p i R s h C Ts Th Tr w) (hi:i<R.length):∀z∈C,z.id≠idn i:=fun z hz=>by
 have:=M.bf.sat.len.2;exact pP (by rw[bC];omega) (M.perm.mem_iff.1 hz) (by rw[bC];exact hi)
end
theorem pC {w0 w:We} {O:Nat→Prop} {b s h i:Nat} {R:List (Option bT)} {C:List Nd} {Ts Th Tr:Nat→Prop} (H:Bf w b s h R C Ts Th Tr) (hlt:∀j,Ts j∨Th j∨Tr j∨j=b→(O j∨w0.heap.size≤j)∧j<w.heap.size) (m:Mod O w0 w) {y:bT} (hy:R[i]? =some (some y)) (z:bT) (hz:z.r=y.r)
  (hp:C.Perm (fJ 0 ((bZ R).set i (some z.con)))):Calls Tryz.prog 120 #[ptrV s,.int .i64 (i:Int),.agg (dM z)] w fun e w'=>e= .returned (.int .i64 0)∧BH w0 O b ((bZ R).set i (some z.con)) w':=by
 refine(SK H.sat hy z).mono ?_;rintro e w' ⟨he,hs,hm⟩;refine⟨he,s,h,R.set i (some z),C,Ts,Th,Tr,H.stepS hs hm (fun k y' ja=> ?_),pA.symm,hp,fun j hj=>⟨(hlt j hj).1,aZd (hlt j hj).2 hm.size⟩,m.then hm (fun j hj e=>(hlt j (.inl e)).1.resolve_right (by omega))⟩;by_cases hk:k=i
 ·subst hk;rw[List.getElem?_set_self (aZa.1 hy).1]at ja;cases ja;refine .inr ?_;rw[hz];exact H.rd k y hy
 ·rw[aZ0 (fun e=>hk e.symm)]at ja;exact .inl ja
theorem turn_c {w0 ws:We} {O:Nat→Prop} {b:Nat} {S:List (Option It)} (H:BH w0 O b S ws) {i:Nat} {x:It} (hx:S[i]? =some (some x)) (p:Wk):Calls Tryz.prog 77 #[ptrV b,.int .i64 (i:Int),.int .u8 (p.toNat:Int)] ws fun e w'=>e= .returned (.tuple #[])∧BH w0 O b (S.set i (some {x with pl:=p.toNat})) w':=by
 have ag:=H.len;obtain⟨s,h,R,C,Ts,Th,Tr,HB,rfl,af,hT,m⟩:=H;obtain⟨y,hy,rfl⟩:=qG hx;have kb:=HB.kb;have HH:=Hi (Ai HB (Ai af (Ai hT (Ai m (Ai hx hy)))));have lh:Hid (i<R.length∧R.length≤4096):=Hi ⟨(aZa.1 hy).1,by rw[bC]at ag;exact ag.2⟩;clear HB af hT m hx hy ag;go_enter Tryz.func77,Tryz.ntmps77;go_upto_region 0 with fail;have Lkb:=aA kb;refine ZR0 (fun _ _ v=>v= .tuple #[.agg (dM y),.int .i64 0]) [0,0,0,0,1,0,2,0,0,0,3,4,0] ?_
 iterate 6 first|refine Zv ?_|refine Zd ?_
 (refine Zc ?_ (s:=by intro wq ae;exact(sget_c (HH.out.1.mod0 ae).sat HH.out.2.2.2.2.2).mono (fun e w' h=>⟨_,h.1,rfl,h.2⟩));rintro _ rfl;try simp only[zL])
 iterate 3 refine Zv ?_
 refine Za eA fun p6 rh=> ?_;refine Zt ?_;refine Zv ?_;refine TD.nil (fun w1 hr=> ?_);have kb:=hr.mod.at kb (fun h=>h);obtain⟨gp6,kp6⟩:=hr.b p6;have m1:=hr.mod;clear hr;have Mm:b≠p6:=by omega
 have Oq:∀j,Ts j∨Th j∨Tr j∨j=b→j≠p6:=fun j hj e=>by have:=(HH.out.2.2.1 j hj).2;omega
 have Cs:=Hi Oq;clear Oq;by_cases hw:y.pl=0
 ·have hwz:=vV hw;have HW:=Hi hw;clear hw;go_upto_region 2 with fail;have Lkb:=aA kb;have Lkp6:=aA kp6;refine ZP0 [0,0,0,0,1,0,5] ?_
  iterate 6 first|refine Zv ?_|refine Zd ?_
  refine Zi fun w2 hr=> ?_;have kb:=hr.mod.at kb (fun h=>h);have kp6:=hr.mod.at kp6 (fun h=>h);have m2:=m1.then0 hr.mod;have ec:p6<w2.heap.size:=aA kp6;clear hr;have ao:Calls Tryz.prog 53 #[ptrV h,.int .i64 (i:Int)] w2 fun e w'=>e= .returned (.tuple #[.agg (rkc y.rk),.int .i64 0])∧∃C1 Th1,FI w0 O b p6 i R s h C1 Ts Th1 Tr w'∧w'.heap[p6]? =some (.cells (dM y) 82 (0,0)):=by
   obtain⟨HB,af,hT,m,hx,hy⟩:=HH.out;have nk:(idn i).toInt=(i:Int):=bR (by have:=lh.out;omega);have Jm:=xP af hx (by show y.pl.toNat=0;rw[HW.out];rfl);have hC:C.length≤700000:=by
    rw[af.length_eq];have:=nC (S:=bZ R) (k:=0);rw[bC]at this;have:=lh.out;omega
   have rm:=HB.mod0 m2;have hc:=BL rm.hat (fun j hj=>aZd (hT j (.inr (.inl hj))).2 m2.size) (idn i) hC ⟨_,Jm,rfl⟩;rw[nk]at hc;refine hc.mono ?_;rintro e w' ⟨⟨z,hz,lz,he⟩,hA,hm⟩;have hzr:z.r=y.rk:=by
    have ct:(C.map Nd.id).Nodup:=HB.hat.ids;obtain⟨a,ha⟩:=aZ8.1 hz;obtain⟨c,ur⟩:=aZ8.1 Jm;have e1:(C.map Nd.id)[a]? =some (idn i):=by rw[aZv,ha];simp[lz]
    have e2:(C.map Nd.id)[c]? =some (idn i):=by rw[aZv,ur];rfl
    have:=(aWd (aZa.1 e1).1 ct).1 (e1.trans e2.symm);subst this;rw[ha]at ur;cases ur;rfl
   rw[hzr]at he;refine⟨he,_,Th,⟨rm.stepH (fun j hj=>aZd (hT j (by rcases hj with hj|hj|hj;exact .inl hj;exact .inr (.inr (.inl hj));exact .inr (.inr (.inr hj)))).2 m2.size) hA hm (fun j hj=> .inl hj),nM (by rw[bC];have:=lh.out;omega) af hx (by show y.pl.toNat=0;rw[HW.out];rfl),fun j hj=>⟨(hT j hj).1,aZd (hT j hj).2 (aYb m2.size hm.size)⟩,(m.then0 m2).then hm (fun j hj e=>(hT j (.inr (.inl e))).1.resolve_right (by omega)),⟨fun e=>Cs.out p6 (.inl e) rfl,fun e=>Cs.out p6 (.inr (.inl e)) rfl,fun e=>Cs.out p6 (.inr (.inr (.inl e))) rfl,fun e=>Cs.out b (.inr (.inr (.inr rfl))) e,aYb m.size gp6⟩⟩,hm.at kp6 (fun e=>Cs.out p6 (.inr (.inl e)) rfl)⟩
  clear kb kp6;(refine bJ (by simp only[zK];rfl) (by rfl) ?y21 ao (fun wn hP=> ?n21);(case y21=>(go_simp;(try(first|with_reducible rfl|(constructor<;>with_reducible rfl)))));try simp only[zL]);refine TE.nil ?_;clear ao;obtain⟨C1,Th1,hM,kp6⟩:=hP;have M1:=Hi hM;clear hM;go_upto_region 3 with fail;have Lkp6:=aA kp6;refine ZP0 [0,0,5] ?_
  iterate 2 refine Zv ?_
  refine Zi fun wE hr=> ?_;have kp6:=hr.mod.at0 kp6;have mE:=hr.mod;refine ZS ?_;refine ZN kp6 fun w3 kp6 mS=> ?_;have M3:=Hi ((M1.out.mod0 mE).setP mS);clear mE hr mS M1;rw[KA]at kp6;by_cases hp:p=0
  ·have hpz:=vV hp;have HP:=Hi hp;clear hp;have nk:(idn i).toInt=(i:Int):=bR (by have:=lh.out;omega);have HC:=Hi (Ai nk (Ai M3.out.small (M3.out.ids lh.out.1)));have kb3:=M3.out.bf.kb;have nb:¬Th1 b:=M3.out.bf.db.2.1;have np:¬Th1 p6:=M3.out.box.2.1;clear nk;go_upto_region 5 with fail;have Lkb3:=aA kb3;have Lkp6:=aA kp6;refine bL (T0:=Th1) (K:=fM h C1) (κ:=fun i=>[0,0,0,0,0,0,6,0,6].getD i 0) (υ:=fun _=>[]) [0,1,2,3,4,5,6,7,8] (by kernel_rfl) (by kernel_rfl) (fM.good h C1).cl (M3.out.bf.hat) (fun j hj=>(M3.out.lt j (.inr (.inl hj))).2) ?_;have gK:=fM.good h C1
   iterate 4 refine Zg ?_
   (refine Zk ?_ (hy:=by intro wq ae;have kb3q:=ae.atn kb3;have kp6q:=ae.atn kp6;go_simp;try with_reducible rfl));(refine Zk ?_ (hy:=by intro wq ae;have kb3q:=ae.atn kb3;have kp6q:=ae.atn kp6;go_simp;try with_reducible rfl));(refine ZG (fun v=>v= .agg (rkc y.rk)) gK ?_ (s:=fun T wq kq ltq ae ub=>by have kb3q:=ae.atn kb3;have kp6q:=ae.atn kp6;exact(irank_c {y with pl:=p} wq).mono (fun e w' h=>⟨_,h.1,rfl,h.2⟩));rintro v31 hC;subst hC;try simp only[zL]);refine Zg ?_;(refine TG.callK (f:= ?f33) (args:= ?r33) (fun v T w=>v= .int .i64 0∧fM h (C1++[⟨y.rk,idn i⟩]) T w) (fun v=>(aH.pure (v= .int .i64 0)).and (fM.good h (C1++[⟨y.rk,idn i⟩]))) (by simp only[zK];rfl) rfl (by rfl) (fun w1=> ?y33) (fun T wq kq ltq ae ub=> ?Sj) ?n33;(case y33=>(go_simp;(first|with_reducible rfl|(constructor<;>with_reducible rfl))));(case Sj=>(have kb3q:=ae.atn kb3;have kp6q:=ae.atn kp6;have hc:=vF kq ltq y.rk (idn i) HC.out.2.1 HC.out.2.2;rw[HC.out.1]at hc;exact hc.mono (fun e w' hh=>by obtain⟨he,T',Yr,Gh,gj,gk⟩:=hh;exact⟨_,he,Gh,rfl,(fM.good h _).gr _ _ _ (fun j hj=>by rcases gj j hj with h9|h9;exact .inl h9;exact .inr ⟨h9,gk j hj⟩) Yr⟩)));rintro v33 ⟨wI,TI,hI⟩;replace gK:=(fun v=>(aH.pure (v= .int .i64 0)).and (fM.good h (C1++[⟨y.rk,idn i⟩]))) v33;obtain⟨rfl,_⟩:=hI.k;(try clear hI TI wI);try simp only[zL]);refine TG.nil (fun w4 ⟨TR,hr⟩=> ?_);have kb3:=hr.mod.atn kb3;have kp6:=hr.mod.atn kp6;clear gK;have uh:=M3.out.bf.stepH (fun j hj=>(M3.out.lt j (by rcases hj with hj|hj|hj;exact .inl hj;exact .inr (.inr (.inl hj));exact .inr (.inr (.inr hj)))).2) hr.k.2 hr.mod (fun j hj=>by
    by_cases h9:j<w3.heap.size
    ·exact .inl (hr.old j h9 hj)
    ·exact .inr (by omega))
   have jh:Hid (∀j,Ts j∨TR j∨Tr j∨j=b→(O j∨w0.heap.size≤j)∧j<w4.heap.size):=Hi (fun j hj=>by
    have fu:=hr.mod.size;have h0:=M3.out.m.size;rcases hj with hj|hj|hj
    ·have:=M3.out.lt j (.inl hj);exact⟨this.1,by omega⟩
    ·refine⟨?_,hr.lt j hj⟩;by_cases h9:j<w3.heap.size
     ·exact(M3.out.lt j (.inr (.inl (hr.old j h9 hj)))).1
     ·omega
    ·have:=M3.out.lt j (.inr (.inr hj));exact⟨this.1,by omega⟩)
   have xb:Hid (Mod O w0 w4):=Hi (M3.out.m.then hr.mod (fun j hj e=>(M3.out.lt j (.inr (.inl e))).1.resolve_right (by omega)));have oe:List.Perm (C1++[(⟨y.rk,idn i⟩:Nd)]) (fJ 0 ((bZ R).set i (some ({y with pl:=p}:bT).con))):=oF (x:=({y with pl:=p}:bT).con) M3.out.perm (by rw[bC];exact lh.out.1) (by rw[HP.out];rfl);clear hr;have kbF:=uh.kb;have xc:=Hi oe;have Hh:=Hi uh;clear uh;go_upto_region 6 with fail;have LkbF:=aA kbF;have Lkp6:=aA kp6;refine ZP [0,0,0,0,1,0,1,5] ?_
   iterate 7 first|refine Zv ?_|refine Zd ?_
   refine Zi fun w7 hr=> ?_;have kbF:=hr.mod.at kbF (fun h=>h);have kp6:=hr.mod.at kp6 (fun h=>h);have m7:=hr.mod;clear hr;have ao:=pC (w0:=w0) (Hh.out.mod0 m7) (fun j hj=>⟨(jh.out j hj).1,aZd (jh.out j hj).2 m7.size⟩) (xb.out.then0 m7) HH.out.2.2.2.2.2 {y with pl:=p} rfl xc.out;clear m7;(refine bJ (by simp only[zK];rfl) (by rfl) ?y42 ao (fun wn hP=> ?n42);(case y42=>(go_simp;(try(first|with_reducible rfl|(constructor<;>with_reducible rfl)))));try simp only[zL]);refine TE.nil ?_;have HX:=Hi hP;clear hP ao;go_wp2_with fail;go_end0;exact⟨rfl,HX.out⟩
  ·have hpz:=KY hp;have oe:List.Perm C1 (fJ 0 ((bZ R).set i (some ({y with pl:=p}:bT).con))):=iK M3.out.perm (by rw[bC];exact lh.out.1) (nZ (fun e=>hp (UInt8.toNat_inj.1 e)));have uh:=M3.out.bf;have jh:=Hi M3.out.lt;have xb:=Hi M3.out.m;clear hp;have kbF:=uh.kb;have xc:=Hi oe;have Hh:=Hi uh;clear uh;go_upto_region 6 with fail;have LkbF:=aA kbF;have Lkp6:=aA kp6;refine ZP [0,0,0,0,1,0,1,5] ?_
   iterate 7 first|refine Zv ?_|refine Zd ?_
   refine Zi fun w7 hr=> ?_;have kbF:=hr.mod.at kbF (fun h=>h);have kp6:=hr.mod.at kp6 (fun h=>h);have m7:=hr.mod;clear hr;have ao:=pC (w0:=w0) (Hh.out.mod0 m7) (fun j hj=>⟨(jh.out j hj).1,aZd (jh.out j hj).2 m7.size⟩) (xb.out.then0 m7) HH.out.2.2.2.2.2 {y with pl:=p} rfl xc.out;clear m7;(refine bJ (by simp only[zK];rfl) (by rfl) ?y51 ao (fun wn hP=> ?n51);(case y51=>(go_simp;(try(first|with_reducible rfl|(constructor<;>with_reducible rfl)))));try simp only[zL]);refine TE.nil ?_;have HX:=Hi hP;clear hP ao;go_wp2_with fail;go_end0;exact⟨rfl,HX.out⟩
 ·have hwz:=KY hw;have M1:Hid (FI w0 O b p6 i R s h C Ts Th Tr w1):=Hi (by
   obtain⟨HB,af,hT,m,hx,hy⟩:=HH.out;refine⟨HB.mod0 m1,(oC (by rw[bC];have:=lh.out;omega) af hx (nZ (fun e=>hw (UInt8.toNat_inj.1 e)))).2,fun j hj=>⟨(hT j hj).1,aZd (hT j hj).2 m1.size⟩,m.then0 m1,⟨fun e=>Cs.out p6 (.inl e) rfl,fun e=>Cs.out p6 (.inr (.inl e)) rfl,fun e=>Cs.out p6 (.inr (.inr (.inl e))) rfl,fun e=>Cs.out b (.inr (.inr (.inr rfl))) e,aYb m.size gp6⟩⟩)
  obtain⟨C1,Vb⟩:∃C1,C1=C:=⟨_,rfl⟩;obtain⟨Th1,Og⟩:∃Th1,Th1=Th:=⟨_,rfl⟩;rw[←Vb,←Og]at M1;clear kb hw Vb Og;go_upto_region 3 with fail;have Lkp6:=aA kp6;refine ZP0 [0,0,5] ?_
  iterate 2 refine Zv ?_
  refine Zi fun wE hr=> ?_;have kp6:=hr.mod.at0 kp6;have mE:=hr.mod;refine ZS ?_;refine ZN kp6 fun w3 kp6 mS=> ?_;have M3:=Hi ((M1.out.mod0 mE).setP mS);clear mE hr mS M1;rw[KA]at kp6;by_cases hp:p=0
  ·have hpz:=vV hp;have HP:=Hi hp;clear hp;have nk:(idn i).toInt=(i:Int):=bR (by have:=lh.out;omega);have HC:=Hi (Ai nk (Ai M3.out.small (M3.out.ids lh.out.1)));have kb3:=M3.out.bf.kb;have nb:¬Th1 b:=M3.out.bf.db.2.1;have np:¬Th1 p6:=M3.out.box.2.1;clear nk;go_upto_region 5 with fail;have Lkb3:=aA kb3;have Lkp6:=aA kp6;refine bL (T0:=Th1) (K:=fM h C1) (κ:=fun i=>[0,0,0,0,0,0,6,0,6].getD i 0) (υ:=fun _=>[]) [0,1,2,3,4,5,6,7,8] (by kernel_rfl) (by kernel_rfl) (fM.good h C1).cl (M3.out.bf.hat) (fun j hj=>(M3.out.lt j (.inr (.inl hj))).2) ?_;have gK:=fM.good h C1
   iterate 4 refine Zg ?_
   (refine Zk ?_ (hy:=by intro wq ae;have kb3q:=ae.atn kb3;have kp6q:=ae.atn kp6;go_simp;try with_reducible rfl));(refine Zk ?_ (hy:=by intro wq ae;have kb3q:=ae.atn kb3;have kp6q:=ae.atn kp6;go_simp;try with_reducible rfl));(refine ZG (fun v=>v= .agg (rkc y.rk)) gK ?_ (s:=fun T wq kq ltq ae ub=>by have kb3q:=ae.atn kb3;have kp6q:=ae.atn kp6;exact(irank_c {y with pl:=p} wq).mono (fun e w' h=>⟨_,h.1,rfl,h.2⟩));rintro v61 hC;subst hC;try simp only[zL]);refine Zg ?_;(refine TG.callK (f:= ?f63) (args:= ?r63) (fun v T w=>v= .int .i64 0∧fM h (C1++[⟨y.rk,idn i⟩]) T w) (fun v=>(aH.pure (v= .int .i64 0)).and (fM.good h (C1++[⟨y.rk,idn i⟩]))) (by simp only[zK];rfl) rfl (by rfl) (fun w1=> ?y63) (fun T wq kq ltq ae ub=> ?Sn) ?n63;(case y63=>(go_simp;(first|with_reducible rfl|(constructor<;>with_reducible rfl))));(case Sn=>(have kb3q:=ae.atn kb3;have kp6q:=ae.atn kp6;have hc:=vF kq ltq y.rk (idn i) HC.out.2.1 HC.out.2.2;rw[HC.out.1]at hc;exact hc.mono (fun e w' hh=>by obtain⟨he,T',Yr,Gh,gj,gk⟩:=hh;exact⟨_,he,Gh,rfl,(fM.good h _).gr _ _ _ (fun j hj=>by rcases gj j hj with h9|h9;exact .inl h9;exact .inr ⟨h9,gk j hj⟩) Yr⟩)));rintro v63 ⟨wI,TI,hI⟩;replace gK:=(fun v=>(aH.pure (v= .int .i64 0)).and (fM.good h (C1++[⟨y.rk,idn i⟩]))) v63;obtain⟨rfl,_⟩:=hI.k;(try clear hI TI wI);try simp only[zL]);refine TG.nil (fun w4 ⟨TR,hr⟩=> ?_);have kb3:=hr.mod.atn kb3;have kp6:=hr.mod.atn kp6;clear gK;have uh:=M3.out.bf.stepH (fun j hj=>(M3.out.lt j (by rcases hj with hj|hj|hj;exact .inl hj;exact .inr (.inr (.inl hj));exact .inr (.inr (.inr hj)))).2) hr.k.2 hr.mod (fun j hj=>by
    by_cases h9:j<w3.heap.size
    ·exact .inl (hr.old j h9 hj)
    ·exact .inr (by omega))
   have jh:Hid (∀j,Ts j∨TR j∨Tr j∨j=b→(O j∨w0.heap.size≤j)∧j<w4.heap.size):=Hi (fun j hj=>by
    have fu:=hr.mod.size;have h0:=M3.out.m.size;rcases hj with hj|hj|hj
    ·have:=M3.out.lt j (.inl hj);exact⟨this.1,by omega⟩
    ·refine⟨?_,hr.lt j hj⟩;by_cases h9:j<w3.heap.size
     ·exact(M3.out.lt j (.inr (.inl (hr.old j h9 hj)))).1
     ·omega
    ·have:=M3.out.lt j (.inr (.inr hj));exact⟨this.1,by omega⟩)
   have xb:Hid (Mod O w0 w4):=Hi (M3.out.m.then hr.mod (fun j hj e=>(M3.out.lt j (.inr (.inl e))).1.resolve_right (by omega)));have oe:List.Perm (C1++[(⟨y.rk,idn i⟩:Nd)]) (fJ 0 ((bZ R).set i (some ({y with pl:=p}:bT).con))):=oF (x:=({y with pl:=p}:bT).con) M3.out.perm (by rw[bC];exact lh.out.1) (by rw[HP.out];rfl);clear hr;have kbF:=uh.kb;have xc:=Hi oe;have Hh:=Hi uh;clear uh;go_upto_region 6 with fail;have LkbF:=aA kbF;have Lkp6:=aA kp6;refine ZP [0,0,0,0,1,0,1,5] ?_
   iterate 7 first|refine Zv ?_|refine Zd ?_
   refine Zi fun w7 hr=> ?_;have kbF:=hr.mod.at kbF (fun h=>h);have kp6:=hr.mod.at kp6 (fun h=>h);have m7:=hr.mod;clear hr;have ao:=pC (w0:=w0) (Hh.out.mod0 m7) (fun j hj=>⟨(jh.out j hj).1,aZd (jh.out j hj).2 m7.size⟩) (xb.out.then0 m7) HH.out.2.2.2.2.2 {y with pl:=p} rfl xc.out;clear m7;(refine bJ (by simp only[zK];rfl) (by rfl) ?y72 ao (fun wn hP=> ?n72);(case y72=>(go_simp;(try(first|with_reducible rfl|(constructor<;>with_reducible rfl)))));try simp only[zL]);refine TE.nil ?_;have HX:=Hi hP;clear hP ao;go_wp2_with fail;go_end0;exact⟨rfl,HX.out⟩
  ·have hpz:=KY hp;have oe:List.Perm C1 (fJ 0 ((bZ R).set i (some ({y with pl:=p}:bT).con))):=iK M3.out.perm (by rw[bC];exact lh.out.1) (nZ (fun e=>hp (UInt8.toNat_inj.1 e)));have uh:=M3.out.bf;have jh:=Hi M3.out.lt;have xb:=Hi M3.out.m;clear hp;have kbF:=uh.kb;have xc:=Hi oe;have Hh:=Hi uh;clear uh;go_upto_region 6 with fail;have LkbF:=aA kbF;have Lkp6:=aA kp6;refine ZP [0,0,0,0,1,0,1,5] ?_
   iterate 7 first|refine Zv ?_|refine Zd ?_
   refine Zi fun w7 hr=> ?_;have kbF:=hr.mod.at kbF (fun h=>h);have kp6:=hr.mod.at kp6 (fun h=>h);have m7:=hr.mod;clear hr;have ao:=pC (w0:=w0) (Hh.out.mod0 m7) (fun j hj=>⟨(jh.out j hj).1,aZd (jh.out j hj).2 m7.size⟩) (xb.out.then0 m7) HH.out.2.2.2.2.2 {y with pl:=p} rfl xc.out;clear m7;(refine bJ (by simp only[zK];rfl) (by rfl) ?y81 ao (fun wn hP=> ?n81);(case y81=>(go_simp;(try(first|with_reducible rfl|(constructor<;>with_reducible rfl)))));try simp only[zL]);refine TE.nil ?_;have HX:=Hi hP;clear hP ao;go_wp2_with fail;go_end0;exact⟨rfl,HX.out⟩
end
section
attribute [local go_sem↓] dE cD dD eG gM fY d9
attribute [local go_sem] aJ aC aO aL aQ aI aP Value.cells rkc_size dB bD bV cV iJ eP i7 fK eJ gP jK bE cB cC
section
variable {w0 w w' ws:We} {O:Nat→Prop} {b s h:Nat} {R R':List (Option bT)} {C C':List Nd} {Ts Th Tr:Nat→Prop} {S:List (Option It)}
theorem BV (HB:Bf w b s h R C Ts Th Tr) {i:Nat} {y:bT} (hy:R[i]? =some (some y)):Calls Tryz.prog 58 #[ptrV b,.int .i64 (i:Int)] w fun e w'=>e= .returned (.tuple #[.agg (dM y),.int .i64 0])∧Mod (fun _=>False) w w':=by
 have kb:=HB.kb;have HH:=Hi (Ai HB hy);clear HB hy;go_enter Tryz.func58,Tryz.ntmps58;go_upto_region 0 with fail;have Lkb:=aA kb;refine ZP0 [3,0] ?_;refine Za eA fun p4 od=> ?_;refine Zv ?_;refine TD.nil (fun w1 hr=> ?_);have kb:=hr.mod.at kb (fun h=>h);obtain⟨gp4,kp4⟩:=hr.b p4;have m1:=hr.mod;clear hr;go_wp2_with fail;go_at_call 47;refine(bthere_c kb).mono ?_;rintro e w2 ⟨rfl,rfl⟩;go_upto_region 3 with fail;have Lkb:=aA kb;have Lkp4:=aA kp4;refine ZR0 (fun _ _ v=>v= .tuple #[.agg (dM y),.int .i64 0]) [0,0,0,0,1,0,2,0,0,5,0] ?_
 iterate 6 first|refine Zv ?_|refine Zd ?_
 (refine Zc ?_ (s:=by intro wq ae;exact(sget_c (HH.out.1.mod0 (m1.then0 ae)).sat HH.out.2).mono (fun e w' h=>⟨_,h.1,rfl,h.2⟩));rintro _ rfl;try simp only[zL])
 iterate 2 refine Zv ?_
 refine Zi fun w3 hr=> ?_;have kb:=hr.mod.at kb (fun h=>h);have kp4:=hr.mod.at kp4 (fun h=>h);have m3:=m1.then0 hr.mod;clear hr;refine ZS ?_;refine ZM kp4 fun wn kp4 mS=> ?_;(try simp only[Array.setIfInBounds,zL]at kp4);have m4:=m3.thenB mS (.inl gp4);clear mS;refine Ze ?_;refine TE.nil ?_;go_wp2_with fail;exact bodyPost_ret (results_cell2 (x:= .agg (dM y)) rfl rfl (by rw[cD];simp[kp4,bV,bD])) rfl ⟨rfl,m4⟩
theorem slenS_c (hs:tU s R Ts w):Calls Tryz.prog 59 #[ptrV s] w fun e w'=>e= .returned (.int .i64 (R.countP Option.isSome:Nat))∧Mod (fun _=>False) w w':=by
 obtain⟨g,u,cur,us,H,_⟩:=hs;exact(SE H).mono fun e w' h=>⟨h.1,by rw[h.2];exact Mod.refl _ _⟩
theorem PU (H:BH w0 O b S w):Calls Tryz.prog 18 #[ptrV b] w fun e w'=>e= .returned (.int .i64 (S.countP Option.isSome))∧Mod (fun _=>False) w w':=by
 obtain⟨s,h,R,C,Ts,Th,Tr,HB,rfl,af,hT,m⟩:=H;have kb:=HB.kb;have HH:=Hi HB;have iq:(bZ R).countP Option.isSome=R.countP Option.isSome:=by
  unfold bZ;rw[List.countP_map];exact List.countP_congr (fun o _=>by cases o<;>simp)
 rw[iq];generalize hN:R.countP Option.isSome=N;have HN:=Hi hN;clear HB af hT m iq hN;go_enter Tryz.func18,Tryz.ntmps18;go_wp2_with fail;go_at_call 47;refine(bthere_c kb).mono ?_;rintro e w2 ⟨rfl,rfl⟩;go_upto_region 3 with fail;have Lkb:=aA kb;refine ZR0 (fun _ _ v=>v= .int .i64 N) [0,0,0,0,1,2,0] ?_
 iterate 5 first|refine Zv ?_|refine Zd ?_
 (refine Zc ?_ (s:=by intro wq ae;exact(slenS_c (HH.out.mod0 ae).sat).mono (fun e w' h=>⟨_,h.1,by rw[HN.out],h.2⟩));rintro _ rfl;try simp only[zL]);refine Zv ?_;refine TD.nil (fun w3 hr=> ?_);have kb:=hr.mod.at kb (fun h=>h);have m3:=hr.mod;clear hr;go_wp2_with fail;go_ret;exact⟨rfl,m3⟩
theorem L8 (H:BH w0 O b S w) {D:List Nd} (hD:D.Perm (fJ 0 S)) (hS:nG D):Calls Tryz.prog 15 #[ptrV b] w fun e w'=>∃v,e= .returned v∧aE ic 1 3 w' w.heap.size v (D.map Nd.id)∧Mod (fun _=>False) w w':=by
 have fy:=H.len;obtain⟨s,h,R,C,Ts,Th,Tr,HB,rfl,af,hT,m⟩:=H;have kb:=HB.kb;have hC:C.length≤700000:=by
  have h1:=af.length_eq;have h2:=nC (S:=bZ R) (k:=0);omega
 have HH:=Hi (Ai HB (Ai (hD.trans af.symm) (Ai hS hC)));clear HB af hT m hC hS hD fy;go_enter Tryz.func15,Tryz.ntmps15;go_wp2_with fail;go_at_call 47;refine(bthere_c kb).mono ?_;rintro e w2 ⟨rfl,rfl⟩;go_wp2_with fail;go_at_call 56;refine(listS_c HH.out.1.hat HH.out.2.1 HH.out.2.2.1 HH.out.2.2.2).mono ?_;rintro e w3 ⟨v,rfl,ho,m3⟩;have HO:=Hi (Ai ho m3);clear ho m3;go_wp2_with fail;go_ret;exact⟨_,rfl,HO.out.1,HO.out.2⟩
end
end
section
attribute [local go_sem↓] dE cD dD eG gM fY d9
attribute [local go_sem] aJ aC aO aL aQ aI aP Value.cells rkc_size dB bD bV cV iJ eP i7 fK eJ gP jK bE cB cC
theorem SV {p:Wk} (k:Wk) {K:Int} (hk:(k.toNat:Int)=K) (h:p≠k):((p.toNat:Int)==K)=false:=by
 rw[beq_eq_false_iff_ne];intro e;subst hk;exact h (UInt8.toNat_inj.1 (by exact_mod_cast e))
section
variable {w0 w w' ws:We} {O:Nat→Prop} {b:Nat} {S:List (Option It)}
theorem BU (H:BH w0 O b S w) {i:Nat} {x:It} (hx:S[i]? =some (some x)):∃y:bT,y.con=x∧∀wq,Mod (fun _=>False) w wq→Calls Tryz.prog 58 #[ptrV b,.int .i64 (i:Int)] wq fun e w'=>e= .returned (.tuple #[.agg (dM y),.int .i64 0])∧Mod (fun _=>False) wq w':=by
 obtain⟨s,h,R,C,Ts,Th,Tr,HB,rfl,af,hT,m⟩:=H;obtain⟨y,hy,rfl⟩:=qG hx;exact⟨y,rfl,fun wq hq=>BV (HB.mod0 hq) hy⟩
theorem LK (H:BH w0 O b S w) {i:Nat} {x:It} (hx:S[i]? =some (some x)) (hp:x.pl≠0):Calls Tryz.prog 34 #[ptrV b,.int .i64 (i:Int)] w fun e w'=>e= .returned (.int .i64 0)∧BH w0 O b (S.set i (some {x with pl:=0})) w':=by
 obtain⟨y,hy,hc⟩:=BU H hx;have iz:((y.pl.toNat:Int)==0)=false:=SV 0 rfl (fun e=>hp (by rw[←hy];show y.pl.toNat=0;rw[e];rfl));have HH:=Hi (Ai H (Ai hx (Ai hy hc)));clear H hx hy hc hp;go_enter Tryz.func34,Tryz.ntmps34;go_upto_region 1 with fail;refine ZR0 (fun _ _ v=>v= .tuple #[.agg (dM y),.int .i64 0]) [0,0,2,0,0,0,3,4,0] ?_
 iterate 2 refine Zv ?_
 (refine Zc ?_ (s:=by intro wq ae;exact(HH.out.2.2.2 wq ae).mono (fun e w' h=>⟨_,h.1,rfl,h.2⟩));rintro _ rfl;try simp only[zL])
 iterate 3 refine Zv ?_
 refine Za eA fun p5 ip=> ?_;refine Zt ?_;refine Zv ?_;refine TD.nil (fun w3 hr=> ?_);obtain⟨gp5,kp5⟩:=hr.b p5;have m3:=hr.mod;clear hr;go_wp2_with fail;go_at_call 77;refine(turn_c (HH.out.1.mod0 m3) HH.out.2.1 0).mono ?_;rintro e w4 ⟨rfl,H4⟩;have HX:=Hi H4;clear H4;go_wp2_with fail;go_ret;exact⟨rfl,HX.out⟩
theorem IB (H:BH w0 O b S w) {i:Nat} {x:It} (hx:S[i]? =some (some x)) (hp:x.pl≠0):∃s h,w.heap[b]? =some (.cells #[ptrV s,ptrV h] 149 (0,0))∧Calls Tryz.prog 54 #[ptrV s,.int .i64 (i:Int)] w fun e w'=>e= .returned (.int .i64 0)∧BH w0 O b (S.set i none) w':=by
 have ag:=H.len;obtain⟨s,h,R,C,Ts,Th,Tr,HB,rfl,af,hT,m⟩:=H;obtain⟨y,hy,rfl⟩:=qG hx;refine⟨s,h,HB.kb,(CO HB.sat hy).mono ?_⟩;rintro e w' ⟨he,hs,hm⟩;have jx:i<(bZ R).length:=(aZa.1 hx).1;refine⟨he,s,h,R.set i none,C,Ts,Th,Tr,HB.stepS hs hm (fun k y' ja=> ?_),l7.symm,?_,fun j hj=>⟨(hT j hj).1,aZd (hT j hj).2 hm.size⟩,m.then hm (fun j hj e=>(hT j (.inl e)).1.resolve_right (by omega))⟩
 ·by_cases hk:k=i
  ·subst hk;rw[List.getElem?_set_self (aZa.1 hy).1]at ja;cases ja
  ·rw[aZ0 (fun e=>hk e.symm)]at ja;exact .inl ja
 ·exact iK (oC (by omega) af hx (by simp[nodeOf,hp])).2 jx rfl
theorem LM (H:BH w0 O b S w) {i:Nat} {x:It} (hx:S[i]? =some (some x)):Calls Tryz.prog 101 #[ptrV b,.int .i64 (i:Int)] w fun e w'=>e= .returned (.int .i64 0)∧BH w0 O b (S.set i none) w':=by
 obtain⟨y,hy,hc⟩:=BU H hx;have hp:=trivial;have HH:=Hi (Ai H (Ai hx (Ai hy hc)));clear H hx hy hc hp;go_enter Tryz.func101,Tryz.ntmps101;go_upto_region 1 with fail;refine ZR0 (fun _ _ v=>v= .tuple #[.agg (dM y),.int .i64 0]) [0,0,2,0,0,0,3,4,0] ?_
 iterate 2 refine Zv ?_
 (refine Zc ?_ (s:=by intro wq ae;exact(HH.out.2.2.2 wq ae).mono (fun e w' h=>⟨_,h.1,rfl,h.2⟩));rintro _ rfl;try simp only[zL])
 iterate 3 refine Zv ?_
 refine Za eA fun p5 ip=> ?_;refine Zt ?_;refine Zv ?_;refine TD.nil (fun w3 hr=> ?_);obtain⟨gp5,kp5⟩:=hr.b p5;have m3:=hr.mod;clear hr;go_wp2_with fail;go_at_call 77;refine(turn_c (HH.out.1.mod0 m3) HH.out.2.1 1).mono ?_;rintro e w4 ⟨rfl,H4⟩;have Xa:(S.set i (some {x with pl:=(1:Wk).toNat}))[i]? =some (some {x with pl:=(1:Wk).toNat}):=List.getElem?_set_self (aZa.1 HH.out.2.1).1;obtain⟨s,h,kb,hf⟩:=IB H4 Xa (by show(1:Wk).toNat≠0;decide);rw[List.set_set]at hf;have HF:=Hi hf;clear H4 Xa hf;go_wp2_with fail;go_at_call 54;refine HF.out.mono ?_;rintro e w5 ⟨rfl,H5⟩;have HX:=Hi H5;clear H5;go_wp2_with fail;go_ret;exact⟨rfl,HX.out⟩
end
end
section
attribute [local go_sem↓] dE cD dD eG gM fY d9
attribute [local go_sem] aJ aC aO aL aQ aI aP Value.cells rkc_size dB bD bV cV iJ eP i7 fK eJ gP jK bE cB cC
section
variable {w0 w w' ws:We} {O:Nat→Prop} {b:Nat} {S:List (Option It)}
theorem GE (H:BH w0 O b S w) {D:List Nd} (hD:D.Perm (fJ 0 S)) (hS:nG D):∃s h,w.heap[b]? =some (.cells #[ptrV s,ptrV h] 149 (0,0))∧∀wq,Mod (fun _=>False) w wq→Calls Tryz.prog 139 #[ptrV h] wq fun e w'=>e= .returned (FJ (D2 D.head?))∧Mod (fun _=>False) wq w':=by
 obtain⟨s,h,R,C,Ts,Th,Tr,HB,rfl,af,hT,m⟩:=H;exact⟨s,h,HB.kb,fun wq hq=>SP (HB.mod0 hq).hat (hD.trans af.symm) hS⟩
theorem bpopN_c (H:BH w0 O b S w) (hw:fJ 0 S=[]):Calls Tryz.prog 99 #[ptrV b] w fun e w'=>e= .returned (.tuple #[.int .i64 0,.bool false])∧Mod (fun _=>False) w w':=by
 obtain⟨s,h,kb,hc⟩:=GE H (D:=[]) (by rw[hw]) .nil;clear hw;have HH:=Hi (Ai H hc);clear H hc;go_enter Tryz.func99,Tryz.ntmps99;go_wp2_with fail;go_at_call 47;refine(bthere_c kb).mono ?_;rintro e w2 ⟨rfl,rfl⟩;go_upto_region 3 with fail;have Lkb:=aA kb;refine ZR0 (fun _ _ v=>v= .tuple #[.agg (rkc yJ),.int .i64 0,.bool false]) [0,0,0,0,1,2,0,0,0,0,0,0] ?_
 iterate 5 first|refine Zv ?_|refine Zd ?_
 (refine Zc ?_ (s:=by intro wq ae;exact(HH.out.2 wq ae).mono (fun e w' h=>⟨_,h.1,rfl,h.2⟩));rintro _ rfl;try simp only[zL])
 iterate 6 refine Zv ?_
 refine TD.nil (fun w3 hr=> ?_);have kb:=hr.mod.at kb (fun h=>h);have m3:=hr.mod;clear hr;go_wp2_with fail;exact bodyPost_ret (results_tmp2 rfl _ _ _) rfl ⟨rfl,m3⟩
theorem LZ (H:BH w0 O b S w) {D:List Nd} (hD:D.Perm (fJ 0 S)) (hS:nG D) {i:Nat} {x:It} (hx:S[i]? =some (some x)) (hh:D.head? =some ⟨x.rk,idn i⟩):Calls Tryz.prog 99 #[ptrV b] w fun e w'=>e= .returned (.tuple #[.int .i64 (i:Int),.bool true])∧BH w0 O b (S.set i (some {x with pl:=1})) w':=by
 have ag:=H.len;have jx:i<S.length:=(aZa.1 hx).1;obtain⟨s,h,kb,hc⟩:=GE H hD hS;rw[hh]at hc;have hi:(idn i).toInt=(i:Int):=bR (by omega);have hv:FJ (D2 (some ⟨x.rk,idn i⟩))= .tuple #[.agg (rkc x.rk),.int .i64 (i:Int),.bool true]:=by
  show FJ ⟨x.rk,idn i,true⟩=_;unfold FJ;rw[hi]
 rw[hv]at hc;have HXX:=Hi hx;clear hD hS hx hh hi hv ag jx;have HH:=Hi (Ai H hc);clear H hc;go_enter Tryz.func99,Tryz.ntmps99;go_wp2_with fail;go_at_call 47;refine(bthere_c kb).mono ?_;rintro e w2 ⟨rfl,rfl⟩;go_upto_region 3 with fail;have Lkb:=aA kb;refine ZR0 (fun _ _ v=>v= .tuple #[.agg (rkc x.rk),.int .i64 (i:Int),.bool true]) [0,0,0,0,1,2,0,0,0,0,0,0] ?_
 iterate 5 first|refine Zv ?_|refine Zd ?_
 (refine Zc ?_ (s:=by intro wq ae;exact(HH.out.2 wq ae).mono (fun e w' h=>⟨_,h.1,rfl,h.2⟩));rintro _ rfl;try simp only[zL])
 iterate 6 refine Zv ?_
 refine TD.nil (fun w3 hr=> ?_);have kb:=hr.mod.at kb (fun h=>h);have m3:=hr.mod;clear hr;go_wp2_with fail;go_at_call 77;refine(turn_c (HH.out.1.mod0 m3) HXX.out 1).mono ?_;rintro e w4 ⟨rfl,H4⟩;have HX:=Hi H4;clear H4;go_wp2_with fail;exact bodyPost_ret (results_tmp2 rfl _ _ _) rfl ⟨rfl,HX.out⟩
end
end
section
attribute [local go_sem↓] dE cD dD nB jX mX
attribute [local go_sem] aJ aC aO aL aQ aI aP Value.cells rkc_size dB bD bV cV iJ eP i7 fK eJ gP jK bE cB cC bI dZ eT
theorem aZ.modI {α:Type} {f:α→Wa} {n m c:Nat} {E:Wh} {b:Nat} {w w':We} {a:Wb} {l:List α} {S T:Nat→Prop} (h:aZ f n E b w (.slice a m c) l) (hm:Mod S w w') (hi:FH T a) (hT:∀i,T i→¬S i):aZ f n E b w' (.slice a m c) l:=by
 refine h.mod hm (fun g hg=>hT g ?_);rcases h with⟨e,_⟩|⟨g',cur,e,_⟩
 ·injection e with e1 _ _
  subst e1;cases hg
 ·injection e with e1 _ _
  subst e1;cases hg;exact hi _ _ rfl
section
variable {w0 w w' ws:We} {O:Nat→Prop} {b base:Nat} {S:List (Option It)} {x:cT}
theorem dS.mod {S T:Nat→Prop} (h:dS base w x) (hm:Mod S w w') (hi:jR T x) (hT:∀i,T i→¬S i):dS base w' x:=
 ⟨h.b.modI hm hi.b hT,h.sg.modI hm hi.sg hT,h.ks.modI hm hi.ks hT,h.ins.modI hm hi.ins hT,fun y hy=>⟨(h.insB y hy).1.modI hm (hi.insB y hy).1 hT,(h.insB y hy).2.modI hm (hi.insB y hy).2 hT⟩,h.lks.modI hm hi.lks hT,fun y hy=>⟨(h.lksB y hy).1.modI hm (hi.lksB y hy).1 hT,(h.lksB y hy).2.modI hm (hi.lksB y hy).2 hT⟩,h.ro.modI hm hi.ro hT⟩
theorem dS.mod0 (h:dS base w x) (hm:Mod (fun _=>False) w w'):dS base w' x:=h.mod hm h.inn (fun _ _ h=>h)
theorem dS.lower {b':Nat} (h:dS base w x) (hb:b'≤base):dS b' w x:=
 ⟨h.b.base hb,h.sg.base hb,h.ks.base hb,h.ins.base hb,fun y hy=>⟨(h.insB y hy).1.base hb,(h.insB y hy).2.base hb⟩,h.lks.base hb,fun y hy=>⟨(h.lksB y hy).1.base hb,(h.lksB y hy).2.base hb⟩,h.ro.base hb⟩
end
def TA (base:Nat) (c:AZ) (v:Wg):aK:=fun T w=>∃x:cT,v= .agg (b9 x)∧x.con=c∧dS base w x∧jR T x
theorem jW (base:Nat) (c:AZ) (v:Wg):aH (TA base c v) where
 cl:=fun T w w' h hm=>by
  obtain⟨x,e,hc,hn,hi⟩:=h;exact⟨x,e,hc,hn.mod hm hi (fun i hi hn=>hn hi),hi⟩
 gr:=fun T T' w hT h=>by
  obtain⟨x,e,hc,hn,hi⟩:=h;exact⟨x,e,hc,hn,hi.mono hT⟩
theorem uK {wq:We} {x:cT} (base:Nat) (hb:base≤wq.heap.size) (T:Nat→Prop) (hx:eL wq x) (hs:iU x.con):Calls Tryz.prog 48 #[.agg (b9 x)] wq fun e w'=>∃v,e= .returned v∧Mod (fun _=>False) wq w'∧TA base x.con v (Grow T wq w') w':=
 (MQ hx hs).mono fun e w' h=>by
  obtain⟨y,he,hc,hn,hm⟩:=h;exact⟨_,he,hm,y,rfl,hc,hn.lower hb,hn.inn.mono (fun i hi=> .inr hi)⟩
theorem QM {w:We} {bv:Wb} {n er:Int} {y:bT} (hheld:∀wq,Mod (fun _=>False) w wq→Calls Tryz.prog 58 #[.pointer bv,.int .i64 n] wq fun e w'=>e= .returned (.tuple #[.agg (dM y),.int .i64 er])∧Mod (fun _=>False) wq w') (ak:eL w y.r) (Wx:iU y.r.con):
  Calls Tryz.prog 17 #[.pointer bv,.int .i64 n] w fun e w'=>∃z:bT,z.con=y.con∧dS w.heap.size w' z.r∧e= .returned (.tuple #[.agg (dM z),.int .i64 er])∧Mod (fun _=>False) w w':=by
 have HH:=Hi (Ai hheld (Ai ak Wx));clear hheld ak Wx;go_enter Tryz.func17,Tryz.ntmps17;go_upto_region 0 with fail;refine ZP0 [3,0] ?_;refine Za eA fun p4 od=> ?_;refine Zv ?_;refine TD.nil (fun w1 hr=> ?_);obtain⟨gp4,kp4⟩:=hr.b p4;have m1:=hr.mod;clear hr;go_upto_region 1 with fail;have Lkp4:=aA kp4;refine ZR0 (fun _ _ v=>v= .tuple #[.agg (dM y),.int .i64 er]) [0,0,2,0,0,0,3,4,0] ?_
 iterate 2 refine Zv ?_
 (refine Zc ?_ (s:=by intro wq ae;exact(HH.out.1 wq (m1.then0 ae)).mono (fun e w' h=>⟨_,h.1,rfl,h.2⟩));rintro _ rfl;try simp only[zL])
 iterate 3 refine Zv ?_
 refine Za eA fun p6 rh=> ?_;refine Zt ?_;refine Zv ?_;refine TD.nil (fun w2 hr=> ?_);have kp4:=hr.mod.at kp4 (fun h=>h);obtain⟨gp6,kp6⟩:=hr.b p6;have m2:=m1.then0 hr.mod;have Nh:Hid (p4≠p6∧w.heap.size≤p6):=Hi ⟨by omega,by have:=m1.size;omega⟩;clear hr;go_upto_region 2 with fail;have Lkp4:=aA kp4;have Lkp6:=aA kp6;refine FD (T0:=fun _=>False) (K:=fun _ _=>True) (κ:=fun i=>[0,0,6,0,6].getD i 0) (υ:=fun _=>[]) [0,1,2,3] [4] (by kernel_rfl) (by kernel_rfl) (aH.true).cl (trivial) (fun _ h=>h.elim) ?_;have gK:=aH.true;refine Zg ?_;refine Zh ?_;(refine ZJ (TA w.heap.size y.r.con) (jW w.heap.size y.r.con) gK ?_ (s:=fun T wq kq ltq ae ub=>by exact uK (x:=y.r) w.heap.size (m2.then0 ae).size T (HH.out.2.1.mod0 (m2.then0 ae)) HH.out.2.2);rintro v14 ⟨wI,TI,hI⟩;replace gK:=gK.and ((jW w.heap.size y.r.con) v14);(obtain⟨_,z0,rfl,_⟩:=hI.k);(try clear hI TI wI);try simp only[zL]);refine Zg ?_;refine TG.nil (fun w3 ⟨TR,hr⟩=> ?_);have kp4:=hr.mod.at kp4 (fun h=>h);have kp6:=hr.mod.at kp6 (fun h=>h);clear gK;obtain⟨_,z,hz,lv,il,lz⟩:=hr.k;rename_i Dr _ _;clear Dr;injection hz with hz
 have ji:∀g,TR g→g≠p6:=fun g hg e=>(hr.old g (e▸Lkp6) hg).elim;have uq:∀g,TR g→g≠p4:=fun g hg e=>(hr.old g (e▸Lkp4) hg).elim;have m3:=m2.then0 hr.mod;have HZ:=Hi (Ai lv (Ai il (Ai lz (Ai ji uq))));clear hr lv il lz ji uq;refine Zz ?_;refine ZS ?_;refine ZN kp6 fun wn kp6 mS=> ?_;have m4:=m3.thenB mS (.inl Nh.out.2);have kp4:=mS.at kp4 Nh.out.1;have Eg:wn.heap[p6]? =some (.cells (dM {y with r:=z}) 82 (0,0)):=by
  have hs:=CN y z;rw[kp6,←hs,←hz]
 have HN:=Hi (show dS w.heap.size wn z from HZ.out.2.1.mod mS HZ.out.2.2.1 HZ.out.2.2.2.1);obtain⟨y2,ti⟩:∃y2:bT,y2= {y with r:=z}:=⟨_,rfl⟩;rw[←ti]at Eg;have Ux:=Hi ti;have M4:=Hi m4;clear mS kp6 hz ti m4 m3 m2 m1;go_upto_region 3 with fail;simp only[Act.put];have Lkp4:=aA kp4;have Lhkp:=aA Eg;refine ZP0 [1,0,5,0] ?_;refine Zd ?_;refine Zv ?_;refine Zi fun w5 hr=> ?_;have kp4:=hr.mod.at kp4 (fun h=>h);have Eg:=hr.mod.at Eg (fun h=>h);have m5:=M4.out.then0 hr.mod;have m45:=hr.mod;clear hr;refine ZS ?_;refine ZM kp4 fun wn kp4 mS=> ?_;(try simp only[Array.setIfInBounds,zL]at kp4);have m6:=m5.thenB mS (.inl gp4);have Uo:=Hi (show dS w.heap.size wn z from(HN.out.mod0 m45).mod mS HZ.out.2.2.1 HZ.out.2.2.2.2);clear mS;refine Ze ?_;refine TE.nil ?_;go_wp2_with fail;refine bodyPost_ret (results_cell2 (x:= .agg (dM y2)) rfl rfl (by rw[cD];simp[kp4,bV,bD])) rfl ⟨y2,?_,?_,rfl,m6⟩
 ·rw[Ux.out];show(⟨y.n,z.con,y.pl.toNat,y.sent⟩:It)=⟨y.n,y.r.con,y.pl.toNat,y.sent⟩;rw[HZ.out.1]
 ·rw[Ux.out];exact Uo.out
section
variable {w0 w:We} {O:Nat→Prop} {b:Nat} {S:List (Option It)}
theorem F7 (H:BH w0 O b S w) {i:Nat} {x:It} (hx:S[i]? =some (some x)):Calls Tryz.prog 17 #[ptrV b,.int .i64 (i:Int)] w fun e w'=>∃z:bT,z.con=x∧dS w.heap.size w' z.r∧e= .returned (.tuple #[.agg (dM z),.int .i64 0])∧Mod (fun _=>False) w w':=by
 obtain⟨s,h,R,C,Ts,Th,Tr,HB,rfl,af,hT,m⟩:=H;obtain⟨y,hy,rfl⟩:=qG hx;exact QM (fun wq hq=>BV (HB.mod0 hq) hy) (HB.rd i y hy).1 (HB.rd i y hy).2.2
end
end
section
attribute [local go_sem↓] dE cD dD
attribute [local go_sem] aJ aC aO aL aQ aI aP Value.cells
def XC (base:Nat) (v:Wg):aK:=fun T w=>∃h T',v=ptrV h∧fM h [] T' w∧(∀i,T' i→T i∧base≤i∧i<w.heap.size)
theorem IJ (base:Nat) (v:Wg):aH (XC base v) where
 cl:=fun T w w' h hm=>by
  obtain⟨h,T',e,hA,hT⟩:=h;exact⟨h,T',e,(fM.good h []).cl T' w w' hA (hm.mono (fun i _ e k=>e (hT i k).1)),fun i hi=>⟨(hT i hi).1,(hT i hi).2.1,aZd (hT i hi).2.2 hm.size⟩⟩
 gr:=fun T T' w hT h=>by
  obtain⟨h,T'',e,hA,rq⟩:=h;exact⟨h,T'',e,hA,fun i hi=>⟨hT i (rq i hi).1,(rq i hi).2⟩⟩
theorem VS {base:Nat} {wq:We} (hb:base≤wq.heap.size) (T:Nat→Prop):Calls Tryz.prog 80 #[] wq fun e w'=>∃v,e= .returned v∧Mod (fun _=>False) wq w'∧XC base v (Grow T wq w') w':=
 (OW wq).mono fun e w' h=>by
  obtain⟨h,he,T',hA,hm,hT⟩:=h;exact⟨_,he,hm,h,T',rfl,hA,fun i hi=>⟨.inr (hT i hi),by have:=hT i hi;omega,(hT i hi).2⟩⟩
theorem yH:∀(n k:Nat),fJ k (List.replicate n none)=[]
 |0,_=>rfl
 |n+1,k=>yH n (k+1)
theorem LY (w:We) {n:Nat} (h1:1≤n) (h2:n≤4096):Calls Tryz.prog 43 #[.int .i64 (n:Int)] w fun e w'=>∃b,e= .returned (.tuple #[ptrV b,.int .i64 0])∧BH w (fun _=>False) b (List.replicate n none) w':=by
 have HN:=Hi (Ai h1 h2);clear h1 h2;go_enter Tryz.func43,Tryz.ntmps43;go_wp2_with fail;go_at_call 79;refine(newY_c w HN.out.1 HN.out.2).mono ?_;rintro e w1 ⟨s,g,u,cur,us,rfl,hs,gs,gg,gu,m1⟩;have HS:=Hi (Ai hs (Ai gs (Ai gg (Ai gu m1))));clear hs gs gg gu m1;have dz:∀(h:Nat) (w:We),(Instr.build 147 #[(0,ptrV s),(1,ptrV h)]).run Tryz.prog w= .ok (.agg #[ptrV s,ptrV h]) w:=fun h w=>by kernel_rfl
 have cq:∀(h:Nat) (w:We),(Instr.build 149 #[(0,.agg #[ptrV s,ptrV h])]).run Tryz.prog w= .ok (.agg #[ptrV s,ptrV h]) w:=fun h w=>by kernel_rfl
 go_upto_region 4 with fail;refine wp_gpass0 (T0:=fun _=>False) (K:=fun _ _=>True) (κ:=fun i=>[0,6,0,0,3,0,0].getD i 0) (υ:=fun _=>[]) [0,1,2,3,4,5,6] (by kernel_rfl) (by kernel_rfl) (aH.true).cl (trivial) (fun _ h=>h.elim) ?_;have gK:=aH.true;refine Zg ?_;(refine ZJ (XC w1.heap.size) (IJ w1.heap.size) gK ?_ (s:=fun T wq kq ltq ae ub=>by exact VS (base:=w1.heap.size) ae.size T);rintro v2 ⟨wI,TI,hI⟩;replace gK:=gK.and ((IJ w1.heap.size) v2);(obtain⟨_,h,Th0,rfl,_⟩:=hI.k);(try clear hI TI wI);try simp only[zL]);(refine TG.build (v:= ?v3) (ps:= ?p3) (by simp only[zK];rfl) rfl (by rfl) rfl ?hx3 (fun w1=> ?y3) ?n3;(case hx3=>(simp only[aYr,aZo,aYo,zM];(try rfl)));(case y3=>(rw[(dz h)];(try with_reducible rfl)));try simp only[zL]);(refine TG.build (v:= ?v4) (ps:= ?p4) (by simp only[zK];rfl) rfl (by rfl) rfl ?Xa (fun w1=> ?y4) ?n4;(case Xa=>(simp only[aYr,aZo,aYo,zM];(try rfl)));(case y4=>(rw[(cq h)];(try with_reducible rfl)));try simp only[zL]);(refine TG.box (v:= ?v5) (by simp only[zK];rfl) rfl (by rfl) rfl rfl ?hx5 (fun p18 ya _=> ?n5);(case hx5=>simp only[zM];try rfl);try simp only[zL])
 iterate 2 refine Zg ?_
 refine TG.nil (fun w2 ⟨TR,hr⟩=> ?_);obtain⟨gp18,nTp18,kp18⟩:=hr.b p18;clear gK;obtain⟨_,h',Th,hh,hA,hT⟩:=hr.k;injection hh with hh
 injection hh with hh
 injection hh with hh
 subst hh;have m2:=hr.mod;go_wp2_with fail;refine bodyPost_ret (results_tmp2 rfl _ _ _) rfl ⟨p18,rfl,s,h,List.replicate n none,[],fun i=>i=s∨i=g∨i=u,Th,fun _=>False,?_,?_,?_,?_,?_⟩
 ·have fe:=HS.out.1.mod m2 (fun h=>h) (fun h=>h) (fun h=>h);have ls:=aA HS.out.1.ks;have lg:=aA HS.out.1.kg;have lu:=aA HS.out.1.ku;refine⟨kp18,⟨g,u,cur,us,fe,.inl rfl,.inr (.inl rfl),.inr (.inr rfl)⟩,hA,fun i y hy=> ?_,fun i hi e=> ?_,fun i hi=>hi.elim,fun i hi=>hi.elim,fun e=> ?_,fun e=>nTp18 (hT _ e).1,fun h=>h⟩
  ·obtain⟨_,e⟩:=aZa.1 hy;rw[aX2]at e;cases e
  ·have:=(hT i e).2.1;rcases hi with rfl|rfl|rfl<;>omega
  ·rcases e with e|e|e<;>omega
 ·simp[bZ]
 ·rw[yH]
 ·have ls:=aA HS.out.1.ks;have lg:=aA HS.out.1.kg;have lu:=aA HS.out.1.ku;have hz:=m2.size;have bj:=HS.out.2.2.2.2.size;have lp:=aA kp18;obtain⟨_,gs,gg,gu,_⟩:=HS.out;intro i hi;rcases hi with(rfl|rfl|rfl)|hi|hi|rfl
  ·omega
  ·omega
  ·omega
  ·have:=hT i hi;omega
  ·exact hi.elim
  ·omega
 ·exact HS.out.2.2.2.2.then0 m2
end
section
def TO (w0:We) (O:Nat→Prop) (b:Nat) (S:List (Option It)) (T:Nat→Prop) (ws:We):Prop:=∃s h R C Ts Th Tr,Bf ws b s h R C Ts Th Tr∧S=bZ R∧C.Perm (fJ 0 S)∧(∀i,(Ts i∨Th i∨Tr i∨i=b)↔T i)∧(∀i,T i→(O i∨w0.heap.size≤i)∧i<ws.heap.size)∧Mod O w0 ws
theorem TO.bh {w0 ws:We} {O T:Nat→Prop} {b:Nat} {S:List (Option It)} (H:TO w0 O b S T ws):BH w0 O b S ws:=by
 obtain⟨s,h,R,C,Ts,Th,Tr,HB,hS,hp,hE,hT,m⟩:=H;exact⟨s,h,R,C,Ts,Th,Tr,HB,hS,hp,fun i hi=>hT i ((hE i).1 hi),m⟩
def BO (b:Nat) (S:List (Option It)) (T:Nat→Prop) (w:We):Prop:=TO w T b S T w∧¬T 0∧0<w.heap.size
theorem BO.h0 {w:We} {T:Nat→Prop} {b:Nat} {S:List (Option It)} (H:BO b S T w):0<w.heap.size∧¬T 0:=⟨H.2.2,H.2.1⟩
structure Mi (w0:We) (O:Nat→Prop) (b i:Nat) (R:List (Option bT)) (s h:Nat) (C:List Nd) (Ts Th Tr:Nat→Prop) (w:We):Prop where
 bf:Bf w b s h R C Ts Th Tr
 perm:C.Perm (wtgo i (bZ R))
 lt:∀j,Ts j∨Th j∨Tr j∨j=b→(O j∨w0.heap.size≤j)∧j<w.heap.size
 m:Mod O w0 w
def fL {α:Type} (S:List (Option α)) (n:Nat):Prop:=S[n]? =some none∧∀i,i<n→∃y,S[i]? =some (some y)
theorem fL.uniq {α:Type} {S:List (Option α)} {n m:Nat} (h:fL S n) (k:fL S m):n=m:=by
 rcases Nat.lt_trichotomy n m with hl|hl|hl
 ·obtain⟨y,hy⟩:=k.2 n hl;rw[h.1]at hy;cases hy
 ·exact hl
 ·obtain⟨y,hy⟩:=h.2 m hl;rw[k.1]at hy;cases hy
theorem pS.s {R:List (Option bT)} {n:Nat} (h:pS R n):fL (bZ R) n:=by
 refine⟨?_,fun i hi=> ?_⟩
 ·unfold bZ;rw[aZv,h.1];rfl
 ·have ho:=h.2 i hi;have hlt:=(aZa.1 h.1).1;have rf:i<R.length:=by omega
  have he:=aZb rf;cases hc:R[i]with
  |none=>
   rw[hc]at he;have:=rE he;rw[ho]at this;cases this
  |some y=>
   rw[hc]at he;exact⟨y.con,by unfold bZ;rw[aZv,he];rfl⟩
theorem fL.room {R:List (Option bT)} {n:Nat} (h:fL (bZ R) n):R.countP Option.isSome≠R.length:=by
 intro e;have h1:=List.countP_eq_length.1 e none (aZi (GQ h.1));cases h1
theorem SA {α:Type} {l:List α} {i:Nat} {x:α} (h:l[i]? =some x):l.set i x=l:=by
 apply aXm;intro j;by_cases hj:j=i
 ·subst hj;rw[List.getElem?_set_self (aZa.1 h).1,h]
 ·rw[aZ0 (fun e=>hj e.symm)]
section
variable {w0 w w':We} {O:Nat→Prop} {b i s h:Nat} {R:List (Option bT)} {C:List Nd} {Ts Th Tr:Nat→Prop}
theorem Mi.mod0 (M:Mi w0 O b i R s h C Ts Th Tr w) (hm:Mod (fun _=>False) w w'):Mi w0 O b i R s h C Ts Th Tr w':=
 ⟨M.bf.mod0 hm,M.perm,fun j hj=>⟨(M.lt j hj).1,aZd (M.lt j hj).2 hm.size⟩,M.m.then0 hm⟩
theorem Mi.small (M:Mi w0 O b i R s h C Ts Th Tr w):C.length≤700000:=by
 have h1:=M.perm.length_eq;have h2:=yI (i:=i) (S:=bZ R);rw[bC]at h2;have:=M.bf.sat.len.2;omega
theorem Mi.ids (M:Mi w0 O b i R s h C Ts Th Tr w) (hi:i<R.length):∀z∈C,z.id≠idn i:=fun z hz=>by
 have:=M.bf.sat.len.2;exact pP (by rw[bC];omega) (M.perm.mem_iff.1 hz) (by rw[bC];exact hi)
theorem BC {wx:We} (HB:Bf w b s h R C Ts Th Tr) (hT:∀j,Ts j∨Th j∨Tr j∨j=b→(O j∨w0.heap.size≤j)∧j<w.heap.size) (m:Mod O w0 w) (hm:Mod (fun _=>False) w wx):
  Bf wx b s h R C Ts Th (fun j=>Tr j∨(w.heap.size≤j∧j<wx.heap.size))∧(∀j,Ts j∨Th j∨(Tr j∨(w.heap.size≤j∧j<wx.heap.size))∨j=b→(O j∨w0.heap.size≤j)∧j<wx.heap.size):=by
 have fu:=hm.size;have h0:=m.size;refine⟨(HB.mod0 hm).more (fun i h=> .inl h) (fun i hi e=> ?_) (fun i hi e=> ?_) (fun hi=> ?_),fun j hj=> ?_⟩
 ·rcases hi with hi|hi
  ·exact HB.drs i hi e
  ·have:=(hT i (.inl e)).2;omega
 ·rcases hi with hi|hi
  ·exact HB.drh i hi e
  ·have:=(hT i (.inr (.inl e))).2;omega
 ·rcases hi with hi|hi
  ·exact HB.db.2.2 hi
  ·have:=(hT b (.inr (.inr (.inr rfl)))).2;omega
 ·rcases hj with hj|hj|(hj|hj)|hj
  ·have:=hT j (.inl hj);exact⟨this.1,by omega⟩
  ·have:=hT j (.inr (.inl hj));exact⟨this.1,by omega⟩
  ·have:=hT j (.inr (.inr (.inl hj)));exact⟨this.1,by omega⟩
  ·exact⟨.inr (by omega),hj.2⟩
  ·have:=hT j (.inr (.inr (.inr hj)));exact⟨this.1,by omega⟩
theorem NE (HB:Bf w b s h R C Ts Th Tr) (af:C.Perm (fJ 0 (bZ R))) (hT:∀j,Ts j∨Th j∨Tr j∨j=b→(O j∨w0.heap.size≤j)∧j<w.heap.size) (m:Mod O w0 w) {y:bT} (hy:R[i]? =some (some y)) (hp:y.pl=0):
  Calls Tryz.prog 53 #[ptrV h,.int .i64 (i:Int)] w fun e w'=>e= .returned (.tuple #[.agg (rkc y.rk),.int .i64 0])∧∃C1,Mi w0 O b i R s h C1 Ts Th Tr w'∧Mod Th w w':=by
 have ag:=HB.sat.len.2;have jx:i<R.length:=(aZa.1 hy).1;have nk:(idn i).toInt=(i:Int):=bR (by omega);have hx:(bZ R)[i]? =some (some y.con):=by unfold bZ;rw[aZv,hy];rfl
 have iz:y.con.pl=0:=by show y.pl.toNat=0;rw[hp];rfl
 have Jm:=xP af hx iz;have hC:C.length≤700000:=by
  rw[af.length_eq];have:=nC (S:=bZ R) (k:=0);rw[bC]at this;omega
 have hc:=BL HB.hat (fun j hj=>(hT j (.inr (.inl hj))).2) (idn i) hC ⟨_,Jm,rfl⟩;rw[nk]at hc;refine hc.mono ?_;rintro e w' ⟨⟨z,hz,lz,he⟩,hA,hm⟩;have hzr:z.r=y.rk:=by
  have ct:(C.map Nd.id).Nodup:=HB.hat.ids;obtain⟨a,ha⟩:=aZ8.1 hz;obtain⟨c,ur⟩:=aZ8.1 Jm;have e1:(C.map Nd.id)[a]? =some (idn i):=by rw[aZv,ha];simp[lz]
  have e2:(C.map Nd.id)[c]? =some (idn i):=by rw[aZv,ur];rfl
  have:=(aWd (aZa.1 e1).1 ct).1 (e1.trans e2.symm);subst this;rw[ha]at ur;cases ur;rfl
 rw[hzr]at he;exact⟨he,_,⟨HB.stepH (fun j hj=>(hT j (by rcases hj with hj|hj|hj;exact .inl hj;exact .inr (.inr (.inl hj));exact .inr (.inr (.inr hj)))).2) hA hm (fun j hj=> .inl hj),nM (by rw[bC];omega) af hx iz,fun j hj=>⟨(hT j hj).1,aZd (hT j hj).2 hm.size⟩,m.then hm (fun j hj e=>(hT j (.inr (.inl e))).1.resolve_right (by omega))⟩,hm⟩
theorem NF (M:Mi w0 O b i R s h C Ts Th Tr w) {y:bT} (hy:R[i]? =some (some y)):Calls Tryz.prog 54 #[ptrV s,.int .i64 (i:Int)] w fun e w'=>e= .returned (.int .i64 0)∧Mi w0 O b i (R.set i none) s h C Ts Th Tr w'∧Mod Ts w w':=by
 refine(CO M.bf.sat hy).mono ?_;rintro e w' ⟨he,hs,hm⟩;refine⟨he,⟨M.bf.stepS hs hm (fun k y' ja=> ?_),?_,fun j hj=>⟨(M.lt j hj).1,aZd (M.lt j hj).2 hm.size⟩,M.m.then hm (fun j hj e=>(M.lt j (.inl e)).1.resolve_right (by omega))⟩,hm⟩
 ·by_cases hk:k=i
  ·subst hk;rw[List.getElem?_set_self (aZa.1 hy).1]at ja;cases ja
  ·rw[aZ0 (fun e=>hk e.symm)]at ja;exact .inl ja
 ·rw[l7,rW];exact M.perm
theorem I8 (M:Mi w0 O b i R s h C Ts Th Tr w) (ht:dP w) (hf:fL (bZ R) i) {y:bT} (ak:eL w y.r) (io:jR Tr y.r) (Wx:iU y.r.con):Calls Tryz.prog 49 #[ptrV s,.agg (dM y)] w fun e w'=>e= .returned (.tuple #[.int .i64 (i:Int),.int .i64 0])∧Mi w0 O b i (R.set i (some y)) s h C Ts Th Tr w'∧Mod Ts w w':=by
 refine(SG M.bf.sat ht hf.room y).mono ?_;rintro e w' ⟨n,hn,he,hs,hm⟩;obtain rfl:=hn.s.uniq hf;refine⟨he,⟨M.bf.stepS hs hm (fun k y' ja=> ?_),?_,fun j hj=>⟨(M.lt j hj).1,aZd (M.lt j hj).2 hm.size⟩,M.m.then hm (fun j hj e=>(M.lt j (.inl e)).1.resolve_right (by omega))⟩,hm⟩
 ·by_cases hk:k=n
  ·subst hk;rw[List.getElem?_set_self (aZa.1 hn.1).1]at ja;cases ja;exact .inr ⟨ak,io,Wx⟩
  ·rw[aZ0 (fun e=>hk e.symm)]at ja;exact .inl ja
 ·rw[pA,rW];exact M.perm
theorem B4 (M:Mi w0 O b i R s h C Ts Th Tr w) {y:bT} (hy:R[i]? =some (some y)) (hp:y.pl=0):Calls Tryz.prog 55 #[ptrV h,.agg (rkc y.rk),.int .i64 (i:Int)] w fun e w'=>e= .returned (.int .i64 0)∧(∃T',TO w0 O b (bZ R) T' w'∧∀j,T' j→(Ts j∨Th j∨Tr j∨j=b)∨w.heap.size≤j)∧Mod Th w w':=by
 have ag:=M.bf.sat.len.2;have jx:i<R.length:=(aZa.1 hy).1;have nk:(idn i).toInt=(i:Int):=bR (by omega);have hx:(bZ R)[i]? =some (some y.con):=by unfold bZ;rw[aZv,hy];rfl
 have hc:=vF M.bf.hat (fun j hj=>(M.lt j (.inr (.inl hj))).2) y.rk (idn i) M.small (M.ids jx);rw[nk]at hc;refine hc.mono ?_;rintro e w' ⟨he,T',hA,hm,hg,hl⟩;have oe:=oF (i:=i) (x:=y.con) M.perm (by rw[bC];exact jx) (by show y.pl.toNat=0;rw[hp];rfl);rw[SA hx]at oe;refine⟨he,⟨fun j=>Ts j∨T' j∨Tr j∨j=b,⟨s,h,R,C++[⟨y.rk,idn i⟩],Ts,T',Tr,M.bf.stepH (fun j hj=>(M.lt j (by rcases hj with hj|hj|hj;exact .inl hj;exact .inr (.inr (.inl hj));exact .inr (.inr (.inr hj)))).2) hA hm (fun j hj=>hg j hj),rfl,oe,fun j=>Iff.rfl,fun j hj=> ?_,M.m.then hm (fun j hj e=>(M.lt j (.inr (.inl e))).1.resolve_right (by omega))⟩,fun j hj=> ?_⟩,hm⟩
 rotate_left
 ·rcases hj with hj|hj|hj
  ·exact .inl (.inl hj)
  ·rcases hg j hj with h9|h9
   ·exact .inl (.inr (.inl h9))
   ·exact .inr h9
  ·exact .inl (.inr (.inr hj))
 have fu:=hm.size;have h0:=M.m.size;rcases hj with hj|hj|hj
 ·have:=M.lt j (.inl hj);exact⟨this.1,by omega⟩
 ·refine⟨?_,hl j hj⟩;rcases hg j hj with h9|h9
  ·exact(M.lt j (.inr (.inl h9))).1
  ·exact .inr (by omega)
 ·have:=M.lt j (.inr (.inr hj));exact⟨this.1,by omega⟩
end
end
section
theorem LC:Y3.size=2:=rfl
attribute [local go_sem↓] dE cD dD nB jX mX eG gM fY d9
attribute [local go_sem] aJ aC aO aL aQ aI aP Value.cells rkc_size dB bD bV cV iJ eP i7 fK eJ gP jK bE cB cC bI dZ eT LC
theorem nV {n:Wj} {x z:cT} {pl:Wk} {st:Bool} (h:b9 x=b9 z):dM ⟨n,x,pl,st⟩=dM ⟨n,z,pl,st⟩:=by
 have h1:=CN ⟨n,z,pl,st⟩ x;have h2:=CN ⟨n,z,pl,st⟩ z;rw[h]at h1;exact h1.symm.trans h2
theorem FV (a b:Rk) (w:We):Calls Tryz.prog 51 #[.agg (rkc a),.agg (rkc b)] w fun e w'=>∃v,e= .returned v∧v= .bool (gN a b)∧Mod (fun _=>False) w w':=
 (AV a b w).mono fun e w' h=>by
  obtain⟨h1,q,os,rfl⟩:=h;exact⟨_,h1,rfl,mG _ _ _⟩
section
variable {w0 w w' ws:We} {O:Nat→Prop} {b:Nat} {S:List (Option It)}
theorem PN (H:BH w0 O b S w) (h0:0<w0.heap.size∧¬O 0) (ht:dP w) {n:Nat} (hn:fL S n) {x:cT} (hx:eL w x) (hs:iU x.con) (num:Wj):
  Calls Tryz.prog 14 #[ptrV b,u64v num,.agg (b9 x)] w fun e w'=>e= .returned (.tuple #[.int .i64 (n:Int),.slice none 0 0,.int .i64 0])∧BH w0 O b (S.set n (some ⟨num,x.con,0,false⟩)) w':=by
 obtain⟨s,h,R,C,Ts,Th,Tr,HB,rfl,af,hT,m⟩:=H;have kb:=HB.kb;have HH:=Hi (Ai HB (Ai af (Ai hT (Ai m (Ai ht hn)))));have HX:=Hi (Ai hx hs);clear HB af hT m ht hn hx hs;go_enter Tryz.func14,Tryz.ntmps14;go_upto_region 0 with fail;have Lkb:=aA kb;refine ZP0 [3,0,0,0] ?_;refine Zb fun p5 ip=> ?_
 iterate 3 refine Zv ?_
 refine TD.nil (fun w1 hr=> ?_);have kb:=hr.mod.at kb (fun h=>h);obtain⟨gp5,kp5⟩:=hr.b p5;have m1:=hr.mod;clear hr;go_wp2_with fail;go_at_call 47;refine(bthere_c kb).mono ?_;rintro e w2 ⟨rfl,rfl⟩;go_upto_region 3 with fail;have Lkb:=aA kb;have Lkp5:=aA kp5;refine wp_gpass0 (T0:=fun _=>False) (K:=fun _ _=>True) (κ:=fun i=>[0,0,6,0,3,4].getD i 0) (υ:=fun _=>[]) [0,1,2,3,4,5] (by kernel_rfl) (by kernel_rfl) (aH.true).cl (trivial) (fun _ h=>h.elim) ?_;have gK:=aH.true;refine Zg ?_;refine Zh ?_;(refine ZJ (TA w.heap.size x.con) (jW w.heap.size x.con) gK ?_ (s:=fun T wq kq ltq ae ub=>by exact uK (x:=x) w.heap.size (m1.then0 ae).size T (HX.out.1.mod0 (m1.then0 ae)) HX.out.2);rintro v7 ⟨wI,TI,hI⟩;replace gK:=gK.and ((jW w.heap.size x.con) v7);(obtain⟨_,z0,rfl,_⟩:=hI.k);(try clear hI TI wI);try simp only[zL]);(refine TG.build (v:= ?v8) (ps:= ?p8) (by simp only[zK];rfl) rfl (by rfl) rfl ?Tt (fun w1=> ?y8) ?n8;(case Tt=>(simp only[aYr,aZo,aYo,zM];(try rfl)));(case y8=>(rw[(uC num z0)];(try with_reducible rfl)));try simp only[zL]);(refine TG.allocB (by simp only[zK];rfl) rfl (by rfl) rfl rfl eA (fun p9 qv _=> ?n9);try simp only[zL]);(refine TG.storeB (d:= ?d10) (T:= ?T10) (y:= ?y10) (p:= ?p10) (b:= ?b10) (v:= ?v10) (by simp only[zK];rfl) rfl (by rfl) ?Ip ?Be ?Ad ?Kt ?Ii ?vh (fun w1 dz=> ?Kw) ?vb;(case Ip=>rfl);(case Be=>rfl);(case Ad=>(simp only[zM];(try rfl)));(case Kt=>simp only[zM];try rfl);(case Ii=>first|exact Bx.set_same _ _ _|(simp only[Bx.set_same];rfl));(case vh=>exact⟨rfl,rfl⟩);(case Kw=>(go_simp;(try first|with_reducible rfl|(rw[setCell_blk dz];rfl))));try simp only[zL]);refine TG.nil (fun w3 ⟨TR,hr⟩=> ?_);have kb:=hr.mod.at kb (fun h=>h);have kp5:=hr.mod.at kp5 (fun h=>h);obtain⟨gp9,nTp9,kp9⟩:=hr.b p9;clear gK;obtain⟨_,z,hz,lv,il,lz⟩:=hr.k;injection hz with hz
 rw[nV hz]at kp9;have m3:=m1.then0 hr.mod;obtain⟨y,hy⟩:∃y:bT,y=⟨num,z,0,false⟩:=⟨_,rfl⟩;rw[←hy]at kp9;have gq9:w.heap.size≤p9:=aYb m1.size gp9;have HZ:=Hi (Ai hy (Ai lv (Ai il (Ai hz m3))));clear hr lv il lz hz hy kp5;have Fv:=BC (O:=O) HH.out.1 HH.out.2.2.1 HH.out.2.2.2.1 m3;have hM:Mi w0 O b n R s h C Ts Th (fun j=>Tr j∨(w.heap.size≤j∧j<w3.heap.size)) w3:=⟨Fv.1,(oC (by rw[bC];have:=HH.out.1.sat.len;omega) HH.out.2.1 HH.out.2.2.2.2.2.1 rfl).2,Fv.2,HH.out.2.2.2.1.then0 m3⟩;have hs9:¬Ts p9:=fun e=>by have:=(HH.out.2.2.1 p9 (.inl e)).2;omega
 have HM:=Hi (Ai hM hs9);clear hM Fv hs9 m3;go_upto_region 4 with fail;have Lkb:=aA kb;have Lkp9:=aA kp9;refine ZP [0,0,0,0,1,1,5,0,0,0,0,0] ?_
 iterate 6 first|refine Zv ?_|refine Zd ?_
 refine Zi fun w4 hr=> ?_;have kb:=hr.mod.at kb (fun h=>h);have kp9:=hr.mod.at kp9 (fun h=>h);have m4:=hr.mod;clear hr;have ao:=I8 (y:=y) (HM.out.1.mod0 m4) (HH.out.2.2.2.2.1.mod0 (HZ.out.2.2.2.2.then0 m4)) HH.out.2.2.2.2.2 (by rw[HZ.out.1];exact(HZ.out.2.2.1.mod0 m4).ok) (by rw[HZ.out.1];exact HZ.out.2.2.1.inn.mono (fun i hi=> .inr hi)) (by rw[HZ.out.1];show iU z.con;rw[HZ.out.2.1];exact HX.out.2);(refine bJ (by simp only[zK];rfl) (by rfl) ?y18 ao (fun wn hP=> ?n18);(case y18=>(go_simp;(try(first|with_reducible rfl|(constructor<;>with_reducible rfl)))));try simp only[zL]);refine Ze ?_;refine Ze ?_;refine Ze ?_;refine Ze ?_;refine Ze ?_;refine TE.nil ?_;obtain⟨Zs,m5⟩:=hP;have kb:=Zs.bf.kb;have kp9:=m5.at kp9 HM.out.2;have tm:=Hi (Ai Zs m5);clear ao Zs m5;go_upto_region 13 with fail;have Lkb:=aA kb;have Lkp9:=aA kp9;refine ZR (fun _ _ v=>v= .agg (rkc y.rk)) [0,0,0,0,1,1,2,0,5] ?_
 iterate 6 first|refine Zv ?_|refine Zd ?_
 (refine Zc ?_ (s:=by intro wq ae;exact(irank_c y wq).mono (fun e w' h=>⟨_,h.1,rfl,h.2⟩));rintro _ rfl;try simp only[zL]);refine Zv ?_;refine Zi fun w6 hr=> ?_;have kb:=hr.mod.at kb (fun h=>h);have kp9:=hr.mod.at kp9 (fun h=>h);have m6:=hr.mod;clear hr;have dp:=B4 (y:=y) (tm.out.1.mod0 m6) (List.getElem?_set_self (by have:=(aZa.1 HH.out.2.2.2.2.2.1).1;rw[bC]at this;exact this)) (by rw[HZ.out.1]);have hE:bZ (R.set n (some y))=(bZ R).set n (some ⟨num,x.con,0,false⟩):=by
  rw[pA,HZ.out.1,←HZ.out.2.1];rfl
 rw[hE]at dp;(refine bJ (by simp only[zK];rfl) (by rfl) ?y33 dp (fun wn hP=> ?n33);(case y33=>(go_simp;(try(first|with_reducible rfl|(constructor<;>with_reducible rfl)))));try simp only[zL]);refine TE.nil ?_;have HF:=Hi hP;clear hP dp hE;go_wp2_with fail;exact bodyPost_ret (results_tmp3 rfl _ _ _) rfl ⟨rfl,by obtain⟨T',h,_⟩:=HF.out.1;exact h.bh⟩
theorem nK {R:List (Option bT)}:(bZ R).countP Option.isSome=R.countP Option.isSome:=by
 unfold bZ;rw[List.countP_map];exact List.countP_congr (fun o _=>by cases o<;>simp)
theorem PL (H:BH w0 O b S w) (hf:S.countP Option.isSome=S.length) {D:List Nd} (hD:D.Perm (fJ 0 S)) (hS:nG D) {i:Nat} {x':It} (rj:S[i]? =some (some x')) (hl:D.getLast? =some ⟨x'.rk,idn i⟩) {x:cT} (hx:eL w x) (hs:iU x.con) (num:Wj) (hA:gN ⟨x.prio,num⟩ x'.rk=false):
  Calls Tryz.prog 14 #[ptrV b,u64v num,.agg (b9 x)] w fun e w'=>e= .returned (.tuple #[.int .i64 0,.slice none 0 0,.int .i64 3])∧Mod (fun _=>False) w w':=by
 obtain⟨s,h,R,C,Ts,Th,Tr,HB,rfl,af,hT,m⟩:=H;have kb:=HB.kb;rw[nK,bC]at hf;have jx:i<(bZ R).length:=(aZa.1 rj).1;have fy:=HB.sat.len;rw[bC]at jx;have dx:(idn i).toInt=(i:Int):=bR (by omega);have zx:∀wq,Mod (fun _=>False) w wq→Calls Tryz.prog 50 #[ptrV h] wq fun e w'=>e= .returned (.tuple #[.agg (rkc x'.rk),.int .i64 (i:Int),.bool true])∧Mod (fun _=>False) wq w':=fun wq hq=>by
  have hb:=GC (HB.mod0 hq).hat (hD.trans af.symm) hS;rw[hl]at hb;have hv:FJ (D2 (some ⟨x'.rk,idn i⟩))= .tuple #[.agg (rkc x'.rk),.int .i64 (i:Int),.bool true]:=by
   show FJ ⟨x'.rk,idn i,true⟩=_;unfold FJ;rw[dx]
  rw[hv]at hb;exact hb
 have Mq:=Hi zx;have HH:=Hi (Ai HB (Ai af (Ai hT (Ai m (Ai hf (Ai hf hA))))));have HX:=Hi (Ai hx hs);clear HB af hT m hx hs hf hD zx hS rj hl hA jx fy dx;go_enter Tryz.func14,Tryz.ntmps14;go_upto_region 0 with fail;have Lkb:=aA kb;refine ZP0 [3,0,0,0] ?_;refine Zb fun p5 ip=> ?_
 iterate 3 refine Zv ?_
 refine TD.nil (fun w1 hr=> ?_);have kb:=hr.mod.at kb (fun h=>h);obtain⟨gp5,kp5⟩:=hr.b p5;have m1:=hr.mod;clear hr;go_wp2_with fail;go_at_call 47;refine(bthere_c kb).mono ?_;rintro e w2 ⟨rfl,rfl⟩;go_upto_region 3 with fail;have Lkb:=aA kb;have Lkp5:=aA kp5;refine wp_gpass0 (T0:=fun _=>False) (K:=fun _ _=>True) (κ:=fun i=>[0,0,6,0,3,4].getD i 0) (υ:=fun _=>[]) [0,1,2,3,4,5] (by kernel_rfl) (by kernel_rfl) (aH.true).cl (trivial) (fun _ h=>h.elim) ?_;have gK:=aH.true;refine Zg ?_;refine Zh ?_;(refine ZJ (TA w.heap.size x.con) (jW w.heap.size x.con) gK ?_ (s:=fun T wq kq ltq ae ub=>by exact uK (x:=x) w.heap.size (m1.then0 ae).size T (HX.out.1.mod0 (m1.then0 ae)) HX.out.2);rintro v85 ⟨wI,TI,hI⟩;replace gK:=gK.and ((jW w.heap.size x.con) v85);(obtain⟨_,z0,rfl,_⟩:=hI.k);(try clear hI TI wI);try simp only[zL]);(refine TG.build (v:= ?v86) (ps:= ?p86) (by simp only[zK];rfl) rfl (by rfl) rfl ?hx86 (fun w1=> ?y86) ?n86;(case hx86=>(simp only[aYr,aZo,aYo,zM];(try rfl)));(case y86=>(rw[(uC num z0)];(try with_reducible rfl)));try simp only[zL]);(refine TG.allocB (by simp only[zK];rfl) rfl (by rfl) rfl rfl eA (fun p9 qv _=> ?n87);try simp only[zL]);(refine TG.storeB (d:= ?d88) (T:= ?T88) (y:= ?y88) (p:= ?p88) (b:= ?b88) (v:= ?v88) (by simp only[zK];rfl) rfl (by rfl) ?hd88 ?Rd ?Ph ?hx88 ?hb88 ?Ko (fun w1 dz=> ?hy88) ?hn88;(case hd88=>rfl);(case Rd=>rfl);(case Ph=>(simp only[zM];(try rfl)));(case hx88=>simp only[zM];try rfl);(case hb88=>first|exact Bx.set_same _ _ _|(simp only[Bx.set_same];rfl));(case Ko=>exact⟨rfl,rfl⟩);(case hy88=>(go_simp;(try first|with_reducible rfl|(rw[setCell_blk dz];rfl))));try simp only[zL]);refine TG.nil (fun w3 ⟨TR,hr⟩=> ?_);have kb:=hr.mod.at kb (fun h=>h);have kp5:=hr.mod.at kp5 (fun h=>h);obtain⟨gp9,nTp9,kp9⟩:=hr.b p9;clear gK;obtain⟨_,z,hz,lv,il,lz⟩:=hr.k;injection hz with hz
 rw[nV hz]at kp9;have m3:=m1.then0 hr.mod;obtain⟨y,hy⟩:∃y:bT,y=⟨num,z,0,false⟩:=⟨_,rfl⟩;rw[←hy]at kp9;have gq9:w.heap.size≤p9:=aYb m1.size gp9;have HZ:=Hi (Ai hy (Ai lv (Ai il (Ai hz m3))));clear hr lv il lz hz hy kp5;have Xd:=Hi (HH.out.1.mod0 HZ.out.2.2.2.2);go_upto_region 4 with fail;have Lkb:=aA kb;have Lkp9:=aA kp9;refine ZR (fun _ _ v=>v= .tuple #[.int .i64 0,.int .i64 3]) [0,0,0,0,1,1,2,0,0,0,0,0] ?_
 iterate 6 first|refine Zv ?_|refine Zd ?_
 (refine Zc ?_ (s:=by intro wq ae;exact(sputN_c (Xd.out.mod0 ae).sat HH.out.2.2.2.2.2.1 y).mono (fun e w' h=>⟨_,h.1,rfl,h.2⟩));rintro _ rfl;try simp only[zL])
 iterate 5 refine Zv ?_
 refine TD.nil (fun w4 hr=> ?_);have kb:=hr.mod.at kb (fun h=>h);have kp9:=hr.mod.at kp9 (fun h=>h);have m4:=m3.then0 hr.mod;have n4:=hr.mod;clear hr;go_upto_region 6 with fail;have Lkb:=aA kb;have Lkp9:=aA kp9;refine ZR0 (fun _ _ v=>v= .tuple #[.agg (rkc x'.rk),.int .i64 (i:Int),.bool true]) [0,0,0,0,1,2,0,0,0,0,3,4,0,0] ?_
 iterate 5 first|refine Zv ?_|refine Zd ?_
 (refine Zc ?_ (s:=by intro wq ae;exact(Mq.out wq (m4.then0 ae)).mono (fun e w' h=>⟨_,h.1,rfl,h.2⟩));rintro _ rfl;try simp only[zL])
 iterate 4 refine Zv ?_
 refine Za pZ fun p10 ph=> ?_;refine Zt ?_
 iterate 2 refine Zv ?_
 refine TD.nil (fun w5 hr=> ?_);have kb:=hr.mod.at kb (fun h=>h);have kp9:=hr.mod.at kp9 (fun h=>h);obtain⟨gp10,kp10⟩:=hr.b p10;have m5:=m4.then0 hr.mod;have n5:=n4.then0 hr.mod;have gq10:w.heap.size≤p10:=aYb m4.size gp10;clear hr;have Tx:y.rk=⟨x.prio,num⟩:=by
  rw[HZ.out.1];show(⟨z.prio,num⟩:Rk)=_
  have:z.con.prio=x.con.prio:=by rw[HZ.out.2.1]
  rw[show z.prio=x.prio from this]
 have HA:=Hi (show gN y.rk x'.rk=false by rw[Tx];exact HH.out.2.2.2.2.2.2);clear Tx;go_upto_region 7 with fail;have Lkp9:=aA kp9;have Lkp10:=aA kp10;refine bL (T0:=fun _=>False) (K:=fun _ _=>True) (κ:=fun i=>[0,0,0,0,6,0,6,0,0].getD i 0) (υ:=fun _=>[]) [0,1,2,3,4,5,6,7,8] (by kernel_rfl) (by kernel_rfl) (aH.true).cl (trivial) (fun _ h=>h.elim) ?_;have gK:=aH.true
 iterate 3 refine Zg ?_
 refine Zh ?_;(refine ZG (fun v=>v= .agg (rkc y.rk)) gK ?_ (s:=fun T wq kq ltq ae ub=>by exact(irank_c y wq).mono (fun e w' h=>⟨_,h.1,rfl,h.2⟩));rintro v119 hC;subst hC;try simp only[zL]);refine Zh ?_;(refine ZG (fun v=>v= .bool false) gK ?_ (s:=fun T wq kq ltq ae ub=>by exact(FV y.rk x'.rk wq).mono (fun e w' h=>by obtain⟨v,h1,h2,h3⟩:=h;rw[HA.out]at h2;exact⟨v,h1,h2,h3⟩));rintro v121 hC;subst hC;try simp only[zL])
 iterate 2 refine Zg ?_
 refine TG.nil (fun w6 ⟨TR,hr⟩=> ?_);have kp9:=hr.mod.at kp9 (fun h=>h);have kp10:=hr.mod.at kp10 (fun h=>h);clear gK;have m6:=m5.then0 hr.mod;clear hr;go_wp2_with fail;exact bodyPost_ret (results_tmp3 rfl _ _ _) rfl ⟨rfl,m6⟩
end
end
section
theorem YR (r:Rk):(rkc r)[1]? =some (u64v r.n):=rfl
attribute [local go_sem↓] dE cD dD nB jX mX eG gM fY d9
attribute [local go_sem] aJ aC aO aL aQ aI aP Value.cells rkc_size dB bD bV cV iJ eP i7 fK eJ gP jK bE cB cC bI dZ eT LC YR
def nc (n:Wj):Wa:= #[u64v n]
theorem YZ:oM Tryz.prog 67 23 nc 1 8 where
 u:=Tryz.underlying67
 info:=by
  obtain⟨i0,hi,cy,bj,bp⟩:=info_parts (show(Tryz.prog.info? 23).map (fun i=>(i.zero,i.size,i.bytes))=some (some (.int .u64 0),1,8)by kernel_rfl);exact⟨i0,_,hi,cy,bj,bp,rfl⟩
 pos:=by omega
 size x:=rfl
 one x u hu:=by
  simp[nc]at hu;subst hu;rfl
theorem US (x:Wj) (w:We):(Instr.buildSlice 67 1 #[(0,u64v x)]).run Tryz.prog w= .ok (.slice (some ⟨w.heap.size,0,none⟩) 1 1) (w.alloc (.cells (nc x) 23)):=by
 obtain⟨i0,z,hi,hz,bj,bp,yj⟩:=YZ.info;refine run_buildSlice w _ _ 1 _ _ i0 _ Tryz.underlying67 hi hz (by rw[bj];omega) (by rw[bj];omega) ?_;rw[bj];show Instr.fill _ _ [(0,_)]=_;rw[cZ (off:=0) (n:=1) rfl rfl (by simp)];show some (wr _ 0 (nc x).toList)=_;rw[fI (nc x) _ (by simp[nc,yj])]
theorem D5 {S:List (Option It)} {i:Nat} (hf:S.countP Option.isSome=S.length) (hi:i<S.length):fL (S.set i none) i:=by
 refine⟨List.getElem?_set_self hi,fun j hj=> ?_⟩;rw[aZ0 (by omega)];have h1:=List.countP_eq_length.1 hf;have Ja:j<S.length:=by omega
 have h2:=h1 S[j] (aXt Ja);have h3:=aZb Ja;cases hc:S[j]with
 |none=>rw[hc]at h2;cases h2
 |some y=>rw[hc]at h3;exact⟨y,h3⟩
section
variable {w0 w w' ws:We} {O:Nat→Prop} {b:Nat} {S:List (Option It)}
theorem PM (H:BH w0 O b S w) (h0:0<w0.heap.size∧¬O 0) (ht:dP w) (hf:S.countP Option.isSome=S.length) {D:List Nd} (hD:D.Perm (fJ 0 S)) (hS:nG D) {i:Nat} {x':It} (rj:S[i]? =some (some x')) (qt:x'.pl=0) (hl:D.getLast? =some ⟨x'.rk,idn i⟩) {x:cT} (hx:eL w x) (hs:iU x.con) (num:Wj) (hA:gN ⟨x.prio,num⟩ x'.rk=true):
  Calls Tryz.prog 14 #[ptrV b,u64v num,.agg (b9 x)] w fun e w'=>∃v,e= .returned (.tuple #[.int .i64 (i:Int),v,.int .i64 0])∧aZ nc 1 23 w.heap.size w' v [x'.n]∧∃T',TO w0 O b (S.set i (some ⟨num,x.con,0,false⟩)) T' w'∧∀g,v.ownBlock=some g→¬T' g:=by
 obtain⟨s,h,R,C,Ts,Th,Tr,HB,rfl,af,hT,m⟩:=H;have kb:=HB.kb;rw[nK,bC]at hf;have jx:i<(bZ R).length:=(aZa.1 rj).1;have fy:=HB.sat.len;rw[bC]at jx;have dx:(idn i).toInt=(i:Int):=bR (by omega);have zx:∀wq,Mod (fun _=>False) w wq→Calls Tryz.prog 50 #[ptrV h] wq fun e w'=>e= .returned (.tuple #[.agg (rkc x'.rk),.int .i64 (i:Int),.bool true])∧Mod (fun _=>False) wq w':=fun wq hq=>by
  have hb:=GC (HB.mod0 hq).hat (hD.trans af.symm) hS;rw[hl]at hb;have hv:FJ (D2 (some ⟨x'.rk,idn i⟩))= .tuple #[.agg (rkc x'.rk),.int .i64 (i:Int),.bool true]:=by
   show FJ ⟨x'.rk,idn i,true⟩=_;unfold FJ;rw[dx]
  rw[hv]at hb;exact hb
 have Mq:=Hi zx;obtain⟨y',ja,hyc⟩:=qG rj;have ce:y'.pl=0:=UInt8.toNat_inj.1 (by rw[←hyc]at qt;exact qt);have hff:fL (bZ (R.set i none)) i:=by rw[l7];exact D5 (by rw[nK,bC];exact hf) (by rw[bC];exact jx)
 have Ty:y'.rk=x'.rk:=by rw[←hyc];rfl
 have HH:=Hi (Ai HB (Ai af (Ai hT (Ai m (Ai hf (Ai hf hA))))));have HX:=Hi (Ai hx hs);have HY:=Hi (Ai ja (Ai ce (Ai hff (Ai jx (Ai Ty (Ai h0 ht))))));clear HB af hT m hx hs hf hD zx hS rj hl hA jx fy dx ja hyc qt ce hff Ty h0 ht;go_enter Tryz.func14,Tryz.ntmps14;go_upto_region 0 with fail;have Lkb:=aA kb;refine ZP0 [3,0,0,0] ?_;refine Zb fun p5 ip=> ?_
 iterate 3 refine Zv ?_
 refine TD.nil (fun w1 hr=> ?_);have kb:=hr.mod.at kb (fun h=>h);obtain⟨gp5,kp5⟩:=hr.b p5;have m1:=hr.mod;clear hr;go_wp2_with fail;go_at_call 47;refine(bthere_c kb).mono ?_;rintro e w2 ⟨rfl,rfl⟩;go_upto_region 3 with fail;have Lkb:=aA kb;have Lkp5:=aA kp5;refine wp_gpass0 (T0:=fun _=>False) (K:=fun _ _=>True) (κ:=fun i=>[0,0,6,0,3,4].getD i 0) (υ:=fun _=>[]) [0,1,2,3,4,5] (by kernel_rfl) (by kernel_rfl) (aH.true).cl (trivial) (fun _ h=>h.elim) ?_;have gK:=aH.true;refine Zg ?_;refine Zh ?_;(refine ZJ (TA w.heap.size x.con) (jW w.heap.size x.con) gK ?_ (s:=fun T wq kq ltq ae ub=>by exact uK (x:=x) w.heap.size (m1.then0 ae).size T (HX.out.1.mod0 (m1.then0 ae)) HX.out.2);rintro v7 ⟨wI,TI,hI⟩;replace gK:=gK.and ((jW w.heap.size x.con) v7);(obtain⟨_,z0,rfl,_⟩:=hI.k);(try clear hI TI wI);try simp only[zL]);(refine TG.build (v:= ?v8) (ps:= ?p8) (by simp only[zK];rfl) rfl (by rfl) rfl ?Tt (fun w1=> ?y8) ?n8;(case Tt=>(simp only[aYr,aZo,aYo,zM];(try rfl)));(case y8=>(rw[(uC num z0)];(try with_reducible rfl)));try simp only[zL]);(refine TG.allocB (by simp only[zK];rfl) rfl (by rfl) rfl rfl eA (fun p9 qv _=> ?n9);try simp only[zL]);(refine TG.storeB (d:= ?d10) (T:= ?T10) (y:= ?y10) (p:= ?p10) (b:= ?b10) (v:= ?v10) (by simp only[zK];rfl) rfl (by rfl) ?Ip ?Be ?Ad ?Kt ?Ii ?vh (fun w1 dz=> ?Kw) ?vb;(case Ip=>rfl);(case Be=>rfl);(case Ad=>(simp only[zM];(try rfl)));(case Kt=>simp only[zM];try rfl);(case Ii=>first|exact Bx.set_same _ _ _|(simp only[Bx.set_same];rfl));(case vh=>exact⟨rfl,rfl⟩);(case Kw=>(go_simp;(try first|with_reducible rfl|(rw[setCell_blk dz];rfl))));try simp only[zL]);refine TG.nil (fun w3 ⟨TR,hr⟩=> ?_);have kb:=hr.mod.at kb (fun h=>h);have kp5:=hr.mod.at kp5 (fun h=>h);obtain⟨gp9,nTp9,kp9⟩:=hr.b p9;clear gK;obtain⟨_,z,hz,lv,il,lz⟩:=hr.k;injection hz with hz
 rw[nV hz]at kp9;have m3:=m1.then0 hr.mod;obtain⟨y,hy⟩:∃y:bT,y=⟨num,z,0,false⟩:=⟨_,rfl⟩;rw[←hy]at kp9;have gq9:w.heap.size≤p9:=aYb m1.size gp9;have HZ:=Hi (Ai hy (Ai lv (Ai il (Ai hz m3))));clear hr lv il lz hz hy kp5;have Xd:=Hi (HH.out.1.mod0 HZ.out.2.2.2.2);go_upto_region 4 with fail;have Lkb:=aA kb;have Lkp9:=aA kp9;refine ZR (fun _ _ v=>v= .tuple #[.int .i64 0,.int .i64 3]) [0,0,0,0,1,1,2,0,0,0,0,0] ?_
 iterate 6 first|refine Zv ?_|refine Zd ?_
 (refine Zc ?_ (s:=by intro wq ae;exact(sputN_c (Xd.out.mod0 ae).sat HH.out.2.2.2.2.2.1 y).mono (fun e w' h=>⟨_,h.1,rfl,h.2⟩));rintro _ rfl;try simp only[zL])
 iterate 5 refine Zv ?_
 refine TD.nil (fun w4 hr=> ?_);have kb:=hr.mod.at kb (fun h=>h);have kp9:=hr.mod.at kp9 (fun h=>h);have m4:=m3.then0 hr.mod;have n4:=hr.mod;clear hr;go_upto_region 6 with fail;have Lkb:=aA kb;have Lkp9:=aA kp9;refine ZR0 (fun _ _ v=>v= .tuple #[.agg (rkc x'.rk),.int .i64 (i:Int),.bool true]) [0,0,0,0,1,2,0,0,0,0,3,4,0,0] ?_
 iterate 5 first|refine Zv ?_|refine Zd ?_
 (refine Zc ?_ (s:=by intro wq ae;exact(Mq.out wq (m4.then0 ae)).mono (fun e w' h=>⟨_,h.1,rfl,h.2⟩));rintro _ rfl;try simp only[zL])
 iterate 4 refine Zv ?_
 refine Za pZ fun p10 ph=> ?_;refine Zt ?_
 iterate 2 refine Zv ?_
 refine TD.nil (fun w5 hr=> ?_);have kb:=hr.mod.at kb (fun h=>h);have kp9:=hr.mod.at kp9 (fun h=>h);obtain⟨gp10,kp10⟩:=hr.b p10;have m5:=m4.then0 hr.mod;have n5:=n4.then0 hr.mod;have gq10:w.heap.size≤p10:=aYb m4.size gp10;clear hr;have Tx:y.rk=⟨x.prio,num⟩:=by
  rw[HZ.out.1];show(⟨z.prio,num⟩:Rk)=_
  have:z.con.prio=x.con.prio:=by rw[HZ.out.2.1]
  rw[show z.prio=x.prio from this]
 have HA:=Hi (show gN y.rk x'.rk=true by rw[Tx];exact HH.out.2.2.2.2.2.2);clear Tx;go_upto_region 7 with fail;have Lkp9:=aA kp9;have Lkp10:=aA kp10;have Lkb:=aA kb;refine bL (T0:=fun _=>False) (K:=fun _ _=>True) (κ:=fun i=>[0,0,0,0,6,0,6,0,0].getD i 0) (υ:=fun _=>[]) [0,1,2,3,4,5,6,7,8] (by kernel_rfl) (by kernel_rfl) (aH.true).cl (trivial) (fun _ h=>h.elim) ?_;have gK:=aH.true
 iterate 3 refine Zg ?_
 refine Zh ?_;(refine ZG (fun v=>v= .agg (rkc y.rk)) gK ?_ (s:=fun T wq kq ltq ae ub=>by exact(irank_c y wq).mono (fun e w' h=>⟨_,h.1,rfl,h.2⟩));rintro v41 hC;subst hC;try simp only[zL]);refine Zh ?_;(refine ZG (fun v=>v= .bool true) gK ?_ (s:=fun T wq kq ltq ae ub=>by exact(FV y.rk x'.rk wq).mono (fun e w' h=>by obtain⟨v,h1,h2,h3⟩:=h;rw[HA.out]at h2;exact⟨v,h1,h2,h3⟩));rintro v43 hC;subst hC;try simp only[zL])
 iterate 2 refine Zg ?_
 refine TG.nil (fun w6 ⟨TR,hr⟩=> ?_);have kp9:=hr.mod.at kp9 (fun h=>h);have kp10:=hr.mod.at kp10 (fun h=>h);have kb:=hr.mod.at kb (fun h=>h);clear gK;have m6:=m5.then0 hr.mod;have n6:=n5.then0 hr.mod;clear hr;have zp:=US x'.rk.n;go_upto_region 9 with fail;have Lkb:=aA kb;have Lkp9:=aA kp9;have Lkp10:=aA kp10;refine ZP0 [0,1,3,0] ?_;refine Zv ?_;refine Zd ?_;refine Zy zp fun p53 hp53=> ?_;refine Zv ?_;refine TD.nil (fun w7 hr=> ?_);have kb:=hr.mod.at kb (fun h=>h);have kp9:=hr.mod.at kp9 (fun h=>h);have kp10:=hr.mod.at kp10 (fun h=>h);obtain⟨gp53,kp53⟩:=hr.b p53;have m7:=m6.then0 hr.mod;have n7:=n6.then0 hr.mod;have gq53:w.heap.size≤p53:=aYb m6.size gp53;clear hr zp;have Dl:=BC (O:=O) HH.out.1 HH.out.2.2.1 HH.out.2.2.2.1 HZ.out.2.2.2.2;obtain⟨Tq,Fy⟩:∃Tq:Nat→Prop,Tq=(fun j=>Tr j∨(w.heap.size≤j∧j<w3.heap.size)):=⟨_,rfl⟩;rw[←Fy]at Dl;have Fv:Bf w7 b s h R C Ts Th Tq∧(∀j,Ts j∨Th j∨Tq j∨j=b→(O j∨w0.heap.size≤j)∧j<w7.heap.size):=⟨Dl.1.mod0 n7,fun j hj=>by
  have h9:=Dl.2 j (by rw[Fy]at hj;exact hj);exact⟨h9.1,aZd h9.2 n7.size⟩⟩
 have Uc:jR Tq z:=by rw[Fy];exact HZ.out.2.2.1.inn.mono (fun i hi=> .inr hi)
 have Rv:¬Tq p53:=fun e=>by rw[Fy]at e;have h3:=HZ.out.2.2.2.2.size;have h5:=n6.size;have h6:=gp53;rcases e with e|e;have:=(HH.out.2.2.1 p53 (.inr (.inr (.inl e)))).2;omega;omega
 have zp:b≠p53:=fun e=>by have:=(HH.out.2.2.1 b (.inr (.inr (.inr rfl)))).2;omega
 have nz:∀q,w.heap.size≤q→¬Ts q∧¬Th q:=fun q hq=>⟨fun e=>by have:=(HH.out.2.2.1 q (.inl e)).2;omega,fun e=>by have:=(HH.out.2.2.1 q (.inr (.inl e))).2;omega⟩;have H9:=nz p9 gq9;have H53:=nz p53 gq53;have Nh:Hid (¬Ts 0∧¬Th 0):=Hi ⟨fun e=>by have h1:=(Fv.2 0 (.inl e)).1;rcases h1 with h1|h1;exact HY.out.2.2.2.2.2.1.2 h1;have:=HY.out.2.2.2.2.2.1.1;omega,fun e=>by have h1:=(Fv.2 0 (.inr (.inl e))).1;rcases h1 with h1|h1;exact HY.out.2.2.2.2.2.1.2 h1;have:=HY.out.2.2.2.2.2.1.1;omega⟩;have HN:=Hi (Ai H9 (Ai H53 (Ai m7 n7)));have HQ:=Hi (Ai Uc (Ai Rv (Ai zp Fv)));clear Uc Rv zp Dl Fy;clear Fv nz H9 H53 m7 m6 m5 m4 m3 m1 n4 n5 n6 n7 kp10;go_upto_region 10 with fail;have Lkb:=aA kb;have Lkp9:=aA kp9;have Lkp53:=aA kp53;refine ZP0 [0,0,0,0,1,0,5] ?_
 iterate 6 first|refine Zv ?_|refine Zd ?_
 refine Zi fun w8 hr=> ?_;have kb:=hr.mod.at kb (fun h=>h);have kp9:=hr.mod.at kp9 (fun h=>h);have kp53:=hr.mod.at kp53 (fun h=>h);have m8:=hr.mod;clear hr;have Ac:=NE (w0:=w0) (O:=O) (i:=i) (HQ.out.2.2.2.1.mod0 m8) HH.out.2.1 (fun j hj=>⟨(HQ.out.2.2.2.2 j hj).1,aZd (HQ.out.2.2.2.2 j hj).2 m8.size⟩) (HH.out.2.2.2.1.then0 (HN.out.2.2.1.then0 m8)) HY.out.1 HY.out.2.1;(refine bJ (by simp only[zK];rfl) (by rfl) ?y57 Ac (fun wn hP=> ?n57);(case y57=>(go_simp;(try(first|with_reducible rfl|(constructor<;>with_reducible rfl)))));try simp only[zL]);refine TE.nil ?_;obtain⟨C1,Fu,m9⟩:=hP;have kb:=Fu.bf.kb;have kp9:=m9.at kp9 HN.out.1.2;have kp53:=m9.at kp53 HN.out.2.1.2;have Ba:dS w.heap.size w8 z:=HZ.out.2.2.1.mod0 (HN.out.2.2.2.then0 m8);have Uc:=HQ.out.1;have nz:∀q,w.heap.size≤q→¬Ts q∧¬Th q:=fun q hq=>⟨fun e=>by have:=(HH.out.2.2.1 q (.inl e)).2;omega,fun e=>by have:=(HH.out.2.2.1 q (.inr (.inl e))).2;omega⟩;have HLO:=Hi nz;have Ye:=Hi (Ai (Ba.mod m9 Ba.inn (fun i hi=>(nz i hi.1).2)) (Ai Uc (((HY.out.2.2.2.2.2.2.mod0 HN.out.2.2.1).mod0 m8).mod m9 Nh.out.2)));have Xu:=Hi Fu;clear Ac Fu m9 m8 Ba Uc nz;go_upto_region 11 with fail;have Lkb:=aA kb;have Lkp9:=aA kp9;have Lkp53:=aA kp53;refine ZP0 [0,0,0,0,1,0,5] ?_
 iterate 6 first|refine Zv ?_|refine Zd ?_
 refine Zi fun w10 hr=> ?_;have kb:=hr.mod.at kb (fun h=>h);have kp9:=hr.mod.at kp9 (fun h=>h);have kp53:=hr.mod.at kp53 (fun h=>h);have m10:=hr.mod;clear hr;have gh:=NF (Xu.out.mod0 m10) HY.out.1;(refine bJ (by simp only[zK];rfl) (by rfl) ?y65 gh (fun wn hP=> ?n65);(case y65=>(go_simp;(try(first|with_reducible rfl|(constructor<;>with_reducible rfl)))));try simp only[zL]);refine TE.nil ?_;obtain⟨zh,m11⟩:=hP;have kb:=zh.bf.kb;have kp9:=m11.at kp9 HN.out.1.1;have kp53:=m11.at kp53 HN.out.2.1.1;have vb:=Ye.out.1.mod0 m10;have Hv:=Hi (Ai (vb.mod m11 vb.inn (fun i hi=>(HLO.out i hi.1).1)) (Ai Ye.out.2.1 ((Ye.out.2.2.mod0 m10).mod m11 Nh.out.1)));have Xr:=Hi zh;clear gh zh m11 m10 vb;go_upto_region 12 with fail;have Lkb:=aA kb;have Lkp9:=aA kp9;have Lkp53:=aA kp53;refine ZP [0,0,0,0,1,1,5,0,0,0,0,0] ?_
 iterate 6 first|refine Zv ?_|refine Zd ?_
 refine Zi fun w12 hr=> ?_;have kb:=hr.mod.at kb (fun h=>h);have kp9:=hr.mod.at kp9 (fun h=>h);have kp53:=hr.mod.at kp53 (fun h=>h);have m12:=hr.mod;clear hr;have pi:=I8 (y:=y) (Xr.out.mod0 m12) (Hv.out.2.2.mod0 m12) HY.out.2.2.1 (by rw[HZ.out.1];exact(Hv.out.1.mod0 m12).ok) (by rw[HZ.out.1];exact Hv.out.2.1) (by rw[HZ.out.1];show iU z.con;rw[HZ.out.2.1];exact HX.out.2);(refine bJ (by simp only[zK];rfl) (by rfl) ?y73 pi (fun wn hP=> ?n73);(case y73=>(go_simp;(try(first|with_reducible rfl|(constructor<;>with_reducible rfl)))));try simp only[zL]);refine Ze ?_;refine Ze ?_;refine Ze ?_;refine Ze ?_;refine Ze ?_;refine TE.nil ?_;obtain⟨zi,m13⟩:=hP;have kb:=zi.bf.kb;have kp9:=m13.at kp9 HN.out.1.1;have kp53:=m13.at kp53 HN.out.2.1.1;have Xt:=Hi zi;clear pi zi m13 m12;go_upto_region 13 with fail;have Lkb:=aA kb;have Lkp9:=aA kp9;have Lkp53:=aA kp53;refine ZR (fun _ _ v=>v= .agg (rkc y.rk)) [0,0,0,0,1,1,2,0,5] ?_
 iterate 6 first|refine Zv ?_|refine Zd ?_
 (refine Zc ?_ (s:=by intro wq ae;exact(irank_c y wq).mono (fun e w' h=>⟨_,h.1,rfl,h.2⟩));rintro _ rfl;try simp only[zL]);refine Zv ?_;refine Zi fun w14 hr=> ?_;have kb:=hr.mod.at kb (fun h=>h);have kp9:=hr.mod.at kp9 (fun h=>h);have kp53:=hr.mod.at kp53 (fun h=>h);have m14:=hr.mod;clear hr;have dp:=B4 (y:=y) (Xt.out.mod0 m14) (List.getElem?_set_self (by rw[aZn];exact HY.out.2.2.2.1)) (by rw[HZ.out.1]);have hE:bZ ((R.set i none).set i (some y))=(bZ R).set i (some ⟨num,x.con,0,false⟩):=by
  rw[pA,l7,List.set_set,HZ.out.1,←HZ.out.2.1];rfl
 rw[hE]at dp;have Gg:=aA kp53;(refine bJ (by simp only[zK];rfl) (by rfl) ?y88 dp (fun wn hP=> ?n88);(case y88=>(go_simp;(try(first|with_reducible rfl|(constructor<;>with_reducible rfl)))));try simp only[zL]);refine TE.nil ?_;have kp53:=hP.2.at kp53 HN.out.2.1.2;have jh:=Hi Gg;clear Gg;have HF:=Hi hP;clear hP dp hE;go_wp2_with fail;refine bodyPost_ret (results_tmp3 rfl _ _ _) rfl ⟨_,rfl,.inr ⟨p53,nc x'.rk.n,rfl,gq53,kp53,fun j n hj=> ?_⟩,HF.out.1.choose,HF.out.1.choose_spec.1,fun g hg e=> ?_⟩
 rotate_left
 ·have Vu:p53=g:=aZz hg;subst Vu;rcases HF.out.1.choose_spec.2 _ e with(h|h|h|h)|h
  ·exact HN.out.2.1.1 h
  ·exact HN.out.2.1.2 h
  ·exact HQ.out.2.1 h
  ·exact HQ.out.2.2.1 h.symm
  ·have:=jh.out;omega
 match j,hj with
 |0,hj=>cases hj;exact⟨rfl,aZq 1⟩
end
end
section
attribute [local go_sem↓] gJ f9 gG
attribute [local go_sem] aJ aC eB aO aL aQ aI aP dR cW kc_size bH Value.cells
theorem Goes.trans {K K1:aK} {T T1:Nat→Prop} {w w1 w2:We} (hm:Mod T w w1) (hT:∀a,T1 a→T a∨(w.heap.size≤a∧a<w1.heap.size)) (h:Goes K T1 w1 w2):Goes K T w w2:=by
 obtain⟨T2,k1,k2,k3⟩:=h;refine⟨T2,k1,hm.then k2 (fun a hlt ha=>(hT a ha).resolve_right (by omega)),fun a ha=> ?_⟩;have h1:=hm.size;have h2:=k2.size;rcases k3 a ha with h|h
 ·rcases hT a h with h|h
  ·exact .inl h
  ·exact .inr ⟨h.1,by omega⟩
 ·exact .inr ⟨by omega,h.2⟩
theorem Goes.tr {K K1:aK} {T:Nat→Prop} {w w1 w2:We} (h1:Goes K1 T w w1) (h2:∀T1,K1 T1 w1→(∀a,T1 a→T a∨(w.heap.size≤a∧a<w1.heap.size))→Goes K T1 w1 w2):Goes K T w w2:=by
 obtain⟨T1,k1,k2,k3⟩:=h1;exact Goes.trans (K1:=K1) k2 k3 (h2 T1 k1 k3)
theorem Goes.grow {K:aK} {T:Nat→Prop} {w w':We} (h:K (Grow T w w') w') (hm:Mod T w w'):Goes K T w w':=⟨_,h,hm,fun _ h=>h⟩
theorem Goes.into {K:aK} {T:Nat→Prop} {w w':We} (h:K T w') (hm:Mod T w w'):Goes K T w w':=⟨_,h,hm,fun _ h=> .inl h⟩
theorem bW.callW {P:Wl} {f:Wn} {args:Wa} {Ks:List aK} {T:Nat→Prop} {w:We} {R:Ending→We→Prop} (hG:∀K∈Ks,aH K) (hT:∀a,T a→a<w.heap.size) (hS:bW Ks T w) {i:Nat} {K K':aK} (hi:Ks[i]? =some K)
  (hc:∀T',(∀a,T' a→a<w.heap.size)→K T' w→Calls P f args w fun e w'=>R e w'∧Goes K' T' w w'):
  Calls P f args w fun e w'=>R e w'∧Goes (bW (Ks.set i K')) T w w':=by
 obtain⟨Ts,h1,h2,h3⟩:=hS;refine(hc (Ts i) (fun a ha=>hT a (h2 i a ha)) (h1 i K hi)).mono ?_;rintro e w' ⟨hR,hg⟩;obtain⟨k1,k2⟩:=bW.step hG hT (aZa.1 hi).1 h1 h2 h3 hg;exact⟨hR,_,k1,k2,fun _ h=>h⟩
def fO (t n:Nat) (L:List Lk):aK:=fun T w=>∃hb wb,fD w t hb wb n L∧T t∧T hb∧T wb
theorem fO.good (t n:Nat) (L:List Lk):aH (fO t n L) where
 cl:=by
  rintro T w w' ⟨hb,wb,⟨h1,kt,eh,ch,ew,cw,mh,mw,kh,Mh,kw,Mw,I⟩,t1,t2,t3⟩ hm;exact⟨hb,wb,⟨h1,hm.at kt (fun e=>e t1),eh,ch,ew,cw,mh,mw,hm.at kh (fun e=>e t2),Mh,hm.at kw (fun e=>e t3),Mw,I⟩,t1,t2,t3⟩
 gr:=fun T T' w hT ⟨hb,wb,h,t1,t2,t3⟩=>⟨hb,wb,h,hT _ t1,hT _ t2,hT _ t3⟩
theorem fO.take {T:Nat→Prop} {t n:Nat} {L:List Lk} {w:We} (h:fO t n L T w) (a:Wb) (l:List aT) (c:Nat) (i:Fin 64) (hn:1≤n) (dy:n≤64) (hl:aV w a l) (ag:L.length+l.length≤1000000) (hi:i.val<n) (hf:iF L l i.val=true):
  Calls Tryz.prog 115 #[ptrV t,.slice a l.length c,.int .i64 (i.val:Int)] w fun e w'=>e= .returned (.int .i64 0)∧Goes (fO t n (addL L l i)) T w w':=by
 obtain⟨hb,wb,h,t1,t2,t3⟩:=h;refine(SN t hb wb n L a l c i w h hn dy hl ag hi (sZ.1 hf)).mono ?_;rintro e w' ⟨rfl,h2,hm⟩;exact⟨rfl,Goes.into ⟨hb,wb,h2,t1,t2,t3⟩ (hm.mono (fun a _ ha=>by rcases ha with rfl|rfl<;>assumption))⟩
theorem fO.threads {T:Nat→Prop} {t n:Nat} {L:List Lk} {w:We} (h:fO t n L T w) (a:Wb) (l:List aT) (c:Nat) (hn:1≤n) (dy:n≤64) (hl:aV w a l) (ag:l.length≤1000000):
  Calls Tryz.prog 112 #[ptrV t,.slice a l.length c] w fun e w'=>e= .returned (.int .u64 (eC (iF L l) n:Nat))∧Mod (fun _=>False) w w':=by
 obtain⟨hb,wb,h,_⟩:=h;exact E9 t hb wb n L a l c w h hn dy hl ag
def iT (p:Nat) (m:List (aN×Bool)):aK:=fun T w=>∃b,oL w p b m∧T p∧T b
theorem iT.good (p:Nat) (m:List (aN×Bool)):aH (iT p m) where
 cl:=fun T w w' ⟨b,h,t1,t2⟩ hm=>⟨b,h.out hm (fun e=>e t1) (fun e=>e t2),t1,t2⟩
 gr:=fun T T' w hT ⟨b,h,t1,t2⟩=>⟨b,h,hT _ t1,hT _ t2⟩
theorem FT (m:List (aN×Bool)) (l k:List aT):addB (addB m l) k=addB m (l++k):=by simp[addB,aXl]
theorem iT.hits {T:Nat→Prop} {p:Nat} {al:List aT} {w:We} (h:iT p (addB [] al) T w) (a:Wb) (l:List aT) (c:Nat) (hl:aV w a l) (ag:l.length≤1000000):
  Calls Tryz.prog 111 #[ptrV p,.slice a l.length c] w fun e w'=>e= .returned (.bool (l8 al l))∧Mod (fun _=>False) w w':=by
 obtain⟨b,h,_⟩:=h;have hb:=(oT.addB oT.nil al).hits l;rw[aYq]at hb;rw[←hb];exact QP p b _ a l c w h hl ag
theorem iT.add {T:Nat→Prop} {p:Nat} {al:List aT} {w:We} (h:iT p (addB [] al) T w) (a:Wb) (l:List aT) (c:Nat) (hl:aV w a l) (ag:l.length≤1000000):
  Calls Tryz.prog 75 #[ptrV p,.slice a l.length c] w fun e w'=>e= .returned (.tuple #[])∧Goes (iT p (addB [] (al++l))) T w w':=by
 obtain⟨b,h,t1,t2⟩:=h;refine(UE p b _ a l c w h hl ag).mono ?_;rintro e w' ⟨rfl,h2,hm⟩;rw[FT]at h2;exact⟨rfl,Goes.into ⟨b,h2,t1,t2⟩ (hm.mono (fun a _ ha=>by rw[ha];exact t2))⟩
def tT (q:Nat) (H:List aN):aK:=fun T w=>oX w q H∧T q
theorem tT.good (q:Nat) (H:List aN):aH (tT q H):=⟨fun T w w' h hm=>⟨h.1.mod hm (fun e=>e h.2),h.2⟩,fun T T' w hT h=>⟨h.1,hT _ h.2⟩⟩
def vZ (n:Nat) (N:List (Sg×aN)):aK:=fun T w=>iV T w n N
theorem vZ.good (n:Nat) (N:List (Sg×aN)):aH (vZ n N):=⟨fun T w w' h hm=>iV.mod h hm (fun _ h e=>e h),fun T T' w hT h=>iV.mono h hT⟩
def GL (g q:Nat) (K:List Rn):aK:=AY g q (K.map Rn.cn)
theorem GL.good (g q:Nat) (K:List Rn):aH (GL g q K):=AY.good g q _
theorem GL.put {T:Nat→Prop} {g q:Nat} {K:List Rn} {w:We} (h:GL g q K T w) (hT:∀a,T a→a<w.heap.size) (hq:q<900) (id:Wi) (a:Wb) (l:List aT) (c:Nat) (hl:aV w a l) (bw:l.length≤800) (hd:l≠[]→∀b o,a=some ⟨b,o,none⟩→¬T b) (dx:∀x∈K,x.id≠id):
  Calls Tryz.prog 102 #[ptrV g,.int .i64 id.toInt,.slice a l.length c] w fun e w'=>e= .returned (.int .i64 0)∧Goes (GL g (q+1) (K++[⟨id,eF K id l,l⟩])) T w w':=by
 refine(RX ⟨h,hT⟩ hq id a l c hl bw hd dx).mono ?_;rintro e w' ⟨rfl,T',h1,h2,h3⟩;exact⟨rfl,T',h1.1,h2,fun a ha=>(h3 a ha).imp (fun hh=>hh) (fun hh=>⟨hh,h1.2 a ha⟩)⟩
theorem GL.pop {T:Nat→Prop} {g q:Nat} {X Y:List Rn} {x:Rn} {w:We} (h:GL g q (X++x::Y) T w) (hT:∀a,T a→a<w.heap.size) (hf:X.any (fun y=>dQ y.l x.l)=false):
  Calls Tryz.prog 71 #[ptrV g,.int .i64 x.id.toInt] w fun e w'=>e= .returned (.int .i64 0)∧Goes (GL g q (X++Y)) T w w':=by
 refine(RS ⟨h,hT⟩).mono ?_;rintro e w' (⟨h1,_⟩|⟨_,rfl,h1,h2⟩)
 ·rw[hf]at h1;cases h1
 ·exact⟨rfl,Goes.into h1.1 h2⟩
theorem BT.goes {b:Nat} {S S':List (Option It)} {T:Nat→Prop} {w w':We} (h:BT b S T w) (H:BH w (fun i=>T i∧i≠0) b S' w'):Goes (BT b S') T w w':=Goes.grow (H.bt h.pos) H.mt
theorem BT.pop {b:Nat} {S:List (Option It)} {T:Nat→Prop} {w:We} (h:BT b S T w) {D:List Nd} (hD:D.Perm (fJ 0 S)) (hS:nG D) {i:Nat} {x:It} (hx:S[i]? =some (some x)) (hh:D.head? =some ⟨x.rk,idn i⟩):
  Calls Tryz.prog 99 #[ptrV b] w fun e w'=>e= .returned (.tuple #[.int .i64 (i:Int),.bool true])∧Goes (BT b (S.set i (some {x with pl:=1}))) T w w':=
 (LZ h.bh hD hS hx hh).mono fun e w' h2=>⟨h2.1,h.goes h2.2⟩
theorem BT.back {b:Nat} {S:List (Option It)} {T:Nat→Prop} {w:We} (h:BT b S T w) {i:Nat} {x:It} (hx:S[i]? =some (some x)) (hp:x.pl≠0):
  Calls Tryz.prog 34 #[ptrV b,.int .i64 (i:Int)] w fun e w'=>e= .returned (.int .i64 0)∧Goes (BT b (S.set i (some {x with pl:=0}))) T w w':=
 (LK h.bh hx hp).mono fun e w' h2=>⟨h2.1,h.goes h2.2⟩
theorem BT.done {b:Nat} {S:List (Option It)} {T:Nat→Prop} {w:We} (h:BT b S T w) {i:Nat} {x:It} (hx:S[i]? =some (some x)):
  Calls Tryz.prog 101 #[ptrV b,.int .i64 (i:Int)] w fun e w'=>e= .returned (.int .i64 0)∧Goes (BT b (S.set i none)) T w w':=
 (LM h.bh hx).mono fun e w' h2=>⟨h2.1,h.goes h2.2⟩
end
section
attribute [local go_sem↓] gJ f9 gG
attribute [local go_sem] aJ aC eB aO aL aQ aI aP dR cW kc_size bH Value.cells
theorem JZ {x:Nat} (h:x<2047*2^52):∃m p,Ieee.double.read x= .number false m p:=by
 have e1:Ieee.double.signWeight=2^63:=rfl;have e2:Ieee.double.binade=2^52:=rfl;have e3:Ieee.double.infRung=2047*2^52:=by decide
 have hd:x/2^63=0:=Nat.div_eq_of_lt (by omega);have hm:x % 2^63=x:=aW3 (by omega);unfold Ieee.Format.read;simp only[e1,e2,e3,hd,hm];split
 ·exact⟨_,_,rfl⟩
 ·exact⟨_,_,rfl⟩
theorem P5 (n d:Nat):Ieee.Toward.even.cut false n d≤n/2^min d (n.log2+2)+1:=by
 unfold Ieee.Toward.cut;simp only[Nat.shiftLeft_eq,Nat.one_mul];exact Nat.add_le_add_left (Bool.toNat_le _) _
theorem NH (n:Nat) (h:n<2^64):Ieee.double.nearest false n 0<2047*2^52:=by
 unfold Ieee.Format.nearest;split
 ·unfold Ieee.Format.word;simp
 ·rename_i h0;have hl:n.log2<64:=(Nat.log2_lt h0).2 h;have hlt:n<2^(n.log2+1):=Nat.lt_log2_self;have e2:Ieee.double.binade=2^52:=rfl;have e4:Ieee.double.leastPlace= -1074:=by decide
  have e5:Ieee.double.fractionBits=52:=rfl;unfold Ieee.Format.word;rw[if_neg (by decide),e2,e4,e5];have Qc:max (0+(n.log2:Int)-((52:Nat):Int)) (-1074)=(n.log2:Int)-52:=by omega
  rw[Qc];refine aX3 (Nat.min_le_left _ _) ?_;have hc:=P5 (n<<<(0-((n.log2:Int)-52)).toNat) ((n.log2:Int)-52-0).toNat;have hk:(n<<<(0-((n.log2:Int)-52)).toNat)/2^min ((n.log2:Int)-52-0).toNat ((n<<<(0-((n.log2:Int)-52)).toNat).log2+2)<2^53:=by
   by_cases dh:n.log2≤52
   ·have e6:((n.log2:Int)-52-0).toNat=0:=by omega
    have e7:(0-((n.log2:Int)-52)).toNat=52-n.log2:=by omega
    rw[e6,e7,Nat.zero_min,Nat.pow_zero,Nat.div_one,Nat.shiftLeft_eq]
    have:2^53=2^(n.log2+1)*2^(52-n.log2):=by rw[←Nat.pow_add];congr 1;omega
    rw[this];exact Nat.mul_lt_mul_of_pos_right hlt (aX5 _)
   ·have e6:((n.log2:Int)-52-0).toNat=n.log2-52:=by omega
    have e7:(0-((n.log2:Int)-52)).toNat=0:=by omega
    rw[e6,e7,Nat.shiftLeft_zero,aX7 (by omega)];refine Nat.div_lt_of_lt_mul ?_
    have:2^(n.log2-52)*2^53=2^(n.log2+1):=by rw[←Nat.pow_add];congr 1;omega
    rw[this];exact hlt
  have hm:((n.log2:Int)-52- -1074).toNat≤1085:=by omega
  have:=aXu (2^52) hm;omega
abbrev f64:Ieee.Format:=FloatKind.f64.format
theorem GV (n:Nat) (hn:n<2^64) (s:Nat) (hs:f64.order s 0=some .gt):∃r,f64.div (FloatKind.f64.nearest n) s=some r:=by
 have e0:FloatKind.f64.nearest n=Ieee.double.nearest false n 0:=by
  show Ieee.double.nearest (decide ((n:Int)<0)) (n:Int).natAbs 0=_;rw[show decide ((n:Int)<0)=false from Df (by omega)];rfl
 obtain⟨m,p,hr⟩:=JZ (NH n hn);have hz:Ieee.double.read 0= .number false 0 (-1074):=by decide
 unfold Ieee.Format.order at hs;unfold Ieee.Format.div;rw[e0];change (Ieee.double.read s).order (Ieee.double.read 0)=_ at hs;show∃r,Option.map _ ((Ieee.double.read (Ieee.double.nearest false n 0)).quotient _ (Ieee.double.read s))=some r;rw[hr];rw[hz]at hs;cases hd:Ieee.double.read s with
 |nan a b=>
  rw[hd]at hs;cases hs
 |infinity a=>exact⟨_,rfl⟩
 |number a b c=>
  rw[hd]at hs;have hb:b≠0:=by
   rintro rfl;simp[Ieee.Datum.order,Ieee.signed]at hs
  unfold Ieee.Datum.quotient;simp only[if_neg hb];exact⟨_,rfl⟩
def waP (c:Wj) (s:Nat):Nat:=if f64.order s 0=some .gt then(f64.div (FloatKind.f64.nearest c.toNat) s).getD 0 else 9218868437227405312
def EH (x:Nat):Bool:=f64.order x x !=some .eq
def EU (a b:Nat):Bool:=f64.order a b==some .lt||(EH b&& !EH a)
def fv (x:Nat):Wg:= .float .f64 x
theorem QJ (x:Nat) (w:We):Calls Tryz.prog 164 #[fv x] w fun e w'=>e= .returned (.bool (EH x))∧w'=w:=by
 unfold fv EH f64;go_enter Tryz.func164,Tryz.ntmps164;go_wp2_with fail;go_ret;exact⟨rfl,rfl⟩
theorem zS (n:Nat) (w:We):(callFunc 162 #[.int .u64 (n:Int)]).run Tryz.prog w= .ok (.value (.float .f64 n)) w:=by
 rw[run_callFunc_extern Tryz.func162 (by kernel_rfl) (by kernel_rfl) (by kernel_rfl) (e:=Go.Extern.MathFloatBits.float64frombits) (by kernel_rfl)];rfl
theorem VA (w:We):Calls Tryz.prog 147 #[.int .i64 1] w fun e w'=>e= .returned (fv 9218868437227405312)∧w'=w:=by
 have hb:∀w,(callFunc 162 #[.int .u64 9218868437227405312]).run Tryz.prog w= .ok (.value (.float .f64 9218868437227405312)) w:=zS 9218868437227405312;go_enter Tryz.func147,Tryz.ntmps147;go_wp2_with (simp only[hb]);go_ret;exact⟨rfl,rfl⟩
theorem wait_c (c:Wj) (s:Nat) (w:We):Calls Tryz.prog 113 #[.int .u64 (c.toNat:Int),fv s] w fun e w'=>e= .returned (fv (waP c s))∧w'=w:=by
 unfold waP;by_cases h:f64.order s 0=some .gt
 ·obtain⟨r,hr⟩:=GV c.toNat c.toNat_lt s h;have hd:(FloatKind.f64.format.order s 0==some .gt)=true:=by rw[h];rfl
  have hf:floatBits .quo .f64 (floatOfInt .f64 (c.toNat:Int)) s=some r:=hr;have hq:=fun w=>run_float_arith (P:=Tryz.prog) (w:=w) .quo 129 .f64 _ _ r hf;rw[if_pos h,hr];unfold fv;go_enter Tryz.func113,Tryz.ntmps113;go_wp2_with (simp only[hq]);go_ret;exact⟨rfl,rfl⟩
 ·have hd:(FloatKind.f64.format.order s 0==some .gt)=false:=by simpa using h
  rw[if_neg h];have hi:=VA;unfold fv at *;go_enter Tryz.func113,Tryz.ntmps113;go_wp2_with fail;go_at_call 147;refine(hi _).mono ?_;rintro e w1 ⟨rfl,rfl⟩;go_wp2_with fail;go_ret;exact⟨rfl,rfl⟩
theorem EV (a b:Nat) (w:We):Calls Tryz.prog 149 #[fv a,fv b] w fun e w'=>e= .returned (.bool (EU a b))∧w'=w:=by
 unfold EU;have hN:=QJ;unfold fv at *;cases hl:FloatKind.f64.format.order a b==some .lt
 ·cases hb:EH b
  ·have cq:=hN b;rw[hb]at cq;go_enter Tryz.func149,Tryz.ntmps149;go_wp2_with fail;go_at_call 164;refine(cq _).mono ?_;rintro e w1 ⟨rfl,rfl⟩;go_wp2_with fail;go_ret;exact⟨rfl,rfl⟩
  ·have cq:=hN b;rw[hb]at cq;have Lv:=hN a;cases ha:EH a
   all_goals
    rw[ha]at Lv;go_enter Tryz.func149,Tryz.ntmps149;go_wp2_with fail;go_at_call 164;refine(cq _).mono ?_;rintro e w1 ⟨rfl,rfl⟩;go_wp2_with fail;go_at_call 164;refine(Lv _).mono ?_;rintro e w1 ⟨rfl,rfl⟩;go_wp2_with fail;go_ret;exact⟨rfl,rfl⟩
 ·go_enter Tryz.func149,Tryz.ntmps149;go_wp2_with fail;go_ret;exact⟨rfl,rfl⟩
end
section
attribute [local go_sem↓] gJ f9 gG
attribute [local go_sem] aJ aC eB aO aL aQ aI aP dR cW kc_size bH Value.cells
attribute [local go_sem] Oper.semAt_some
theorem pG (W:We) (l:Nat) (o:Obj):Mod (fun i=>i=l) W (W.putObj l o):=
 ⟨rfl,rfl,rfl,by rw[World.putObj_size];exact aZq _,fun i _ h=>World.putObj_heap_other h⟩
section
variable {F:Fence} {n:Nat} {P:Wl} {α:Type}
def FQ (F:Fence) (n:Nat) (P:Wl) (gf:Nat) (lb:Wa) (encs:α→Wa) (p:Nat) (R:Nat→Prop) (S:List α→Prop) (w0:We):Prop:=
 ∀(l:Nat) (J:List α→We→Prop) (W:We),Mod (fun _=>False) w0 W→(∀xs A B,J xs A→Mod (fun i=>i=p) A B→J xs B)→
  (∀xs x A,J xs A→YieldAt F (n-1) P l (encs x) A fun e B=>e= .returned (.bool true)∧J (xs++[x]) B∧∀i,R i→B.heap[i]? =A.heap[i]?)→
  J [] W→CallsIn F n P gf (#[.func (.yield l) #[] #[]]++lb) W fun e B=>(∃v,e= .returned v)∧∃xs,S xs∧J xs B
theorem sH {g:Wm} {ps:Array Tmp} {assign body:Code} {Q:Exit→Act→We→Prop} {a:Act} {w:We} (lq:F.round=none) (h1:1≤n) {gf:Nat} {lb:Wa} (hg:a.eval g= .func (.func gf) #[] lb) (hFg:F.fn gf)
  (eg:∀args w,(callFunc gf args).run P w= .ok (.enter gf args) w) {encs:α→Wa} {p:Nat} {R:Nat→Prop} {S:List α→Prop} (hseq:FQ F (n-1) P gf lb encs p R S w) (hp:p<w.heap.size) (hR:∀i,R i→i<w.heap.size) (Wr:∀x,(encs x).size=ps.size)
  (I:List α→We→Prop) (hI:∀xs A B,I xs A→Mod (fun i=>i=p∨w.heap.size≤i) A B→I xs B) (h0:I [] w) (a₁:α→Act)
  (hassign:∀(l:Nat) (x:α) (W:We) (K:Act→We→Prop),K (a₁ x) W→assign.wpIn (F.inRound l) (n-1-1) P (Exit.then K (fun _ _ _=>False)) {tmps:=(ps.zip (encs x)).foldl (fun t (p,v)=>t.setIfInBounds p v) a.tmps,defers:=[]} W)
  (hbody:∀(l:Nat) (xs:List α) (x:α) (W:We),I xs W→body.wpIn (F.inRound l) (n-1-1) P (fun e _ B=>e= .normal∧I (xs++[x]) B∧(∀i,R i→B.heap[i]? =W.heap[i]?)∧∀i,w.heap.size≤i→i<W.heap.size→B.heap[i]? =W.heap[i]?) (a₁ x) W)
  (ie:∀(D:Nat) (xs:List α) (W:We),w.heap.size≤D→S xs→I xs W→W.heap[D]? =some (.deferred (some []))→Q .normal {a with defers:= {target:= .collected D,args:= #[]}::a.defers} W):
  (Code.rangeFunc g ps assign body).wpIn F n P Q a w:=by
 refine wpIn_rangeFunc fun fn hfn=> ?_;rw[lq];obtain⟨r0,Jt⟩:∃r0:Loop,r0= {state:= .ready,pending:=none,fn,tmps:=a.tmps,params:=ps,assign,body,defers:=w.heap.size}:=⟨_,rfl⟩;have fk:(w.alloc (.deferred (some []))).heap.size=w.heap.size+1:=World.size_alloc _ _;have kd:((w.alloc (.deferred (some []))).alloc (.loop r0)).heap[w.heap.size]? =some (.deferred (some [])):=(Below.heap_alloc _ _ _ (by omega)).trans (World.alloc_heap_new w _);have kl:((w.alloc (.deferred (some []))).alloc (.loop r0)).heap[w.heap.size+1]? =some (.loop r0):=by
  have:=World.alloc_heap_new (w.alloc (.deferred (some []))) (.loop r0);rwa[fk]at this
 have m1:Mod (fun _=>False) w ((w.alloc (.deferred (some []))).alloc (.loop r0)):=((Mod.refl _ w).alloc _).alloc _;refine⟨w.heap.size+1,[{target:= .collected w.heap.size,args:= #[]}],(w.alloc (.deferred (some []))).alloc (.loop r0),{target:= .fn (.func gf) lb,args:= #[.func (.yield (w.heap.size+1)) #[] #[]]},(w.alloc (.deferred (some []))).alloc (.loop r0),gf,
  #[.func (.yield (w.heap.size+1)) #[] #[]]++lb,(w.alloc (.deferred (some []))).alloc (.loop r0),by rw[Jt];exact run_enterLoop_outer _ _ _ _ _,?_,?_,?_,fun _=>h1,?_⟩
 ·simp only[resolve,hg];simp[go_sem]
 ·intro f' Mb;simp[Target.leads]at Mb;subst Mb;exact hFg
 ·simp[invoke,go_sem,eg]
 have iu:∀ {A B:We} {xs:List α},I xs A→∀i,w.heap.size≤i→Mod (fun j=>j=i) A B→I xs B:=fun h i hi m=>hI _ _ _ h (m.mono (fun j _ e=> .inr (by rw[e];exact hi)));refine(hseq (w.heap.size+1) (fun xs W=>I xs W∧W.heap[w.heap.size+1]? =some (.loop r0)∧W.heap[w.heap.size]? =some (.deferred (some []))) _ m1 ?_ ?_ ⟨hI _ _ _ h0 (m1.mono (fun _ _ h=>h.elim)),kl,kd⟩).mono ?_
 ·rintro xs A B ⟨h1,h2,h3⟩ m;exact⟨hI _ _ _ h1 (m.mono (fun _ _ e=> .inl e)),m.at h2 (by omega),m.at h3 (by omega)⟩
 ·rintro xs x A ⟨k1,k2,k3⟩;have hlt:=aA k2;have hy:=run_yield (P:=P) (args:=encs x) k2 (by rw[Jt];exact Wr x);have Co:r0.state= .ready:=by rw[Jt]
  have ti:(Instr.yield (w.heap.size+1) (encs x)).run P A= .ok (.round (w.heap.size+1) fn ((ps.zip (encs x)).foldl (fun t (p,v)=>t.setIfInBounds p v) a.tmps) assign body) A:=by
   rw[hy,Jt]
  refine⟨_,_,_,_,ti,roundIn_of_wpIn hfn ?_⟩;refine hassign _ x A _ ⟨_,run_beginRound k2 Co,?_⟩;have q2:(A.putObj (w.heap.size+1) (.loop {r0 with state:= .busy})).heap[w.heap.size+1]? =some (.loop {r0 with state:= .busy}):=World.putObj_heap_same hlt;have q3:(A.putObj (w.heap.size+1) (.loop {r0 with state:= .busy})).heap[w.heap.size]? =some (.deferred (some [])):=(World.putObj_heap_other (by omega)).trans k3;refine wpIn_mono (hbody _ xs x _ (iu k1 _ (by omega) (pG _ _ _))) ?_;rintro e a3 B ⟨rfl,b1,b2,b3⟩;have p2:=(b3 _ (by omega) (aA q2)).trans q2;have p3:=(b3 _ (aZq _) (aA q3)).trans q3;have he:=run_endRound (P:=P) none p2;have hb:({{r0 with state:= .busy}with state:=(if(none:Option Code).isNone then .ready else .done),pending:=none}:Loop)=r0:=by rw[Jt];rfl
  rw[hb]at he;refine⟨_,_,he,rfl,⟨iu b1 _ (by omega) (pG _ _ _),World.putObj_heap_same (aA p2),(World.putObj_heap_other (by omega)).trans p3⟩,fun i hi=> ?_⟩;have:=hR i hi;exact(World.putObj_heap_other (by omega)).trans ((b2 i hi).trans (World.putObj_heap_other (by omega)))
 ·rintro e W ⟨⟨v,rfl⟩,xs,hS,k1,k2,k3⟩;have he:=run_endLoop (P:=P) k2 (by rw[Jt];simp);have Bi:r0.pending=none:=by rw[Jt]
  rw[Bi]at he;exact⟨none,_,he,ie _ xs _ (aZq _) hS (iu k1 _ (by omega) (pG _ _ _)) ((World.putObj_heap_other (by omega)).trans k3)⟩
end
end
section
attribute [local go_sem↓] gJ f9 gG
attribute [local go_sem] aJ aC eB aO aL aQ aI aP dR cW kc_size bH Value.cells
attribute [local go_sem] Oper.semAt_some
def iD (m:Nat):Wd:=(List.range 64).filter fun j=>m.testBit j
def pkS (wt:Wd) (s:Option Nat) (j:Nat):Option Nat:=if j<wt.length then(match s with|none=>some j|some k=>if EU (wt.getD j 0) (wt.getD k 0)then some j else some k)else s
theorem B3 {m:Nat}:∀n,(∃k,k<n∧m.testBit k=true)→∃k,k<n∧m.testBit k=true∧∀i,i<k→m.testBit i=false
 |0,⟨k,h,_⟩=>by omega
 |n+1,⟨k,h,hb⟩=>by
  by_cases hx:∃k,k<n∧m.testBit k=true
  ·obtain⟨k,h1,h2,h3⟩:=B3 n hx;exact⟨k,by omega,h2,h3⟩
  ·have hk:k=n:=by
    rcases aYt k n with h1|h1
    ·exact absurd ⟨k,h1,hb⟩ hx
    ·omega
   subst hk;exact⟨k,h,hb,fun i hi=>by
    cases hc:m.testBit i with
    |false=>rfl
    |true=>exact absurd ⟨i,hi,hc⟩ hx⟩
theorem qP {p:Nat→Bool} {k:Nat} (h1:p k=true) (h0:∀i,i<k→p i=false):∀n,k<n→(List.range n).filter p=k::(List.range n).filter (fun i=>p i&&decide (k<i))
 |0,h=>by omega
 |n+1,h=>by
  rw[List.range_succ,aZ6,aZ6];by_cases e:k=n
  ·subst e;have e1:(List.range k).filter p=[]:=by
    rw[List.filter_eq_nil_iff];intro i hi;rw[h0 i (aYu.1 hi)];simp
   have e2:(List.range k).filter (fun i=>p i&&decide (k<i))=[]:=by
    rw[List.filter_eq_nil_iff];intro i hi;rw[h0 i (aYu.1 hi)];simp
   rw[e1,e2];simp[h1]
  ·rw[qP h1 h0 n (by omega),aYg];congr 2;simp only[aWr,List.filter_nil];rw[show decide (k<n)=true from Dt (by omega),Bool.and_true]
theorem I6 {m k:Nat} (hm:m<2^64) (h1:m.testBit k=true) (h0:∀i,i<k→m.testBit i=false):IntKind.u64.wrap ((m:Int)-1)=((m-1:Nat):Int)∧bits .and .u64 (m:Int) ((m-1:Nat):Int)=((m&&&(m-1):Nat):Int)∧m&&&(m-1)<2^64∧iD m=k::iD (m&&&(m-1)):=by
 have Ru:0<m:=by
  rcases aWk m with rfl|h
  ·simp at h1
  ·exact h
 have hk:=qC hm h1;refine⟨?_,u64_and_nat m (m-1) (by omega) (by omega),aX3 Nat.and_le_left hm,?_⟩
 ·rw[IntKind.wrap_u64];omega
 ·unfold iD;rw[qP (p:=fun j=>m.testBit j) h1 h0 64 hk];congr 1;congr 1;funext i;rw[aX6];have hr:m % 2^(k+1)=2^k:=by
   apply aXb;intro j;rw[Nat.testBit_mod_two_pow,aXp];by_cases hj:j=k
   ·subst hj;simp[h1]
   ·rcases Nat.lt_or_gt_of_ne hj with h|h
    ·rw[h0 j h];simp;omega
    ·rw[Df (show¬j<k+1 by omega)];simp;omega
  have he:m-1=2^(k+1)*(m/2^(k+1))+(2^k-1):=by
   have:=aWu m (2^(k+1));have:=aX5 k;omega
  have hb:=aYz (m/2^(k+1)) (i:=k+1) (b:=2^k-1) (by have:=aX5 k;rw[Nat.pow_succ];omega) i;rw[←he]at hb;rw[hb];by_cases hi:i<k
  ·rw[h0 i hi];simp
  ·by_cases e:i=k
   ·subst e;rw[if_pos (by omega),aWa];(try simp)
   ·rw[if_neg (by omega),Nat.testBit_div_two_pow,show i-(k+1)+(k+1)=i by omega,Dt (show k<i by omega)];simp
theorem DL {m:Nat} (hm:m<2^64) (h:iD m=[]):m=0:=by
 apply aXb;intro i;rw[Nat.zero_testBit];cases hc:m.testBit i with
 |false=>rfl
 |true=>
  have:=List.filter_eq_nil_iff.1 h i (aYu.2 (qC hm hc));exact absurd hc this
theorem DM {m:Nat} (hm:m<2^64) (h:m≠0):∃k,m.testBit k=true∧∀i,i<k→m.testBit i=false:=by
 cases hb:iD m with
 |nil=>exact absurd (DL hm hb) h
 |cons k t=>
  have hk:k∈iD m:=by rw[hb];exact List.mem_cons_self
  obtain⟨h1,h2⟩:=List.mem_filter.1 hk;obtain⟨k,_,h3,h4⟩:=B3 64 ⟨k,aYu.1 h1,h2⟩;exact⟨k,h3,h4⟩
theorem set_c (m:Nat) (w:We):Calls Tryz.prog 148 #[.int .u64 (m:Int)] w fun e w'=>∃p,e= .returned (.func (.func 163) #[] #[.pointer (some ⟨p,0,none⟩)])∧w.heap.size≤p∧w'.heap[p]? =some (.cells #[.int .u64 (m:Int)] 23 (0,0))∧Mod (fun _=>False) w w':=by
 have hmf:∀(fn:Fn) (first cap:Wa) (w:We),(Instr.makeFunc fn first cap).run Tryz.prog w= .ok (.func fn first cap) w:=fun fn first cap w=>rfl
 go_enter Tryz.func148,Tryz.ntmps148;go_upto_region 0 with fail;refine ZP0 [3,0] ?_;refine Zb fun p1 fx=> ?_;refine Zv ?_;refine TD.nil (fun w1 hr=> ?_);obtain⟨gp1,kp1⟩:=hr.b p1;have m1:=hr.mod;clear hr;go_wp2_with fail;go_ret;exact⟨_,rfl,gp1,kp1,m1⟩
def wT (p:Nat) (ws:We):Nat:=(iD (match ws.heap[p]? with|some (.cells cs _ _)=>(intOf (cs.getD 0 undef)).toNat|_=>0)).length
theorem wU {p m:Nat} {ws:We} {U:Wh} {fr:Nat×Nat} (h:ws.heap[p]? =some (.cells #[.int .u64 (m:Int)] U fr)):wT p ws=(iD m).length:=by
 unfold wT;rw[h];rfl
theorem J8 (n p m:Nat) (w:We) (hm:m<2^64) (hw:dP w) (jl:p≠0) (kp:w.heap[p]? =some (.cells #[.int .u64 (m:Int)] 23 (0,0))):
  FQ Fence.wide (n+1) Tryz.prog 163 #[.pointer (some ⟨p,0,none⟩)] (fun j:Nat=> #[.int .i64 (j:Int)]) p (fun i=>i=p∨i=0) (fun xs=>xs=iD m) w:=fun l J W hW hJ hY h0=>by
 have ny:=hw.mod0 hW;have kp2:=hW.at0 kp;clear hw kp hW;refine callsIn_of_wp Tryz.func163 rfl trivial ?_ rfl;simp only[Tryz.ntmps163,aYs,aZu,aYw,Nat.reduceAdd,Nat.reduceSub,aXd,aXc,aXo,aXj,aYq,aYg];have HJ:=Hi hJ;have HY:=Hi hY;have H0:Hid (J [] W∧dP W):=Hi ⟨h0,ny⟩;have HM:=Hi (Ai hm jl);clear hJ hY h0 hm jl ny;refine wpIn_wide.2 ?_;go_wp2_with fail;go_loopw [] (fun ws=>∃(xs:Wd) (mc:Nat),mc<2^64∧ws.heap[p]? =some (.cells #[.int .u64 (mc:Int)] 23 (0,0))∧Hid (xs++iD mc=iD m)∧Hid (J xs ws∧dP ws)) (fun ws=>wT p ws)
 case atStart=>exact⟨[],m,HM.out.1,kp2,Hi (by simp),H0⟩
 case round=>
  obtain⟨xs,mc,hmc,kq,HX,Uj⟩:=hrel;by_cases hz:mc=0
  ·subst hz;go_wp2_with fail;go_end0;have hx:=HX.out;rw[show iD 0=[]by decide,aYx]at hx;exact⟨⟨_,rfl⟩,xs,hx,Uj.out.1⟩
  ·obtain⟨k,dz,ft⟩:=DM hmc hz;obtain⟨e1,e2,e3,e4⟩:=I6 hmc dz ft;have HB:=Hi (Ai dz ft);have HE:=Hi (Ai e3 e4);obtain⟨md,hmd⟩:∃md,mc&&&(mc-1)=md:=⟨_,rfl⟩;rw[hmd]at e2 e3 e4 HE;have aw:((mc:Int) !=0)=true:=by simp;omega
   have HBN:=Hi (wU kq);clear dz ft e3 e4 hmd hz;go_upto_region 2 with fail;refine(wpIn_wide (n:=n+1)).1 ?_
   gi_wp2
   refine⟨trivial,callsIn_wide.2 ?_⟩;refine(WF hmc HB.out.1 HB.out.2 Uj.out.2).mono ?_;rintro e w2 ⟨rfl,rfl⟩;obtain⟨fn1,tmps1,assign1,body1,Ff,hR1⟩:=HY.out xs k _ Uj.out.1
   gi_wp2
   refine hR1.mono ?_;rintro e w3 ⟨rfl,Ce,jt⟩;replace kq:=(jt p (.inl rfl)).trans kq;have Dc:Hid (J (xs++[k]) w3∧dP w3):=Hi ⟨Ce,by
    obtain⟨C,U,fr,t1,t2⟩:=Uj.out.2;exact⟨C,U,fr,(jt 0 (.inr rfl)).trans t1,t2⟩⟩
   clear jt Ce Ff hR1
   gi_wp2
   go_upto_region 1 with fail;have Lkq:=aA kq;refine ZP0 [1,1,0,0,5] ?_
   iterate 4 first|refine Zd ?_|refine Zv ?_
   refine Zi fun wE hr=> ?_;replace kq:=hr.mod.at0 kq;have mE:=hr.mod;refine ZS ?_;refine ZN kq fun w4 kq mS=> ?_;(try simp only[Array.setIfInBounds,zL]at kq);have m4:=(mE.mono (T:=fun i=>i=p) (fun _ _ h=>h.elim)).trans mS;have Lg:Hid (J (xs++[k]) w4∧dP w4):=Hi ⟨HJ.out _ _ _ Dc.out.1 m4,Dc.out.2.mod m4 (fun e=>HM.out.2 e.symm)⟩;have HD:Hid (wT p w4<wT p w2):=Hi (by rw[wU kq,HBN.out,HE.out.2];simp);clear hr mE mS m4;simp only[Act.put];go_wp2_with fail;go_roundw
   case rel=>exact⟨xs++[k],md,HE.out.1,kq,Hi (by rw[aZw];have:=HX.out;rw[HE.out.2]at this;exact this),Lg⟩
   case measure=>exact HD.out
end
section
attribute [local go_sem↓] gJ f9 gG
attribute [local go_sem] aJ aC eB aO aL aQ aI aP dR cW kc_size bH Value.cells
attribute [local go_sem] Oper.semAt_some
theorem rJ {P:Wl} {fn:Func} {t1 t2:Tmp} {T1 T2:Wh} {tmps:Wa} {p1 p2:Addr} {v1 v2:Wg} {w:We} (h:fn.results= #[.cell t1 T1,.cell t2 T2])
  (h1:tmps.getD t1 undef= .pointer (some p1)) (h2:tmps.getD t2 undef= .pointer (some p2))
  (k1:(Instr.loadAt T1 (.pointer (some p1))).run P w= .ok v1 w) (k2:(Instr.loadAt T2 (.pointer (some p2))).run P w= .ok v2 w):(results fn tmps).run P w= .ok (.tuple #[v1,v2]) w:=by
 have l1:(loadVar T1 p1).run P w= .ok v1 w:=by simpa[Instr.loadAt,Instr.sureAddr] using k1
 have l2:(loadVar T2 p2).run P w= .ok v2 w:=by simpa[Instr.loadAt,Instr.sureAddr] using k2
 unfold results;rw[h];have Ay:∀ {α β:Type} (f:α→β) (x:Sem α) (w:We),(f<$>x).run P w=(x.run P w).andThen fun a w=> .ok (f a) w:=fun f x w=>by
  show(x>>=fun a=>pure (f a)).run P w=_;rw[Sem.run_bind];rfl
 simp only[List.mapM_toArray,List.mapM_cons,List.mapM_nil,h1,h2,asAddr,Sem.run_bind,Ay,Sem.run_pure,Result.andThen_ok,l1,l2];rfl
section
variable {P:Wl} {ops:Array Oper} {Q:Exit→Act→We→Prop} {T0:Nat→Prop} {w0:We} {κ:Nat→Nat} {υ:Nat→List Tmp}
theorem TG.storeU {i:Nat} {r:Wd} {a:Act} {B:Bx} {K:aK} {o:Oper} {T:Wh} {x y:Wm} {X Y:Wg} (K':aK) (dg:aH K') (ho:ops[i]? =some o) (hk:κ i=6) (hw:Region.wanted o (yielded ops a.tmps)=true)
  (hd:o.dst=none) (aj:o.op= .store T x y) (hx:a.eval x=X) (hy:a.eval y=Y)
  (hr:∀T' w,Mod T0 w0 w→K T' w→∃w',(Instr.storeAt T X Y).run P w= .ok () w'∧Mod T' w w'∧K' T' w')
  (h:kT T0 w0 B K'→TG P ops Q T0 w0 κ υ r a B K'):TG P ops Q T0 w0 κ υ (i::r) a B K:=by
 refine TG.eff' (fun _=>K') ho hk hw (fun _=>dg.cl) (fun T2 w k1 k2 k3 k4=> .inr (.inl ?_)) (fun v hI=>by rw[hd];exact h hI);obtain⟨w',h1,h2,h3⟩:=hr T2 w k3 k1;refine⟨w',?_,h2,dg.gr _ _ _ (fun _ h=> .inl h) h3⟩;subst hx;subst hy;simp[execOp,aj,h1]
end
def qT (x:Nat):Wa:= #[fv x]
theorem PO (w:We):(Instr.alloc 3 true (.tuple #[])).run Tryz.prog w= .ok (.pointer (some ⟨w.heap.size,0,none⟩)) (w.alloc (.cells #[.int .i64 0] 3)):=by kernel_rfl
theorem LS (w:We):(Instr.alloc 4 true (.tuple #[])).run Tryz.prog w= .ok (.pointer (some ⟨w.heap.size,0,none⟩)) (w.alloc (.cells #[.bool false] 4)):=by kernel_rfl
def mL (Q:Exit→Act→We→Prop):Exit→Act→We→Prop:=fun e a w=>(∀c,e≠ .panic c)∧e≠ .outgrown∧Q e a w
def pkR (m:Nat) (l:Wd):Option Nat:=(iD m).foldl (pkS l) none
def oi (o:Option Nat):Wa:= #[.int .i64 ((o.getD 0:Nat):Int)]
theorem VN {T:Wh} {w:We} {p:Nat} {z:Int} (h:w.heap[p]? =some (.cells #[.int .i64 z] T (0,0))):(Instr.loadAt 3 (.pointer (some ⟨p,0,none⟩))).run Tryz.prog w= .ok (.int .i64 z) w:=by go_simp
theorem VM {T:Wh} {w:We} {p:Nat} {z:Bool} (h:w.heap[p]? =some (.cells #[.bool z] T (0,0))):(Instr.loadAt 4 (.pointer (some ⟨p,0,none⟩))).run Tryz.prog w= .ok (.bool z) w:=by go_simp
theorem OZ {l:Wd}:∀ {xs:Wd} {s:Option Nat} {k:Nat},(∀k,s=some k→k<l.length)→xs.foldl (pkS l) s=some k→k<l.length
 |[],s,k,hs,h=>hs k h
 |x::xs,s,k,hs,h=>OZ (xs:=xs) (s:=pkS l s x) (fun j hj=>by
   unfold pkS at hj;split at hj
   ·rename_i hx;split at hj
    ·cases hj;exact hx
    ·rename_i k2;split at hj
     ·cases hj;exact hx
     ·cases hj;exact hs _ rfl
   ·exact hs j hj) h
theorem RR (m:Nat) (hm:m<2^64) (a:Wb) (l:Wd) (c:Nat) (w:We) (hl:aS qT 1 w a l) (oz:l.length≤1000000) (hw:dP w):Calls Tryz.prog 114 #[.int .u64 (m:Int),.slice a l.length c] w fun e w'=>
  e= .returned (.tuple #[.int .i64 (((pkR m l).getD 0:Nat):Int),.bool (pkR m l).isSome])∧Mod (fun _=>False) w w':=by
 have HL:=Hi (Ai hl (Ai hw hm));clear hl hw hm;obtain⟨ll,bw⟩:∃ll,l.length=ll:=⟨_,rfl⟩;have cr:=Hi bw;rw[bw]at oz⊢;clear bw;refine(callsIn_wide (n:=4)).1 ?_;refine callsIn_of_wp_marks Tryz.func114 rfl trivial ?_ rfl;simp only[Tryz.ntmps114,aYs,aZu,aYw,Nat.reduceAdd,Nat.reduceSub,aXd,aXc,aXo,aXj,aYq,aYg];refine wpIn_wide.2 ?_;refine wp_mono (Q:=mL _) ?_ (fun e a w h=>h.2.2);generalize Oa:bodyPostM Fence.wide 4 Tryz.prog _ _=Q0;have Lf:=Hi Oa;clear Oa;have hP:∀c a w,¬mL Q0 (.panic c) a w:=fun c a w h=>h.1 c rfl;have hLo:¬LetsOut (mL Q0):=fun⟨a,w,h⟩=>h.2.1 rfl;generalize Ob:mL Q0=Q1 at *;have Yd:=Hi Ob;clear Ob;go_upto_region 0 with fail;refine ZP0 [3,3,3] ?_;refine Zb fun p3 yv=> ?_;refine Za PO fun p4 od=> ?_;obtain⟨ne_p4_p3,od⟩:=Bx.set_none od;refine Za LS fun p5 ip=> ?_;obtain⟨ne_p5_p4,ip⟩:=Bx.set_none ip;obtain⟨ne_p5_p3,ip⟩:=Bx.set_none ip;refine TD.nil (fun w1 hr=> ?_);obtain⟨gp3,kp3⟩:=hr.b p3;obtain⟨gp4,kp4⟩:=hr.b p4;obtain⟨gp5,kp5⟩:=hr.b p5;have m1:=hr.mod;have jh:=Hi (Ai (aA kp3) (Ai (aA kp4) (aA kp5)));have HG:=Hi (Ai gp3 (Ai gp4 gp5));have m0:=m1.size;clear hr;go_upto_region 1 with fail;go_wp2_with fail;go_at_call 148;refine(set_c m _).mono ?_;rintro e w3 ⟨p,rfl,hp,kp,m3⟩;go_wp2_with fail;have Mm:p≠0∧p≠p3∧p≠p4∧p≠p5:=by
  have h:=jh.out;have h0:=HL.out.2.1;obtain⟨C,U,fr,h0,_⟩:=h0;have:=aA h0;have h1:=m1.size;exact⟨by omega,by omega,by omega,by omega⟩
 have aw:p3≠p4∧p3≠p5∧p4≠p5:=⟨aB kp3 kp4 (by simp),aB kp3 kp5 (by simp),aB kp4 kp5 (by simp)⟩;have k3:=m3.at0 kp3;have k4:=m3.at0 kp4;have k5:=m3.at0 kp5;have mw:=m1.trans m3;have HK:=Hi (Ai kp (Ai k3 (Ai k4 k5)));have HN:=Hi (Ai Mm aw);have HW:=Hi mw;have HS:Hid (w.heap.size≤p∧p<w3.heap.size∧p3<w3.heap.size∧p4<w3.heap.size∧p5<w3.heap.size∧0<w3.heap.size∧w.heap.size≤w3.heap.size):=Hi ⟨by have:=m1.size;omega,aA kp,aA k3,aA k4,aA k5,by have:=aA kp;omega,mw.size⟩;clear Mm aw k3 k4 k5 mw kp m3 m1 kp3 kp4 kp5 hp;refine wpIn_wide.1 (sH (n:=3) rfl (by omega) (gf:=163) (lb:= #[.pointer (some ⟨p,0,none⟩)]) rfl trivial (enters_of Tryz.func163 (by kernel_rfl) rfl)
  (J8 1 p m w3 HL.out.2.2 (HL.out.2.1.mod0 HW.out) HN.out.1.1 HK.out.1) HS.out.2.1 (fun i hi=>by rcases hi with e|e<;>rw[e]<;>have:=HS.out<;>omega) (fun _=>rfl)
  (fun xs W=>W.heap[p4]? =some (.cells (oi (xs.foldl (pkS l) none)) 3 (0,0))∧W.heap[p5]? =some (.cells #[.bool (xs.foldl (pkS l) none).isSome] 4 (0,0))∧Mod (fun i=>i=p4∨i=p5∨i=p∨w3.heap.size≤i) w3 W)
  ?own ⟨HK.out.2.2.1,HK.out.2.2.2,Mod.refl _ _⟩
  (fun j=> {tmps:= #[.int .u64 (m:Int),.slice a ll c,undef,.pointer (some ⟨p3,0,none⟩),.pointer (some ⟨p4,0,none⟩),.pointer (some ⟨p5,0,none⟩),.int .i64 (j:Int),.int .u64 (m:Int),.func (.func 163) #[] #[.pointer (some ⟨p,0,none⟩)],.int .i64 (j:Int),undef,undef,undef,undef,undef,undef,undef,undef,undef,undef,undef,undef,undef,undef,undef,undef,undef,undef,undef,undef,undef,undef],defers:=[]}) ?assign ?body ?done)
 case own=>
  rintro xs A B ⟨h1,h2,h3⟩ hm;have h:=HS.out;have hn:=HN.out;exact⟨hm.at h1 (by omega),hm.at h2 (by omega),h3.then hm (fun i hi e=>by omega)⟩
 case assign=>
  intro l z W K hK
  gi_wp2
  exact hK
 case body=>
  rintro lp xs j W ⟨k4,k5,mW⟩;have k3:=mW.at HK.out.2.1 (by have h:=HS.out;have hn:=HN.out;omega);have HF:Hid (∀(a':Act) (B:We),B.heap[p4]? =some (.cells (oi (pkS l (xs.foldl (pkS l) none) j)) 3 (0,0))→B.heap[p5]? =some (.cells #[.bool (pkS l (xs.foldl (pkS l) none) j).isSome] 4 (0,0))→Mod (fun i=>i=p4∨i=p5) W B→(fun(e:Exit) (_:Act) (B:We)=>e= .normal∧(B.heap[p4]? =some (.cells (oi ((xs++[j]).foldl (pkS l) none)) 3 (0,0))∧B.heap[p5]? =some (.cells #[.bool ((xs++[j]).foldl (pkS l) none).isSome] 4 (0,0))∧Mod (fun i=>i=p4∨i=p5∨i=p∨w3.heap.size≤i) w3 B)∧(∀i,i=p∨i=0→B.heap[i]? =W.heap[i]?)∧∀i,w3.heap.size≤i→i<W.heap.size→B.heap[i]? =W.heap[i]?) .normal a' B):=Hi (by
   intro a' B b4 b5 mB;have h:=HS.out;have hn:=HN.out;have hs:=mW.size;have h04:p4≠0∧p5≠0:=by have:=HG.out;have:=HL.out.2.1;obtain⟨C,U,fr,h0,_⟩:=this;have:=aA h0;omega
   refine⟨rfl,⟨by rw[aXl];exact b4,by rw[aXl];exact b5,mW.then mB (fun i _ e=>by omega)⟩,fun i hi=>mB.block i ?_ ?_,fun i h1 h2=>mB.block i h2 ?_⟩
   ·rcases hi with e|e<;>omega
   ·rcases hi with e|e<;>omega
   ·omega)
  have hL:¬LetsOut (fun(e:Exit) (_:Act) (B:We)=>e= .normal∧(B.heap[p4]? =some (.cells (oi ((xs++[j]).foldl (pkS l) none)) 3 (0,0))∧B.heap[p5]? =some (.cells #[.bool ((xs++[j]).foldl (pkS l) none).isSome] 4 (0,0))∧Mod (fun i=>i=p4∨i=p5∨i=p∨w3.heap.size≤i) w3 B)∧(∀i,i=p∨i=0→B.heap[i]? =W.heap[i]?)∧∀i,w3.heap.size≤i→i<W.heap.size→B.heap[i]? =W.heap[i]?):=fun⟨_,_,h⟩=>by cases h.1
  have fy:=HL.out.1;have hs:∀k,xs.foldl (pkS l) none=some k→k<ll:=fun k h=>by rw[←cr.out];exact OZ (fun _ h=>by cases h) h
  generalize(fun(e:Exit) (_:Act) (B:We)=>e= .normal∧(B.heap[p4]? =some (.cells (oi ((xs++[j]).foldl (pkS l) none)) 3 (0,0))∧B.heap[p5]? =some (.cells #[.bool ((xs++[j]).foldl (pkS l) none).isSome] 4 (0,0))∧Mod (fun i=>i=p4∨i=p5∨i=p∨w3.heap.size≤i) w3 B)∧(∀i,i=p∨i=0→B.heap[i]? =W.heap[i]?)∧∀i,w3.heap.size≤i→i<W.heap.size→B.heap[i]? =W.heap[i]?)=Qb at *;generalize xs.foldl (pkS l) none=s at *
  gi_wp2
  rcases aYt j ll with hlt|hge
  ·obtain⟨x,hx⟩:∃x,l[j]? =some x:=⟨_,aZb (by rw[cr.out];exact hlt)⟩;have hd:=Dt hlt;cases s with
   |none=>
    have nu:pkS l none j=some j:=by unfold pkS;rw[cr.out,if_pos hlt]
    rw[nu]at HF;have By:=Hi (Ai k4 k5);replace k5:W.heap[p5]? =some (.cells #[.bool false] 4 (0,0)):=k5;clear fy hx nu hs k4;have Lk3:=aA k3;have Lk5:=aA k5;refine fZ (T0:=fun _=>False) (K:=fun _ _=>True) (κ:=fun i=>[0,0,0,0,0,0,0,0,0,0,0,0,0,0,0,0,0,0,0].getD i 0) (υ:=fun _=>[]) [0,1,2,3,4,5,6,7,8,9,10,11,12,13,14,15,16,17,18] (by kernel_rfl) (by kernel_rfl) (by rintro⟨_,_,h⟩;exact hL ⟨_,_,h⟩) (by kernel_rfl) (aH.true).cl (trivial) (fun _ h=>h.elim) ?_;have gK:=aH.true
    iterate 8 first|refine Zg ?_|refine Zh ?_
    iterate 9 (refine TG.pass (by simp only[zK];rfl) rfl (by rfl) ?_;try simp only[zL])
    iterate 2 refine Zg ?_
    refine TG.nil (fun w4 ⟨TR,hr⟩=> ?_);replace k3:=hr.q k3;replace k5:=hr.q k5;clear gK;have gx:=Hi hr.mod;clear hr k3 k5;have k4:w4.heap[p4]? =some (.cells #[.int .i64 0] 3 (0,0)):=gx.out.at0 By.out.1;have k5:w4.heap[p5]? =some (.cells #[.bool false] 4 (0,0)):=gx.out.at0 By.out.2;have mS:Mod (fun i=>i=p4) w4 (w4.setCell ⟨p4,0,none⟩ (.int .i64 (j:Int))):=(Mod.refl _ _).setCell _ (fun _=>rfl);have k4b:(w4.setCell ⟨p4,0,none⟩ (.int .i64 (j:Int))).heap[p4]? =some (.cells #[.int .i64 (j:Int)] 3 (0,0)):=by
     rw[setCell_blk k4,aF _ _ (aA k4)];rfl
    have k5b:=mS.at_ne k5 (fun e=>HN.out.2.2.2 e.symm)
    gi_wp2
    generalize w4.setCell ⟨p4,0,none⟩ (.int .i64 (j:Int))=w5 at *;have mS5:Mod (fun i=>i=p5) w5 (w5.setCell ⟨p5,0,none⟩ (.bool true)):=(Mod.refl _ _).setCell _ (fun _=>rfl);have k5c:(w5.setCell ⟨p5,0,none⟩ (.bool true)).heap[p5]? =some (.cells #[.bool true] 4 (0,0)):=by
     rw[setCell_blk k5b,aF _ _ (aA k5b)];rfl
    exact HF.out _ _ (mS5.at_ne k4b HN.out.2.2.2) k5c (((gx.out.mono (fun _ _ h=>h.elim)).then mS (fun i _ e=> .inl e)).then mS5 (fun i _ e=> .inr e))
   |some k=>
    have hk:=hs k rfl;obtain⟨y,hy⟩:∃y,l[k]? =some y:=⟨_,aZb (by rw[cr.out];exact hk)⟩;rcases fy with fy|⟨b,o,C,U,fr,ha,kb,hC⟩
    ·rw[fy]at hx;cases hx
    have kl:=mW.at (HW.out.at0 kb) (by have h:=HG.out;have h1:=aA kb;have h2:=HS.out;omega);have c1:=jV (hC j x hx).1 (j:=0) (v:=fv x) rfl;have c2:=jV (hC k y hy).1 (j:=0) (v:=fv y) rfl;simp only[aYp,aXz]at c1 c2;have HXY:Hid (pkS l (some k) j=if EU x y then some j else some k):=Hi (by unfold pkS;rw[cr.out,if_pos hlt];show(if EU (l.getD j 0) (l.getD k 0)=true then some j else some k)=_;rw[aZk,hx,aZk,hy];rfl);have By:=Hi (Ai k4 k5);replace k4:W.heap[p4]? =some (.cells #[.int .i64 (k:Int)] 3 (0,0)):=k4;replace k5:W.heap[p5]? =some (.cells #[.bool true] 4 (0,0)):=k5;clear hs hx hy kb hC;subst ha;unfold fv at c1 c2;have Sb:=EV x y;unfold fv at Sb;cases hz:EU x y with
    |true=>
     rw[hz]at Sb;rw[HXY.out,hz,if_pos rfl]at HF;clear hz;have Lk3:=aA k3;have Lk4:=aA k4;have Lk5:=aA k5;have Lkl:=aA kl;refine fZ (T0:=fun _=>False) (K:=fun _ _=>True) (κ:=fun i=>[0,0,0,0,0,0,0,0,0,0,0,0,0,0,0,0,6,0,0].getD i 0) (υ:=fun _=>[]) [0,1,2,3,4,5,6,7,8,9,10,11,12,13,14,15,16,17,18] (by kernel_rfl) (by kernel_rfl) (by rintro⟨_,_,h⟩;exact hL ⟨_,_,h⟩) (by kernel_rfl) (aH.true).cl (trivial) (fun _ h=>h.elim) ?_;have gK:=aH.true
     iterate 16 first|refine Zg ?_|refine Zh ?_
     (refine ZG (fun v=>v= .bool true) gK ?_ (s:=fun T wq kq ltq ae ub=>by exact(Sb wq).mono (fun e w' h=>⟨_,h.1,rfl,by rw[h.2];exact Mod.refl _ _⟩));rintro v39 hC;subst hC;try simp only[zL])
     iterate 2 refine Zg ?_
     refine TG.nil (fun w4 ⟨TR,hr⟩=> ?_);replace k3:=hr.q k3;replace k4:=hr.q k4;replace k5:=hr.q k5;replace kl:=hr.q kl;clear gK;have gx:=Hi hr.mod;clear hr k3 k4 k5 kl;have k4:w4.heap[p4]? =some (.cells #[.int .i64 (k:Int)] 3 (0,0)):=gx.out.at0 By.out.1;have k5:w4.heap[p5]? =some (.cells #[.bool true] 4 (0,0)):=gx.out.at0 By.out.2;have mS:Mod (fun i=>i=p4) w4 (w4.setCell ⟨p4,0,none⟩ (.int .i64 (j:Int))):=(Mod.refl _ _).setCell _ (fun _=>rfl);have k4b:(w4.setCell ⟨p4,0,none⟩ (.int .i64 (j:Int))).heap[p4]? =some (.cells #[.int .i64 (j:Int)] 3 (0,0)):=by
      rw[setCell_blk k4,aF _ _ (aA k4)];rfl
     have k5b:=mS.at_ne k5 (fun e=>HN.out.2.2.2 e.symm)
     gi_wp2
     generalize w4.setCell ⟨p4,0,none⟩ (.int .i64 (j:Int))=w5 at *;have mS5:Mod (fun i=>i=p5) w5 (w5.setCell ⟨p5,0,none⟩ (.bool true)):=(Mod.refl _ _).setCell _ (fun _=>rfl);have k5c:(w5.setCell ⟨p5,0,none⟩ (.bool true)).heap[p5]? =some (.cells #[.bool true] 4 (0,0)):=by
      rw[setCell_blk k5b,aF _ _ (aA k5b)];rfl
     exact HF.out _ _ (mS5.at_ne k4b HN.out.2.2.2) k5c (((gx.out.mono (fun _ _ h=>h.elim)).then mS (fun i _ e=> .inl e)).then mS5 (fun i _ e=> .inr e))
    |false=>
     rw[hz]at Sb;rw[HXY.out,hz,if_neg (by simp)]at HF;clear hz;have Lk3:=aA k3;have Lk4:=aA k4;have Lk5:=aA k5;have Lkl:=aA kl;refine fZ (T0:=fun _=>False) (K:=fun _ _=>True) (κ:=fun i=>[0,0,0,0,0,0,0,0,0,0,0,0,0,0,0,0,6,0,0].getD i 0) (υ:=fun _=>[]) [0,1,2,3,4,5,6,7,8,9,10,11,12,13,14,15,16,17,18] (by kernel_rfl) (by kernel_rfl) (by rintro⟨_,_,h⟩;exact hL ⟨_,_,h⟩) (by kernel_rfl) (aH.true).cl (trivial) (fun _ h=>h.elim) ?_;have gK:=aH.true
     iterate 16 first|refine Zg ?_|refine Zh ?_
     (refine ZG (fun v=>v= .bool false) gK ?_ (s:=fun T wq kq ltq ae ub=>by exact(Sb wq).mono (fun e w' h=>⟨_,h.1,rfl,by rw[h.2];exact Mod.refl _ _⟩));rintro v58 hC;subst hC;try simp only[zL])
     iterate 2 refine Zg ?_
     refine TG.nil (fun w4 ⟨TR,hr⟩=> ?_);replace k3:=hr.q k3;replace k4:=hr.q k4;replace k5:=hr.q k5;replace kl:=hr.q kl;clear gK;have gx:=Hi hr.mod;clear hr k3 k4 k5 kl
     gi_wp2
     exact HF.out _ _ (gx.out.at0 By.out.1) (gx.out.at0 By.out.2) (gx.out.mono (fun _ _ h=>h.elim))
  ·have hd:decide (j<ll)=false:=Df (by omega);have nu:pkS l s j=s:=by unfold pkS;rw[cr.out,if_neg (by omega)]
   rw[nu]at HF;have By:=Hi (Ai k4 k5);clear fy hs k4 k5 nu;have Lk3:=aA k3;refine fZ (T0:=fun _=>False) (K:=fun _ _=>True) (κ:=fun i=>[0,0,0,0,0,0,0,0,0,0,0,0,0,0,0,0,0,0,0].getD i 0) (υ:=fun _=>[]) [0,1,2,3,4,5,6,7,8,9,10,11,12,13,14,15,16,17,18] (by kernel_rfl) (by kernel_rfl) (by rintro⟨_,_,h⟩;exact hL ⟨_,_,h⟩) (by kernel_rfl) (aH.true).cl (trivial) (fun _ h=>h.elim) ?_;have gK:=aH.true
   iterate 5 first|refine Zg ?_|refine Zh ?_
   iterate 13 (refine TG.pass (by simp only[zK];rfl) rfl (by rfl) ?_;try simp only[zL])
   refine Zg ?_;refine TG.nil (fun w4 ⟨TR,hr⟩=> ?_);replace k3:=hr.q k3;clear gK;have gx:=Hi hr.mod;clear hr k3
   gi_wp2
   exact HF.out _ _ (gx.out.at0 By.out.1) (gx.out.at0 By.out.2) (gx.out.mono (fun _ _ h=>h.elim))
 case done=>
  rintro D xs W hD rfl ⟨k4,k5,mW⟩ hK;have HMW:Hid (Mod (fun i=>w.heap.size≤i) w W):=Hi ((HW.out.mono (fun _ _ h=>h.elim)).then mW (fun i hi e=>by have h:=HG.out;have h1:=HS.out;have h2:=m0;omega));change W.heap[p4]? =some (.cells (oi (pkR m l)) 3 (0,0))at k4;change W.heap[p5]? =some (.cells #[.bool (pkR m l).isSome] 4 (0,0))at k5;unfold oi at k4;generalize((pkR m l).getD 0)=r at *;generalize(pkR m l).isSome=z at *;go_upto_region 5 with fail;have Uk:=Hi k4;have Kz:=Hi k5;have HKD:=Hi hK;clear k4 k5 hK mW;refine bL (T0:=fun _=>False) (K:=fun _ _=>True) (κ:=fun i=>[0,0,6,6].getD i 0) (υ:=fun _=>[]) [0,1,2,3] (by kernel_rfl) (by kernel_rfl) (aH.true).cl (trivial) (fun _ h=>h.elim) ?_;have gK:=aH.true;(refine TG.load (v:= ?v80) (p:= ?p80) (by simp only[zK];rfl) rfl (by rfl) rfl ?hx80 (fun wq ae=> ?y80) ?n80;(case hx80=>simp only[zM];try rfl);(case y80=>(exact VN (ae.at0 Uk.out)));try simp only[zL]);(refine TG.load (v:= ?v81) (p:= ?p81) (by simp only[zK];rfl) rfl (by rfl) rfl ?hx81 (fun wq ae=> ?y81) ?n81;(case hx81=>simp only[zM];try rfl);(case y81=>(exact VM (ae.at0 Kz.out)));try simp only[zL]);(refine TG.storeU (X:= ?X82) (Y:= ?Y82) (fun _ _=>True) (aH.true) (by simp only[zK];rfl) rfl (by rfl) rfl rfl ?hx82 ?hz82 (fun T wq ae kq=> ?y82) (fun _=> ?n82);(case hx82=>simp only[zM];try rfl);(case hz82=>simp only[zM];try rfl);(case y82=>(exact⟨wq,by have:(Instr.storeAt 3 (.pointer (some ⟨p4,0,none⟩)) (.int .i64 (r:Int))).run Tryz.prog wq= .ok () (setBlock wq p4 (.cells #[.int .i64 (r:Int)] 3 (0,0))):=k8 (ae.at0 Uk.out) (by kernel_rfl) (by simp) rfl;rw[iC (ae.at0 Uk.out)]at this;exact this,Mod.refl _ _,trivial⟩));replace gK:=(aH.true);try simp only[zL]);(refine TG.storeU (X:= ?X83) (Y:= ?Y83) (fun _ _=>True) (aH.true) (by simp only[zK];rfl) rfl (by rfl) rfl rfl ?hx83 ?hz83 (fun T wq ae kq=> ?y83) (fun _=> ?n83);(case hx83=>simp only[zM];try rfl);(case hz83=>simp only[zM];try rfl);(case y83=>(exact⟨wq,by have:(Instr.storeAt 4 (.pointer (some ⟨p5,0,none⟩)) (.bool z)).run Tryz.prog wq= .ok () (setBlock wq p5 (.cells #[.bool z] 4 (0,0))):=k8 (ae.at0 Kz.out) (by kernel_rfl) (by simp) rfl;rw[iC (ae.at0 Kz.out)]at this;exact this,Mod.refl _ _,trivial⟩));replace gK:=(aH.true);try simp only[zL]);refine TG.nil (fun w4 ⟨TR,hr⟩=> ?_);clear gK;have gx:=Hi hr.mod;clear hr;go_wp2_with fail;rw[←Yd.out];refine⟨fun c h=>(by cases h),fun h=>(by cases h),?_⟩;rw[←Lf.out];have hKD:=gx.out.at0 HKD.out;refine⟨by simp,.inl ⟨_,_,rfl,run_takeDeferred hKD,?_⟩⟩;have h:=HS.out;have Ma:p4≠D∧p5≠D:=by omega
  refine⟨_,rJ rfl rfl rfl (VN ((World.putObj_heap_other Ma.1).trans (gx.out.at0 Uk.out))) (VM ((World.putObj_heap_other Ma.2).trans (gx.out.at0 Kz.out))),rfl,?_⟩;have mm:=HMW.out.then gx.out (fun i _ e=>e.elim);exact(mm.then (pG _ D _) (fun i hi e=>by omega)).mono (fun i hi e=>by omega)
end
end Go.Proofs.YtblbegbjlaokjaaGreatDoor