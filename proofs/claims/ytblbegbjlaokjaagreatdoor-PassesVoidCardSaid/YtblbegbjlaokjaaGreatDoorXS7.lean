/- The lemmas of the proof, part XO7: how the program and its data lie in memory, and what its functions do. -/
import Derived.Test.YtblbegbjlaokjaaGreatDoorXS6
import Derived.OwnWalk
import Derived.WalkLawsBesides
import Derived.Laws.Externs
import Derived.WalkMore
import Derived.Scope
import Derived.Lib.Bytes
import Derived.RangeFuncNested
import Derived.RangeFuncBox
import Derived.RangeFuncLeaves
import Derived.RangeFuncCalls
import Derived.Shelf.Abstract
import Derived.WalkKit
import Derived.OwnWalkIn
import Derived.TacticsInMore
import Derived.LoopNIn
import Derived.LoopIn
set_option linter.unusedSimpArgs false
set_option linter.unusedVariables false
set_option linter.unusedSectionVars false

set_option maxRecDepth 100000
set_option maxHeartbeats 6400000
namespace Go.Proofs.YtblbegbjlaokjaaGreatDoor
open Go.RowKit
open Go.ChangeMaps (setBlock)
section
attribute [local go_sem↓] dH bZ dF eK f8 fQ d8
attribute [local go_sem] aH aC aN aK aP aF aO Value.cells rkc_size cW bD bW dB jA eJ iT fS eE gC jB bG cD cF
def bU.con (y:bU):It:=⟨y.n,y.r.con,y.pl.toNat,y.sent⟩
def cO (R:List (Option bU)):List (Option It):=R.map (Option.map bU.con)
structure Bf (w:World) (b s h:Nat) (R:List (Option bU)) (C:List Nd) (Ts Th Tr:Nat→Prop):Prop where
 kb:w.heap[b]? =some (.cells #[ptrV s,ptrV h] 149 (0,0))
 sat:vC s R Ts w
 hat:gI h C Th w
 rd:∀(i:Nat) y,R[i]? =some (some y)→gL w y.r∧kA Tr y.r∧lJ y.r.con
 dsh:∀i,Ts i→¬Th i
 drs:∀i,Tr i→¬Ts i
 drh:∀i,Tr i→¬Th i
 db:¬Ts b∧¬Th b∧¬Tr b
section
variable {w w':World} {b s h:Nat} {R R':List (Option bU)} {C C':List Nd} {Ts Th Tr Th' Tr':Nat→Prop}
theorem Bf.mod0 (H:Bf w b s h R C Ts Th Tr) (hm:Mod (fun _=>False) w w'):Bf w' b s h R C Ts Th Tr:=
 ⟨hm.at0 H.kb,(vC.good s R).cl Ts w w' H.sat (hm.mono (fun _ _ e=>e.elim)),(gI.good h C).cl Th w w' H.hat (hm.mono (fun _ _ e=>e.elim)),fun i y hy=>⟨(H.rd i y hy).1.mod0 hm,(H.rd i y hy).2⟩,H.dsh,H.drs,H.drh,H.db⟩
theorem Bf.stepH (H:Bf w b s h R C Ts Th Tr) (hlt:∀i,Ts i∨Tr i∨i=b→i<w.heap.size) (hA:gI h C' Th' w') (hm:Mod Th w w') (hT:∀i,Th' i→Th i∨w.heap.size≤i):Bf w' b s h R C' Ts Th' Tr:=by
 refine⟨hm.at H.kb H.db.2.1,(vC.good s R).cl Ts w w' H.sat (hm.mono (fun i _ e k=>H.dsh i k e)),hA,fun i y hy=>⟨(H.rd i y hy).1.mod hm (H.rd i y hy).2.1 (fun j hj=>H.drh j hj),(H.rd i y hy).2⟩,fun i hi e=> ?_,H.drs,fun i hi e=> ?_,H.db.1,fun e=> ?_,H.db.2.2⟩
 ·rcases hT i e with h|h
  ·exact H.dsh i hi h
  ·have:=hlt i (.inl hi);omega
 ·rcases hT i e with h|h
  ·exact H.drh i hi h
  ·have:=hlt i (.inr (.inl hi));omega
 ·rcases hT b e with h|h
  ·exact H.db.2.1 h
  ·have:=hlt b (.inr (.inr rfl));omega
theorem Bf.stepS (H:Bf w b s h R C Ts Th Tr) (hA:vC s R' Ts w') (hm:Mod Ts w w') (hrd:∀(i:Nat) y,R'[i]? =some (some y)→R[i]? =some (some y)∨(gL w y.r∧kA Tr y.r∧lJ y.r.con)):Bf w' b s h R' C Ts Th Tr:=by
 refine⟨hm.at H.kb H.db.1,hA,(gI.good h C).cl Th w w' H.hat (hm.mono (fun i _ e k=>H.dsh i e k)),fun i y hy=> ?_,H.dsh,H.drs,H.drh,H.db⟩;have h1:gL w y.r∧kA Tr y.r∧lJ y.r.con:=by
  rcases hrd i y hy with h|h
  ·exact H.rd i y h
  ·exact h
 exact⟨h1.1.mod hm h1.2.1 (fun j hj=>H.drs j hj),h1.2⟩
theorem Bf.more (H:Bf w b s h R C Ts Th Tr) (hT:∀i,Tr i→Tr' i) (h1:∀i,Tr' i→¬Ts i) (h2:∀i,Tr' i→¬Th i) (h3:¬Tr' b):Bf w b s h R C Ts Th Tr':=
 ⟨H.kb,H.sat,H.hat,fun i y hy=>⟨(H.rd i y hy).1,(H.rd i y hy).2.1.mono hT,(H.rd i y hy).2.2⟩,H.dsh,h1,h2,H.db.1,H.db.2.1,h3⟩
end
def BH (w0:World) (O:Nat→Prop) (b:Nat) (S:List (Option It)) (ws:World):Prop:=∃s h R C Ts Th Tr,Bf ws b s h R C Ts Th Tr∧S=cO R∧C.Perm (f9 0 S)∧(∀i,Ts i∨Th i∨Tr i∨i=b→(O i∨w0.heap.size≤i)∧i<ws.heap.size)∧Mod O w0 ws
section
variable {w0 w1 w2 ws:World} {O:Nat→Prop} {b:Nat} {S:List (Option It)}
theorem BH.mod0 (H:BH w0 O b S w1) (hm:Mod (fun _=>False) w1 w2):BH w0 O b S w2:=by
 obtain⟨s,h,R,C,Ts,Th,Tr,HB,hS,hp,hT,m⟩:=H;exact⟨s,h,R,C,Ts,Th,Tr,HB.mod0 hm,hS,hp,fun i hi=>⟨(hT i hi).1,aZd (hT i hi).2 hm.size⟩,m.then0 hm⟩
theorem BH.m (H:BH w0 O b S w1):Mod O w0 w1:=by
 obtain⟨s,h,R,C,Ts,Th,Tr,HB,hS,hp,hT,m⟩:=H;exact m
def BT (b:Nat) (S:List (Option It)) (T:Nat→Prop) (w:World):Prop:=∃s h R C Ts Th Tr,Bf w b s h R C Ts Th Tr∧S=cO R∧C.Perm (f9 0 S)∧(∀i,Ts i∨Th i∨Tr i∨i=b→T i∧i≠0∧i<w.heap.size)
theorem BT.bh {T:Nat→Prop} {w:World} (H:BT b S T w):BH w (fun i=>T i∧i≠0) b S w:=by
 obtain⟨s,h,R,C,Ts,Th,Tr,HB,hS,hp,hT⟩:=H;exact⟨s,h,R,C,Ts,Th,Tr,HB,hS,hp,fun i hi=>⟨.inl ⟨(hT i hi).1,(hT i hi).2.1⟩,(hT i hi).2.2⟩,Mod.refl _ _⟩
theorem BT.pos {T:Nat→Prop} {w:World} (H:BT b S T w):0<w.heap.size:=by
 obtain⟨s,h,R,C,Ts,Th,Tr,HB,hS,hp,hT⟩:=H;have:=aA HB.kb;omega
theorem BH.bt {T:Nat→Prop} {w w':World} (H:BH w (fun i=>T i∧i≠0) b S w') (h0:0<w.heap.size):BT b S (Grow T w w') w':=by
 obtain⟨s,h,R,C,Ts,Th,Tr,HB,hS,hp,hT,m⟩:=H;refine⟨s,h,R,C,Ts,Th,Tr,HB,hS,hp,fun i hi=> ?_⟩;obtain⟨h1,h2⟩:=hT i hi;rcases h1 with h1|h1
 ·exact⟨.inl h1.1,h1.2,h2⟩
 ·exact⟨.inr ⟨h1,h2⟩,by omega,h2⟩
theorem BH.mt {T:Nat→Prop} {w w':World} (H:BH w (fun i=>T i∧i≠0) b S w'):Mod T w w':=H.m.mono (fun _ _ h=>h.1)
theorem BT.good (b:Nat) (S:List (Option It)):aI (BT b S) where
 cl:=fun T w w' H hm=>by
  obtain⟨s,h,R,C,Ts,Th,Tr,HB,hS,hp,hT⟩:=H;have hn:∀ {X:Nat→Prop},(∀i,X i→Ts i∨Th i∨Tr i∨i=b)→Mod (fun i=>¬X i) w w':=fun hX=>hm.mono (fun i _ e k=>e (hT i (hX i k)).1);refine⟨s,h,R,C,Ts,Th,Tr,⟨hm.at HB.kb (fun e=>e (hT b (.inr (.inr (.inr rfl)))).1),(vC.good s R).cl Ts w w' HB.sat (hn (fun i h=> .inl h)),(gI.good h C).cl Th w w' HB.hat (hn (fun i h=> .inr (.inl h))),fun i y hy=>⟨(HB.rd i y hy).1.mod (hn (X:=Tr) (fun i h=> .inr (.inr (.inl h)))) (HB.rd i y hy).2.1 (fun j hj e=>e hj),(HB.rd i y hy).2⟩,HB.dsh,HB.drs,HB.drh,HB.db⟩,hS,hp,fun i hi=>⟨(hT i hi).1,(hT i hi).2.1,aZd (hT i hi).2.2 hm.size⟩⟩
 gr:=fun T T' w hT' H=>by
  obtain⟨s,h,R,C,Ts,Th,Tr,HB,hS,hp,hT⟩:=H;exact⟨s,h,R,C,Ts,Th,Tr,HB,hS,hp,fun i hi=>⟨hT' i (hT i hi).1,(hT i hi).2⟩⟩
theorem vC.len {s:Nat} {R:List (Option bU)} {T:Nat→Prop} {w:World} (h:vC s R T w):1≤R.length∧R.length≤4096:=by
 obtain⟨g,u,cur,us,H,_⟩:=h;exact H.len
theorem BH.len (H:BH w0 O b S w1):1≤S.length∧S.length≤4096:=by
 obtain⟨s,h,R,C,Ts,Th,Tr,HB,rfl,hp,hT,m⟩:=H;simpa[cO] using HB.sat.len
end
theorem tB {R:List (Option bU)} {i:Nat} {x:It} (h:(cO R)[i]? =some (some x)):∃y,R[i]? =some (some y)∧y.con=x:=by
 unfold cO at h;rw[aZv]at h;cases hR:R[i]? with
 |none=>rw[hR]at h;cases h
 |some o=>
  rw[hR]at h;cases o with
  |none=>cases h
  |some y=>exact⟨y,rfl,by simpa using h⟩
theorem E8 {R:List (Option bU)} {i:Nat} (h:(cO R)[i]? =some none):R[i]? =some none:=by
 unfold cO at h;rw[aZv]at h;cases hR:R[i]? with
 |none=>rw[hR]at h;cases h
 |some o=>
  rw[hR]at h;cases o with
  |none=>rfl
  |some y=>cases h
theorem tC {R:List (Option bU)} {i:Nat} {y:bU}:cO (R.set i (some y))=(cO R).set i (some y.con):=by
 unfold cO;rw[aX4];rfl
theorem vT {R:List (Option bU)} {i:Nat}:cO (R.set i none)=(cO R).set i none:=by
 unfold cO;rw[aX4];rfl
theorem bthere_c {w:World} {b s h:Nat} (kb:w.heap[b]? =some (.cells #[ptrV s,ptrV h] 149 (0,0))):Calls Tryz.prog 47 #[ptrV b] w fun e w'=>e= .returned (.bool true)∧w'=w:=by
 go_enter Tryz.func47,Tryz.ntmps47;go_wp2_with fail;go_ret;exact⟨rfl,rfl⟩
def bU.rk (y:bU):Rk:=⟨y.r.prio,y.n⟩
theorem irank_c (y:bU) (w:World):Calls Tryz.prog 52 #[.agg (dL y)] w fun e w'=>e= .returned (.agg (rkc y.rk))∧Mod (fun _=>False) w w':=by
 have hb0:∀w,(Instr.build 152 #[(0,u64v y.r.prio),(1,u64v y.n)]).run Tryz.prog w= .ok (.agg (rkc y.rk)) w:=fun w=>by kernel_rfl
 go_enter Tryz.func52,Tryz.ntmps52;go_upto_region 0 with fail;refine ZP0 [3,3] ?_;refine Zb fun p1 hp1=> ?_;refine Za xV fun p2 hp2=> ?_;obtain⟨ne_p2_p1,hp2⟩:=Bx.set_none hp2;refine TD.nil (fun w1 hr=> ?_);obtain⟨gp1,kp1⟩:=hr.b p1 (by first|exact Bx.set_same _ _ _|(simp only[Bx.set_ne _ (Ne.symm ne_p2_p1),Bx.set_ne _ ne_p2_p1,Bx.set_same];rfl));obtain⟨gp2,kp2⟩:=hr.b p2 (by first|exact Bx.set_same _ _ _|(simp only[Bx.set_ne _ (Ne.symm ne_p2_p1),Bx.set_ne _ ne_p2_p1,Bx.set_same];rfl));have m1:=hr.mod;clear hr;replace kp2:w1.heap[p2]? =some (.cells #[.int .u64 0,.int .u64 0] 152 (0,0)):=kp2;go_upto_region 1 with fail;have Lkp1:=aA kp1;have Lkp2:=aA kp2;refine ZP0 [0,0,1,0,1,0,5] ?_
 iterate 5 first|refine Zv ?_|refine Zd ?_
 refine Zu hb0 ?_;refine Zi fun w2 hr=> ?_;have kp1:=hr.mod.at kp1 (fun h=>h);have kp2:=hr.mod.at kp2 (fun h=>h);have m2:=m1.then0 hr.mod;clear hr;refine ZS ?_;refine ZN kp2 fun wn kp2 mS=> ?_;(try simp only[Array.setIfInBounds,zL]at kp2);have m3:=m2.thenB mS (.inl gp2);clear mS;go_wp2_with fail;exact bodyPost_ret (results_cell1 (v:= .agg (rkc y.rk)) rfl rfl (by rw[eK];simp[kp2,rkc])) rfl ⟨rfl,m3⟩
section
variable {w w':World} {b s h:Nat} {R R':List (Option bU)} {C C':List Nd} {Ts Th Tr Th' Tr':Nat→Prop}
theorem sget_c (hs:vC s R Ts w) {i:Nat} {y:bU} (hy:R[i]? =some (some y)):Calls Tryz.prog 97 #[ptrV s,.int .i64 (i:Int)] w fun e w'=>e= .returned (.tuple #[.agg (dL y),.int .i64 0])∧Mod (fun _=>False) w w':=by
 obtain⟨g,u,cur,us,H,_⟩:=hs;exact OY H hy
theorem QR (hs:vC s R Ts w) {i:Nat} {y:bU} (hy:R[i]? =some (some y)) (z:bU):Calls Tryz.prog 120 #[ptrV s,.int .i64 (i:Int),.agg (dL z)] w fun e w'=>e= .returned (.int .i64 0)∧vC s (R.set i (some z)) Ts w'∧Mod Ts w w':=by
 obtain⟨g,u,cur,us,H,h1,h2,h3⟩:=hs;refine(QH H hy z).mono ?_;rintro e w' ⟨he,cur',H',hm⟩;exact⟨he,⟨g,u,cur',us,H',h1,h2,h3⟩,hm.mono (fun i _ e=>by subst e;exact h2)⟩
theorem BG (hs:vC s R Ts w) {i:Nat} {y:bU} (hy:R[i]? =some (some y)):Calls Tryz.prog 54 #[ptrV s,.int .i64 (i:Int)] w fun e w'=>e= .returned (.int .i64 0)∧vC s (R.set i none) Ts w'∧Mod Ts w w':=by
 obtain⟨g,u,cur,us,H,h1,h2,h3⟩:=hs;refine(KJ H hy).mono ?_;rintro e w' ⟨he,cur',us',H',hm⟩;exact⟨he,⟨g,u,cur',us',H',h1,h2,h3⟩,hm.mono (fun i _ e=>by rcases e with e|e|e<;>subst e<;>assumption)⟩
theorem QN (hs:vC s R Ts w) (hw:dS w) (hf:R.countP Option.isSome≠R.length) (y:bU):Calls Tryz.prog 49 #[ptrV s,.agg (dL y)] w fun e w'=>∃n:Nat,oZ R n∧e= .returned (.tuple #[.int .i64 (n:Int),.int .i64 0])∧vC s (R.set n (some y)) Ts w'∧Mod Ts w w':=by
 obtain⟨g,u,cur,us,H,h1,h2,h3⟩:=hs;refine(P5 H hw hf y).mono ?_;rintro e w' ⟨n,hn,he,cur',us',H',hm⟩;exact⟨n,hn,he,⟨g,u,cur',us',H',h1,h2,h3⟩,hm.mono (fun i _ e=>by rcases e with e|e|e<;>subst e<;>assumption)⟩
end
end
section
attribute [local go_sem↓] dH bZ dF eK f8 fQ d8
attribute [local go_sem] aH aC aN aK aP aF aO Value.cells rkc_size cW bD bW dB jA eJ iT fS eE gC jB bG cD cF
theorem uU {p:UInt8} (h:p=0):((p.toNat:Int)==0)=true:=by subst h;rfl
theorem I2 {p:UInt8} (h:p≠0):((p.toNat:Int)==0)=false:=by
 rw[beq_eq_false_iff_ne];intro e;exact h (UInt8.toNat_inj.1 (by simpa using e))
theorem nI {i:Nat} {x:It} (h:x.pl≠0):nodeOf i (some x)=[]:=by simp[nodeOf,h]
theorem bJ (R:List (Option bU)):(cO R).length=R.length:=by simp[cO]
theorem xL {i:Nat} {S:List (Option It)}:(wtgo i S).length≤S.length:=by
 unfold wtgo;rw[aZg];have h1:=mJ (S:=S.take i) (k:=0);have h2:=mJ (S:=S.drop (i+1)) (k:=i+1);rw[aZ4]at h1;rw[List.length_drop]at h2;omega
structure D6 (w0:World) (O:Nat→Prop) (b p i:Nat) (R:List (Option bU)) (s h:Nat) (C:List Nd) (Ts Th Tr:Nat→Prop) (w:World):Prop where
 bf:Bf w b s h R C Ts Th Tr
 perm:C.Perm (wtgo i (cO R))
 lt:∀j,Ts j∨Th j∨Tr j∨j=b→(O j∨w0.heap.size≤j)∧j<w.heap.size
 m:Mod O w0 w
 box:¬Ts p∧¬Th p∧¬Tr p∧b≠p∧w0.heap.size≤p
section
variable {w0 w w':World} {O:Nat→Prop} {b p i s h:Nat} {R:List (Option bU)} {C:List Nd} {Ts Th Tr:Nat→Prop}
theorem D6.mod0 (M:D6 w0 O b p i R s h C Ts Th Tr w) (hm:Mod (fun _=>False) w w'):D6 w0 O b p i R s h C Ts Th Tr w':=
 ⟨M.bf.mod0 hm,M.perm,fun j hj=>⟨(M.lt j hj).1,aZd (M.lt j hj).2 hm.size⟩,M.m.then0 hm,M.box⟩
theorem D6.setP (M:D6 w0 O b p i R s h C Ts Th Tr w) (hm:Mod (fun j=>j=p) w w'):D6 w0 O b p i R s h C Ts Th Tr w':=by
 have H:=M.bf;obtain⟨b1,b2,b3,b4,b5⟩:=M.box;refine⟨⟨hm.at H.kb b4,(vC.good s R).cl Ts w w' H.sat (hm.mono (fun j _ e k=>b1 (e▸k))),(gI.good h C).cl Th w w' H.hat (hm.mono (fun j _ e k=>b2 (e▸k))),fun k y hy=>⟨(H.rd k y hy).1.mod hm (H.rd k y hy).2.1 (fun j hj e=>b3 (e▸hj)),(H.rd k y hy).2⟩,H.dsh,H.drs,H.drh,H.db⟩,M.perm,fun j hj=>⟨(M.lt j hj).1,aZd (M.lt j hj).2 hm.size⟩,M.m.thenB hm (.inl b5),M.box⟩
theorem D6.small (M:D6 w0 O b p i R s h C Ts Th Tr w):C.length≤700000:=by
 have h1:=M.perm.length_eq;have h2:=xL (i:=i) (S:=cO R);rw[bJ]at h2;have:=M.bf.sat.len.2;omega
theorem D6.ids (M:D6 w0 O b p i R s h C Ts Th Tr w) (hi:i<R.length):∀z∈C,z.id≠idn i:=fun z hz=>by
 have:=M.bf.sat.len.2;exact oX (by rw[bJ];omega) (M.perm.mem_iff.1 hz) (by rw[bJ];exact hi)
end
theorem oO {w0 w:World} {O:Nat→Prop} {b s h i:Nat} {R:List (Option bU)} {C:List Nd} {Ts Th Tr:Nat→Prop} (H:Bf w b s h R C Ts Th Tr) (hlt:∀j,Ts j∨Th j∨Tr j∨j=b→(O j∨w0.heap.size≤j)∧j<w.heap.size) (m:Mod O w0 w) {y:bU} (hy:R[i]? =some (some y)) (z:bU) (hz:z.r=y.r)
  (hp:C.Perm (f9 0 ((cO R).set i (some z.con)))):Calls Tryz.prog 120 #[ptrV s,.int .i64 (i:Int),.agg (dL z)] w fun e w'=>e= .returned (.int .i64 0)∧BH w0 O b ((cO R).set i (some z.con)) w':=by
 refine(QR H.sat hy z).mono ?_;rintro e w' ⟨he,hs,hm⟩;refine⟨he,s,h,R.set i (some z),C,Ts,Th,Tr,H.stepS hs hm (fun k y' hy'=> ?_),tC.symm,hp,fun j hj=>⟨(hlt j hj).1,aZd (hlt j hj).2 hm.size⟩,m.then hm (fun j hj e=>(hlt j (.inl e)).1.resolve_right (by omega))⟩;by_cases hk:k=i
 ·subst hk;rw[List.getElem?_set_self (aZa.1 hy).1]at hy';cases hy';refine .inr ?_;rw[hz];exact H.rd k y hy
 ·rw[aZ0 (fun e=>hk e.symm)]at hy';exact .inl hy'
theorem turn_c {w0 ws:World} {O:Nat→Prop} {b:Nat} {S:List (Option It)} (H:BH w0 O b S ws) {i:Nat} {x:It} (hx:S[i]? =some (some x)) (p:UInt8):Calls Tryz.prog 77 #[ptrV b,.int .i64 (i:Int),.int .u8 (p.toNat:Int)] ws fun e w'=>e= .returned (.tuple #[])∧BH w0 O b (S.set i (some {x with pl:=p.toNat})) w':=by
 have hlen:=H.len;obtain⟨s,h,R,C,Ts,Th,Tr,HB,rfl,hperm,hT,m⟩:=H;obtain⟨y,hy,rfl⟩:=tB hx;have kb:=HB.kb;have HH:=Hi (Ai HB (Ai hperm (Ai hT (Ai m (Ai hx hy)))));have HLEN:Hid (i<R.length∧R.length≤4096):=Hi ⟨(aZa.1 hy).1,by rw[bJ]at hlen;exact hlen.2⟩;clear HB hperm hT m hx hy hlen;go_enter Tryz.func77,Tryz.ntmps77;go_upto_region 0 with fail;have Lkb:=aA kb;refine ZR0 (fun _ _ v=>v= .tuple #[.agg (dL y),.int .i64 0]) [0,0,0,0,1,0,2,0,0,0,3,4,0] ?_
 iterate 6 first|refine Zv ?_|refine Zd ?_
 (refine Zc ?_ (s:=by intro wq hSq;exact(sget_c (HH.out.1.mod0 hSq).sat HH.out.2.2.2.2.2).mono (fun e w' h=>⟨_,h.1,rfl,h.2⟩));rintro _ rfl;try simp only[zL])
 iterate 3 refine Zv ?_
 refine Za eT fun p6 hp6=> ?_;refine Zt ?_;refine Zv ?_;refine TD.nil (fun w1 hr=> ?_);have kb:=hr.mod.at kb (fun h=>h);obtain⟨gp6,kp6⟩:=hr.b p6;have m1:=hr.mod;clear hr;have hpb:b≠p6:=by omega
 have hbx:∀j,Ts j∨Th j∨Tr j∨j=b→j≠p6:=fun j hj e=>by have:=(HH.out.2.2.1 j hj).2;omega
 have HBX:=Hi hbx;clear hbx;by_cases hw:y.pl=0
 ·have hwz:=uU hw;have HW:=Hi hw;clear hw;go_upto_region 2 with fail;have Lkb:=aA kb;have Lkp6:=aA kp6;refine ZP0 [0,0,0,0,1,0,5] ?_
  iterate 6 first|refine Zv ?_|refine Zd ?_
  refine Zi fun w2 hr=> ?_;have kb:=hr.mod.at kb (fun h=>h);have kp6:=hr.mod.at kp6 (fun h=>h);have m2:=m1.then0 hr.mod;have hl2:p6<w2.heap.size:=aA kp6;clear hr;have hcall:Calls Tryz.prog 53 #[ptrV h,.int .i64 (i:Int)] w2 fun e w'=>e= .returned (.tuple #[.agg (rkc y.rk),.int .i64 0])∧∃C1 Th1,D6 w0 O b p6 i R s h C1 Ts Th1 Tr w'∧w'.heap[p6]? =some (.cells (dL y) 82 (0,0)):=by
   obtain⟨HB,hperm,hT,m,hx,hy⟩:=HH.out;have hidn:(idn i).toInt=(i:Int):=cB (by have:=HLEN.out;omega);have hnm:=wN hperm hx (by show y.pl.toNat=0;rw[HW.out];rfl);have hC:C.length≤700000:=by
    rw[hperm.length_eq];have:=mJ (S:=cO R) (k:=0);rw[bJ]at this;have:=HLEN.out;omega
   have HB2:=HB.mod0 m2;have hc:=AF HB2.hat (fun j hj=>aZd (hT j (.inr (.inl hj))).2 m2.size) (idn i) hC ⟨_,hnm,rfl⟩;rw[hidn]at hc;refine hc.mono ?_;rintro e w' ⟨⟨z,hz,hzi,he⟩,hA,hm⟩;have hzr:z.r=y.rk:=by
    have hnd:(C.map Nd.id).Nodup:=HB.hat.ids;obtain⟨a,ha⟩:=aZ8.1 hz;obtain⟨c,hcc⟩:=aZ8.1 hnm;have e1:(C.map Nd.id)[a]? =some (idn i):=by rw[aZv,ha];simp[hzi]
    have e2:(C.map Nd.id)[c]? =some (idn i):=by rw[aZv,hcc];rfl
    have:=(aWd (aZa.1 e1).1 hnd).1 (e1.trans e2.symm);subst this;rw[ha]at hcc;cases hcc;rfl
   rw[hzr]at he;refine⟨he,_,Th,⟨HB2.stepH (fun j hj=>aZd (hT j (by rcases hj with hj|hj|hj;exact .inl hj;exact .inr (.inr (.inl hj));exact .inr (.inr (.inr hj)))).2 m2.size) hA hm (fun j hj=> .inl hj),mT (by rw[bJ];have:=HLEN.out;omega) hperm hx (by show y.pl.toNat=0;rw[HW.out];rfl),fun j hj=>⟨(hT j hj).1,aZd (hT j hj).2 (aYb m2.size hm.size)⟩,(m.then0 m2).then hm (fun j hj e=>(hT j (.inr (.inl e))).1.resolve_right (by omega)),⟨fun e=>HBX.out p6 (.inl e) rfl,fun e=>HBX.out p6 (.inr (.inl e)) rfl,fun e=>HBX.out p6 (.inr (.inr (.inl e))) rfl,fun e=>HBX.out b (.inr (.inr (.inr rfl))) e,aYb m.size gp6⟩⟩,hm.at kp6 (fun e=>HBX.out p6 (.inr (.inl e)) rfl)⟩
  clear kb kp6;(refine cA (by simp only[zK];rfl) (by rfl) ?y21 hcall (fun wn hP=> ?n21);(case y21=>(go_simp;(try(first|with_reducible rfl|(constructor<;>with_reducible rfl)))));try simp only[zL]);refine TE.nil ?_;clear hcall;obtain⟨C1,Th1,hM,kp6⟩:=hP;have M1:=Hi hM;clear hM;go_upto_region 3 with fail;have Lkp6:=aA kp6;refine ZP0 [0,0,5] ?_
  iterate 2 refine Zv ?_
  refine Zi fun wE hr=> ?_;have kp6:=hr.mod.at0 kp6;have mE:=hr.mod;refine ZS ?_;refine ZN kp6 fun w3 kp6 mS=> ?_;have M3:=Hi ((M1.out.mod0 mE).setP mS);clear mE hr mS M1;rw[IN]at kp6;by_cases hp:p=0
  ·have hpz:=uU hp;have HP:=Hi hp;clear hp;have hidn:(idn i).toInt=(i:Int):=cB (by have:=HLEN.out;omega);have HC:=Hi (Ai hidn (Ai M3.out.small (M3.out.ids HLEN.out.1)));have kb3:=M3.out.bf.kb;have nb:¬Th1 b:=M3.out.bf.db.2.1;have np:¬Th1 p6:=M3.out.box.2.1;clear hidn;go_upto_region 5 with fail;have Lkb3:=aA kb3;have Lkp6:=aA kp6;refine cJ (T0:=Th1) (K:=gI h C1) (κ:=fun i=>[0,0,0,0,0,0,6,0,6].getD i 0) (υ:=fun _=>[]) [0,1,2,3,4,5,6,7,8] (by kernel_rfl) (by kernel_rfl) (gI.good h C1).cl (M3.out.bf.hat) (fun j hj=>(M3.out.lt j (.inr (.inl hj))).2) ?_;have gK:=gI.good h C1
   iterate 4 refine Zg ?_
   (refine Zk ?_ (hy:=by intro wq hSq;have kb3q:=hSq.atn kb3;have kp6q:=hSq.atn kp6;go_simp;try with_reducible rfl));(refine Zk ?_ (hy:=by intro wq hSq;have kb3q:=hSq.atn kb3;have kp6q:=hSq.atn kp6;go_simp;try with_reducible rfl));(refine ZG (fun v=>v= .agg (rkc y.rk)) gK ?_ (s:=fun T wq kq ltq hSq ub=>by have kb3q:=hSq.atn kb3;have kp6q:=hSq.atn kp6;exact(irank_c {y with pl:=p} wq).mono (fun e w' h=>⟨_,h.1,rfl,h.2⟩));rintro v31 hC;subst hC;try simp only[zL]);refine Zg ?_;(refine TG.callK (f:= ?f33) (args:= ?r33) (fun v T w=>v= .int .i64 0∧gI h (C1++[⟨y.rk,idn i⟩]) T w) (fun v=>(aI.pure (v= .int .i64 0)).and (gI.good h (C1++[⟨y.rk,idn i⟩]))) (by simp only[zK];rfl) rfl (by rfl) (fun w1=> ?y33) (fun T wq kq ltq hSq ub=> ?hsp33) ?n33;(case y33=>(go_simp;(first|with_reducible rfl|(constructor<;>with_reducible rfl))));(case hsp33=>(have kb3q:=hSq.atn kb3;have kp6q:=hSq.atn kp6;have hc:=uD kq ltq y.rk (idn i) HC.out.2.1 HC.out.2.2;rw[HC.out.1]at hc;exact hc.mono (fun e w' hh=>by obtain⟨he,T',hA',hm',hg',hl'⟩:=hh;exact⟨_,he,hm',rfl,(gI.good h _).gr _ _ _ (fun j hj=>by rcases hg' j hj with h9|h9;exact .inl h9;exact .inr ⟨h9,hl' j hj⟩) hA'⟩)));rintro v33 ⟨wI,TI,hI⟩;replace gK:=(fun v=>(aI.pure (v= .int .i64 0)).and (gI.good h (C1++[⟨y.rk,idn i⟩]))) v33;obtain⟨rfl,_⟩:=hI.k;(try clear hI TI wI);try simp only[zL]);refine TG.nil (fun w4 ⟨TR,hr⟩=> ?_);have kb3:=hr.mod.atn kb3;have kp6:=hr.mod.atn kp6;clear gK;have HB4:=M3.out.bf.stepH (fun j hj=>(M3.out.lt j (by rcases hj with hj|hj|hj;exact .inl hj;exact .inr (.inr (.inl hj));exact .inr (.inr (.inr hj)))).2) hr.k.2 hr.mod (fun j hj=>by
    by_cases h9:j<w3.heap.size
    ·exact .inl (hr.old j h9 hj)
    ·exact .inr (by omega))
   have HLT:Hid (∀j,Ts j∨TR j∨Tr j∨j=b→(O j∨w0.heap.size≤j)∧j<w4.heap.size):=Hi (fun j hj=>by
    have hsz:=hr.mod.size;have h0:=M3.out.m.size;rcases hj with hj|hj|hj
    ·have:=M3.out.lt j (.inl hj);exact⟨this.1,by omega⟩
    ·refine⟨?_,hr.lt j hj⟩;by_cases h9:j<w3.heap.size
     ·exact(M3.out.lt j (.inr (.inl (hr.old j h9 hj)))).1
     ·omega
    ·have:=M3.out.lt j (.inr (.inr hj));exact⟨this.1,by omega⟩)
   have HMM:Hid (Mod O w0 w4):=Hi (M3.out.m.then hr.mod (fun j hj e=>(M3.out.lt j (.inr (.inl e))).1.resolve_right (by omega)));have hpm:List.Perm (C1++[(⟨y.rk,idn i⟩:Nd)]) (f9 0 ((cO R).set i (some ({y with pl:=p}:bU).con))):=nM (x:=({y with pl:=p}:bU).con) M3.out.perm (by rw[bJ];exact HLEN.out.1) (by rw[HP.out];rfl);clear hr;have kbF:=HB4.kb;have HPM:=Hi hpm;have HBF:=Hi HB4;clear HB4;go_upto_region 6 with fail;have LkbF:=aA kbF;have Lkp6:=aA kp6;refine ZP [0,0,0,0,1,0,1,5] ?_
   iterate 7 first|refine Zv ?_|refine Zd ?_
   refine Zi fun w7 hr=> ?_;have kbF:=hr.mod.at kbF (fun h=>h);have kp6:=hr.mod.at kp6 (fun h=>h);have m7:=hr.mod;clear hr;have hcall:=oO (w0:=w0) (HBF.out.mod0 m7) (fun j hj=>⟨(HLT.out j hj).1,aZd (HLT.out j hj).2 m7.size⟩) (HMM.out.then0 m7) HH.out.2.2.2.2.2 {y with pl:=p} rfl HPM.out;clear m7;(refine cA (by simp only[zK];rfl) (by rfl) ?y42 hcall (fun wn hP=> ?n42);(case y42=>(go_simp;(try(first|with_reducible rfl|(constructor<;>with_reducible rfl)))));try simp only[zL]);refine TE.nil ?_;have HX:=Hi hP;clear hP hcall;go_wp2_with fail;go_end0;exact⟨rfl,HX.out⟩
  ·have hpz:=I2 hp;have hpm:List.Perm C1 (f9 0 ((cO R).set i (some ({y with pl:=p}:bU).con))):=iB M3.out.perm (by rw[bJ];exact HLEN.out.1) (nI (fun e=>hp (UInt8.toNat_inj.1 e)));have HB4:=M3.out.bf;have HLT:=Hi M3.out.lt;have HMM:=Hi M3.out.m;clear hp;have kbF:=HB4.kb;have HPM:=Hi hpm;have HBF:=Hi HB4;clear HB4;go_upto_region 6 with fail;have LkbF:=aA kbF;have Lkp6:=aA kp6;refine ZP [0,0,0,0,1,0,1,5] ?_
   iterate 7 first|refine Zv ?_|refine Zd ?_
   refine Zi fun w7 hr=> ?_;have kbF:=hr.mod.at kbF (fun h=>h);have kp6:=hr.mod.at kp6 (fun h=>h);have m7:=hr.mod;clear hr;have hcall:=oO (w0:=w0) (HBF.out.mod0 m7) (fun j hj=>⟨(HLT.out j hj).1,aZd (HLT.out j hj).2 m7.size⟩) (HMM.out.then0 m7) HH.out.2.2.2.2.2 {y with pl:=p} rfl HPM.out;clear m7;(refine cA (by simp only[zK];rfl) (by rfl) ?y51 hcall (fun wn hP=> ?n51);(case y51=>(go_simp;(try(first|with_reducible rfl|(constructor<;>with_reducible rfl)))));try simp only[zL]);refine TE.nil ?_;have HX:=Hi hP;clear hP hcall;go_wp2_with fail;go_end0;exact⟨rfl,HX.out⟩
 ·have hwz:=I2 hw;have M1:Hid (D6 w0 O b p6 i R s h C Ts Th Tr w1):=Hi (by
   obtain⟨HB,hperm,hT,m,hx,hy⟩:=HH.out;refine⟨HB.mod0 m1,(nJ (by rw[bJ];have:=HLEN.out;omega) hperm hx (nI (fun e=>hw (UInt8.toNat_inj.1 e)))).2,fun j hj=>⟨(hT j hj).1,aZd (hT j hj).2 m1.size⟩,m.then0 m1,⟨fun e=>HBX.out p6 (.inl e) rfl,fun e=>HBX.out p6 (.inr (.inl e)) rfl,fun e=>HBX.out p6 (.inr (.inr (.inl e))) rfl,fun e=>HBX.out b (.inr (.inr (.inr rfl))) e,aYb m.size gp6⟩⟩)
  obtain⟨C1,hC1⟩:∃C1,C1=C:=⟨_,rfl⟩;obtain⟨Th1,hTh1⟩:∃Th1,Th1=Th:=⟨_,rfl⟩;rw[←hC1,←hTh1]at M1;clear kb hw hC1 hTh1;go_upto_region 3 with fail;have Lkp6:=aA kp6;refine ZP0 [0,0,5] ?_
  iterate 2 refine Zv ?_
  refine Zi fun wE hr=> ?_;have kp6:=hr.mod.at0 kp6;have mE:=hr.mod;refine ZS ?_;refine ZN kp6 fun w3 kp6 mS=> ?_;have M3:=Hi ((M1.out.mod0 mE).setP mS);clear mE hr mS M1;rw[IN]at kp6;by_cases hp:p=0
  ·have hpz:=uU hp;have HP:=Hi hp;clear hp;have hidn:(idn i).toInt=(i:Int):=cB (by have:=HLEN.out;omega);have HC:=Hi (Ai hidn (Ai M3.out.small (M3.out.ids HLEN.out.1)));have kb3:=M3.out.bf.kb;have nb:¬Th1 b:=M3.out.bf.db.2.1;have np:¬Th1 p6:=M3.out.box.2.1;clear hidn;go_upto_region 5 with fail;have Lkb3:=aA kb3;have Lkp6:=aA kp6;refine cJ (T0:=Th1) (K:=gI h C1) (κ:=fun i=>[0,0,0,0,0,0,6,0,6].getD i 0) (υ:=fun _=>[]) [0,1,2,3,4,5,6,7,8] (by kernel_rfl) (by kernel_rfl) (gI.good h C1).cl (M3.out.bf.hat) (fun j hj=>(M3.out.lt j (.inr (.inl hj))).2) ?_;have gK:=gI.good h C1
   iterate 4 refine Zg ?_
   (refine Zk ?_ (hy:=by intro wq hSq;have kb3q:=hSq.atn kb3;have kp6q:=hSq.atn kp6;go_simp;try with_reducible rfl));(refine Zk ?_ (hy:=by intro wq hSq;have kb3q:=hSq.atn kb3;have kp6q:=hSq.atn kp6;go_simp;try with_reducible rfl));(refine ZG (fun v=>v= .agg (rkc y.rk)) gK ?_ (s:=fun T wq kq ltq hSq ub=>by have kb3q:=hSq.atn kb3;have kp6q:=hSq.atn kp6;exact(irank_c {y with pl:=p} wq).mono (fun e w' h=>⟨_,h.1,rfl,h.2⟩));rintro v61 hC;subst hC;try simp only[zL]);refine Zg ?_;(refine TG.callK (f:= ?f63) (args:= ?r63) (fun v T w=>v= .int .i64 0∧gI h (C1++[⟨y.rk,idn i⟩]) T w) (fun v=>(aI.pure (v= .int .i64 0)).and (gI.good h (C1++[⟨y.rk,idn i⟩]))) (by simp only[zK];rfl) rfl (by rfl) (fun w1=> ?y63) (fun T wq kq ltq hSq ub=> ?hsp63) ?n63;(case y63=>(go_simp;(first|with_reducible rfl|(constructor<;>with_reducible rfl))));(case hsp63=>(have kb3q:=hSq.atn kb3;have kp6q:=hSq.atn kp6;have hc:=uD kq ltq y.rk (idn i) HC.out.2.1 HC.out.2.2;rw[HC.out.1]at hc;exact hc.mono (fun e w' hh=>by obtain⟨he,T',hA',hm',hg',hl'⟩:=hh;exact⟨_,he,hm',rfl,(gI.good h _).gr _ _ _ (fun j hj=>by rcases hg' j hj with h9|h9;exact .inl h9;exact .inr ⟨h9,hl' j hj⟩) hA'⟩)));rintro v63 ⟨wI,TI,hI⟩;replace gK:=(fun v=>(aI.pure (v= .int .i64 0)).and (gI.good h (C1++[⟨y.rk,idn i⟩]))) v63;obtain⟨rfl,_⟩:=hI.k;(try clear hI TI wI);try simp only[zL]);refine TG.nil (fun w4 ⟨TR,hr⟩=> ?_);have kb3:=hr.mod.atn kb3;have kp6:=hr.mod.atn kp6;clear gK;have HB4:=M3.out.bf.stepH (fun j hj=>(M3.out.lt j (by rcases hj with hj|hj|hj;exact .inl hj;exact .inr (.inr (.inl hj));exact .inr (.inr (.inr hj)))).2) hr.k.2 hr.mod (fun j hj=>by
    by_cases h9:j<w3.heap.size
    ·exact .inl (hr.old j h9 hj)
    ·exact .inr (by omega))
   have HLT:Hid (∀j,Ts j∨TR j∨Tr j∨j=b→(O j∨w0.heap.size≤j)∧j<w4.heap.size):=Hi (fun j hj=>by
    have hsz:=hr.mod.size;have h0:=M3.out.m.size;rcases hj with hj|hj|hj
    ·have:=M3.out.lt j (.inl hj);exact⟨this.1,by omega⟩
    ·refine⟨?_,hr.lt j hj⟩;by_cases h9:j<w3.heap.size
     ·exact(M3.out.lt j (.inr (.inl (hr.old j h9 hj)))).1
     ·omega
    ·have:=M3.out.lt j (.inr (.inr hj));exact⟨this.1,by omega⟩)
   have HMM:Hid (Mod O w0 w4):=Hi (M3.out.m.then hr.mod (fun j hj e=>(M3.out.lt j (.inr (.inl e))).1.resolve_right (by omega)));have hpm:List.Perm (C1++[(⟨y.rk,idn i⟩:Nd)]) (f9 0 ((cO R).set i (some ({y with pl:=p}:bU).con))):=nM (x:=({y with pl:=p}:bU).con) M3.out.perm (by rw[bJ];exact HLEN.out.1) (by rw[HP.out];rfl);clear hr;have kbF:=HB4.kb;have HPM:=Hi hpm;have HBF:=Hi HB4;clear HB4;go_upto_region 6 with fail;have LkbF:=aA kbF;have Lkp6:=aA kp6;refine ZP [0,0,0,0,1,0,1,5] ?_
   iterate 7 first|refine Zv ?_|refine Zd ?_
   refine Zi fun w7 hr=> ?_;have kbF:=hr.mod.at kbF (fun h=>h);have kp6:=hr.mod.at kp6 (fun h=>h);have m7:=hr.mod;clear hr;have hcall:=oO (w0:=w0) (HBF.out.mod0 m7) (fun j hj=>⟨(HLT.out j hj).1,aZd (HLT.out j hj).2 m7.size⟩) (HMM.out.then0 m7) HH.out.2.2.2.2.2 {y with pl:=p} rfl HPM.out;clear m7;(refine cA (by simp only[zK];rfl) (by rfl) ?y72 hcall (fun wn hP=> ?n72);(case y72=>(go_simp;(try(first|with_reducible rfl|(constructor<;>with_reducible rfl)))));try simp only[zL]);refine TE.nil ?_;have HX:=Hi hP;clear hP hcall;go_wp2_with fail;go_end0;exact⟨rfl,HX.out⟩
  ·have hpz:=I2 hp;have hpm:List.Perm C1 (f9 0 ((cO R).set i (some ({y with pl:=p}:bU).con))):=iB M3.out.perm (by rw[bJ];exact HLEN.out.1) (nI (fun e=>hp (UInt8.toNat_inj.1 e)));have HB4:=M3.out.bf;have HLT:=Hi M3.out.lt;have HMM:=Hi M3.out.m;clear hp;have kbF:=HB4.kb;have HPM:=Hi hpm;have HBF:=Hi HB4;clear HB4;go_upto_region 6 with fail;have LkbF:=aA kbF;have Lkp6:=aA kp6;refine ZP [0,0,0,0,1,0,1,5] ?_
   iterate 7 first|refine Zv ?_|refine Zd ?_
   refine Zi fun w7 hr=> ?_;have kbF:=hr.mod.at kbF (fun h=>h);have kp6:=hr.mod.at kp6 (fun h=>h);have m7:=hr.mod;clear hr;have hcall:=oO (w0:=w0) (HBF.out.mod0 m7) (fun j hj=>⟨(HLT.out j hj).1,aZd (HLT.out j hj).2 m7.size⟩) (HMM.out.then0 m7) HH.out.2.2.2.2.2 {y with pl:=p} rfl HPM.out;clear m7;(refine cA (by simp only[zK];rfl) (by rfl) ?y81 hcall (fun wn hP=> ?n81);(case y81=>(go_simp;(try(first|with_reducible rfl|(constructor<;>with_reducible rfl)))));try simp only[zL]);refine TE.nil ?_;have HX:=Hi hP;clear hP hcall;go_wp2_with fail;go_end0;exact⟨rfl,HX.out⟩
end
section
attribute [local go_sem↓] dH bZ dF eK f8 fQ d8
attribute [local go_sem] aH aC aN aK aP aF aO Value.cells rkc_size cW bD bW dB jA eJ iT fS eE gC jB bG cD cF
section
variable {w0 w w' ws:World} {O:Nat→Prop} {b s h:Nat} {R R':List (Option bU)} {C C':List Nd} {Ts Th Tr:Nat→Prop} {S:List (Option It)}
theorem AM (HB:Bf w b s h R C Ts Th Tr) {i:Nat} {y:bU} (hy:R[i]? =some (some y)):Calls Tryz.prog 58 #[ptrV b,.int .i64 (i:Int)] w fun e w'=>e= .returned (.tuple #[.agg (dL y),.int .i64 0])∧Mod (fun _=>False) w w':=by
 have kb:=HB.kb;have HH:=Hi (Ai HB hy);clear HB hy;go_enter Tryz.func58,Tryz.ntmps58;go_upto_region 0 with fail;have Lkb:=aA kb;refine ZP0 [3,0] ?_;refine Za eT fun p4 hp4=> ?_;refine Zv ?_;refine TD.nil (fun w1 hr=> ?_);have kb:=hr.mod.at kb (fun h=>h);obtain⟨gp4,kp4⟩:=hr.b p4;have m1:=hr.mod;clear hr;go_wp2_with fail;go_at_call 47;refine(bthere_c kb).mono ?_;rintro e w2 ⟨rfl,rfl⟩;go_upto_region 3 with fail;have Lkb:=aA kb;have Lkp4:=aA kp4;refine ZR0 (fun _ _ v=>v= .tuple #[.agg (dL y),.int .i64 0]) [0,0,0,0,1,0,2,0,0,5,0] ?_
 iterate 6 first|refine Zv ?_|refine Zd ?_
 (refine Zc ?_ (s:=by intro wq hSq;exact(sget_c (HH.out.1.mod0 (m1.then0 hSq)).sat HH.out.2).mono (fun e w' h=>⟨_,h.1,rfl,h.2⟩));rintro _ rfl;try simp only[zL])
 iterate 2 refine Zv ?_
 refine Zi fun w3 hr=> ?_;have kb:=hr.mod.at kb (fun h=>h);have kp4:=hr.mod.at kp4 (fun h=>h);have m3:=m1.then0 hr.mod;clear hr;refine ZS ?_;refine ZM kp4 fun wn kp4 mS=> ?_;(try simp only[Array.setIfInBounds,zL]at kp4);have m4:=m3.thenB mS (.inl gp4);clear mS;refine Ze ?_;refine TE.nil ?_;go_wp2_with fail;exact bodyPost_ret (results_cell2 (x:= .agg (dL y)) rfl rfl (by rw[bZ];simp[kp4,bW,bD])) rfl ⟨rfl,m4⟩
theorem J1 (H:BH w0 O b S w) {D:List Nd} (hD:D.Perm (f9 0 S)) (hS:u4 D):Calls Tryz.prog 15 #[ptrV b] w fun e w'=>∃v,e= .returned v∧aE ic 1 3 w' w.heap.size v (D.map Nd.id)∧Mod (fun _=>False) w w':=by
 have hsl:=H.len;obtain⟨s,h,R,C,Ts,Th,Tr,HB,rfl,hperm,hT,m⟩:=H;have kb:=HB.kb;have hC:C.length≤700000:=by
  have h1:=hperm.length_eq;have h2:=mJ (S:=cO R) (k:=0);omega
 have HH:=Hi (Ai HB (Ai (hD.trans hperm.symm) (Ai hS hC)));clear HB hperm hT m hC hS hD hsl;go_enter Tryz.func15,Tryz.ntmps15;go_wp2_with fail;go_at_call 47;refine(bthere_c kb).mono ?_;rintro e w2 ⟨rfl,rfl⟩;go_wp2_with fail;go_at_call 56;refine(listS_c HH.out.1.hat HH.out.2.1 HH.out.2.2.1 HH.out.2.2.2).mono ?_;rintro e w3 ⟨v,rfl,ho,m3⟩;have HO:=Hi (Ai ho m3);clear ho m3;go_wp2_with fail;go_ret;exact⟨_,rfl,HO.out.1,HO.out.2⟩
end
end
section
attribute [local go_sem↓] dH bZ dF eK f8 fQ d8
attribute [local go_sem] aH aC aN aK aP aF aO Value.cells rkc_size cW bD bW dB jA eJ iT fS eE gC jB bG cD cF
theorem Q4 {p:UInt8} (k:UInt8) {K:Int} (hk:(k.toNat:Int)=K) (h:p≠k):((p.toNat:Int)==K)=false:=by
 rw[beq_eq_false_iff_ne];intro e;subst hk;exact h (UInt8.toNat_inj.1 (by exact_mod_cast e))
section
variable {w0 w w' ws:World} {O:Nat→Prop} {b:Nat} {S:List (Option It)}
theorem AL (H:BH w0 O b S w) {i:Nat} {x:It} (hx:S[i]? =some (some x)):∃y:bU,y.con=x∧∀wq,Mod (fun _=>False) w wq→Calls Tryz.prog 58 #[ptrV b,.int .i64 (i:Int)] wq fun e w'=>e= .returned (.tuple #[.agg (dL y),.int .i64 0])∧Mod (fun _=>False) wq w':=by
 obtain⟨s,h,R,C,Ts,Th,Tr,HB,rfl,hperm,hT,m⟩:=H;obtain⟨y,hy,rfl⟩:=tB hx;exact⟨y,rfl,fun wq hq=>AM (HB.mod0 hq) hy⟩
theorem JK (H:BH w0 O b S w) {i:Nat} {x:It} (hx:S[i]? =some (some x)) (hp:x.pl≠0):Calls Tryz.prog 34 #[ptrV b,.int .i64 (i:Int)] w fun e w'=>e= .returned (.int .i64 0)∧BH w0 O b (S.set i (some {x with pl:=0})) w':=by
 obtain⟨y,hy,hc⟩:=AL H hx;have hpl:((y.pl.toNat:Int)==0)=false:=Q4 0 rfl (fun e=>hp (by rw[←hy];show y.pl.toNat=0;rw[e];rfl));have HH:=Hi (Ai H (Ai hx (Ai hy hc)));clear H hx hy hc hp;go_enter Tryz.func34,Tryz.ntmps34;go_upto_region 1 with fail;refine ZR0 (fun _ _ v=>v= .tuple #[.agg (dL y),.int .i64 0]) [0,0,2,0,0,0,3,4,0] ?_
 iterate 2 refine Zv ?_
 (refine Zc ?_ (s:=by intro wq hSq;exact(HH.out.2.2.2 wq hSq).mono (fun e w' h=>⟨_,h.1,rfl,h.2⟩));rintro _ rfl;try simp only[zL])
 iterate 3 refine Zv ?_
 refine Za eT fun p5 hp5=> ?_;refine Zt ?_;refine Zv ?_;refine TD.nil (fun w3 hr=> ?_);obtain⟨gp5,kp5⟩:=hr.b p5;have m3:=hr.mod;clear hr;go_wp2_with fail;go_at_call 77;refine(turn_c (HH.out.1.mod0 m3) HH.out.2.1 0).mono ?_;rintro e w4 ⟨rfl,H4⟩;have HX:=Hi H4;clear H4;go_wp2_with fail;go_ret;exact⟨rfl,HX.out⟩
theorem FO (H:BH w0 O b S w) {i:Nat} {x:It} (hx:S[i]? =some (some x)) (hp:x.pl≠0):∃s h,w.heap[b]? =some (.cells #[ptrV s,ptrV h] 149 (0,0))∧Calls Tryz.prog 54 #[ptrV s,.int .i64 (i:Int)] w fun e w'=>e= .returned (.int .i64 0)∧BH w0 O b (S.set i none) w':=by
 have hlen:=H.len;obtain⟨s,h,R,C,Ts,Th,Tr,HB,rfl,hperm,hT,m⟩:=H;obtain⟨y,hy,rfl⟩:=tB hx;refine⟨s,h,HB.kb,(BG HB.sat hy).mono ?_⟩;rintro e w' ⟨he,hs,hm⟩;have hil:i<(cO R).length:=(aZa.1 hx).1;refine⟨he,s,h,R.set i none,C,Ts,Th,Tr,HB.stepS hs hm (fun k y' hy'=> ?_),vT.symm,?_,fun j hj=>⟨(hT j hj).1,aZd (hT j hj).2 hm.size⟩,m.then hm (fun j hj e=>(hT j (.inl e)).1.resolve_right (by omega))⟩
 ·by_cases hk:k=i
  ·subst hk;rw[List.getElem?_set_self (aZa.1 hy).1]at hy';cases hy'
  ·rw[aZ0 (fun e=>hk e.symm)]at hy';exact .inl hy'
 ·exact iB (nJ (by omega) hperm hx (by simp[nodeOf,hp])).2 hil rfl
theorem JL (H:BH w0 O b S w) {i:Nat} {x:It} (hx:S[i]? =some (some x)):Calls Tryz.prog 101 #[ptrV b,.int .i64 (i:Int)] w fun e w'=>e= .returned (.int .i64 0)∧BH w0 O b (S.set i none) w':=by
 obtain⟨y,hy,hc⟩:=AL H hx;have hp:=trivial;have HH:=Hi (Ai H (Ai hx (Ai hy hc)));clear H hx hy hc hp;go_enter Tryz.func101,Tryz.ntmps101;go_upto_region 1 with fail;refine ZR0 (fun _ _ v=>v= .tuple #[.agg (dL y),.int .i64 0]) [0,0,2,0,0,0,3,4,0] ?_
 iterate 2 refine Zv ?_
 (refine Zc ?_ (s:=by intro wq hSq;exact(HH.out.2.2.2 wq hSq).mono (fun e w' h=>⟨_,h.1,rfl,h.2⟩));rintro _ rfl;try simp only[zL])
 iterate 3 refine Zv ?_
 refine Za eT fun p5 hp5=> ?_;refine Zt ?_;refine Zv ?_;refine TD.nil (fun w3 hr=> ?_);obtain⟨gp5,kp5⟩:=hr.b p5;have m3:=hr.mod;clear hr;go_wp2_with fail;go_at_call 77;refine(turn_c (HH.out.1.mod0 m3) HH.out.2.1 1).mono ?_;rintro e w4 ⟨rfl,H4⟩;have hx4:(S.set i (some {x with pl:=(1:UInt8).toNat}))[i]? =some (some {x with pl:=(1:UInt8).toNat}):=List.getElem?_set_self (aZa.1 HH.out.2.1).1;obtain⟨s,h,kb,hf⟩:=FO H4 hx4 (by show(1:UInt8).toNat≠0;decide);rw[List.set_set]at hf;have HF:=Hi hf;clear H4 hx4 hf;go_wp2_with fail;go_at_call 54;refine HF.out.mono ?_;rintro e w5 ⟨rfl,H5⟩;have HX:=Hi H5;clear H5;go_wp2_with fail;go_ret;exact⟨rfl,HX.out⟩
end
end
section
attribute [local go_sem↓] dH bZ dF eK f8 fQ d8
attribute [local go_sem] aH aC aN aK aP aF aO Value.cells rkc_size cW bD bW dB jA eJ iT fS eE gC jB bG cD cF
section
variable {w0 w w' ws:World} {O:Nat→Prop} {b:Nat} {S:List (Option It)}
theorem EU (H:BH w0 O b S w) {D:List Nd} (hD:D.Perm (f9 0 S)) (hS:u4 D):∃s h,w.heap[b]? =some (.cells #[ptrV s,ptrV h] 149 (0,0))∧∀wq,Mod (fun _=>False) w wq→Calls Tryz.prog 139 #[ptrV h] wq fun e w'=>e= .returned (R8 (OJ D.head?))∧Mod (fun _=>False) wq w':=by
 obtain⟨s,h,R,C,Ts,Th,Tr,HB,rfl,hperm,hT,m⟩:=H;exact⟨s,h,HB.kb,fun wq hq=>QW (HB.mod0 hq).hat (hD.trans hperm.symm) hS⟩
theorem bpopN_c (H:BH w0 O b S w) (hw:f9 0 S=[]):Calls Tryz.prog 99 #[ptrV b] w fun e w'=>e= .returned (.tuple #[.int .i64 0,.bool false])∧Mod (fun _=>False) w w':=by
 obtain⟨s,h,kb,hc⟩:=EU H (D:=[]) (by rw[hw]) .nil;clear hw;have HH:=Hi (Ai H hc);clear H hc;go_enter Tryz.func99,Tryz.ntmps99;go_wp2_with fail;go_at_call 47;refine(bthere_c kb).mono ?_;rintro e w2 ⟨rfl,rfl⟩;go_upto_region 3 with fail;have Lkb:=aA kb;refine ZR0 (fun _ _ v=>v= .tuple #[.agg (rkc IG),.int .i64 0,.bool false]) [0,0,0,0,1,2,0,0,0,0,0,0] ?_
 iterate 5 first|refine Zv ?_|refine Zd ?_
 (refine Zc ?_ (s:=by intro wq hSq;exact(HH.out.2 wq hSq).mono (fun e w' h=>⟨_,h.1,rfl,h.2⟩));rintro _ rfl;try simp only[zL])
 iterate 6 refine Zv ?_
 refine TD.nil (fun w3 hr=> ?_);have kb:=hr.mod.at kb (fun h=>h);have m3:=hr.mod;clear hr;go_wp2_with fail;exact bodyPost_ret (results_tmp2 rfl _ _ _) rfl ⟨rfl,m3⟩
theorem J0 (H:BH w0 O b S w) {D:List Nd} (hD:D.Perm (f9 0 S)) (hS:u4 D) {i:Nat} {x:It} (hx:S[i]? =some (some x)) (hh:D.head? =some ⟨x.rk,idn i⟩):Calls Tryz.prog 99 #[ptrV b] w fun e w'=>e= .returned (.tuple #[.int .i64 (i:Int),.bool true])∧BH w0 O b (S.set i (some {x with pl:=1})) w':=by
 have hlen:=H.len;have hil:i<S.length:=(aZa.1 hx).1;obtain⟨s,h,kb,hc⟩:=EU H hD hS;rw[hh]at hc;have hi:(idn i).toInt=(i:Int):=cB (by omega);have hv:R8 (OJ (some ⟨x.rk,idn i⟩))= .tuple #[.agg (rkc x.rk),.int .i64 (i:Int),.bool true]:=by
  show R8 ⟨x.rk,idn i,true⟩=_;unfold R8;rw[hi]
 rw[hv]at hc;have HXX:=Hi hx;clear hD hS hx hh hi hv hlen hil;have HH:=Hi (Ai H hc);clear H hc;go_enter Tryz.func99,Tryz.ntmps99;go_wp2_with fail;go_at_call 47;refine(bthere_c kb).mono ?_;rintro e w2 ⟨rfl,rfl⟩;go_upto_region 3 with fail;have Lkb:=aA kb;refine ZR0 (fun _ _ v=>v= .tuple #[.agg (rkc x.rk),.int .i64 (i:Int),.bool true]) [0,0,0,0,1,2,0,0,0,0,0,0] ?_
 iterate 5 first|refine Zv ?_|refine Zd ?_
 (refine Zc ?_ (s:=by intro wq hSq;exact(HH.out.2 wq hSq).mono (fun e w' h=>⟨_,h.1,rfl,h.2⟩));rintro _ rfl;try simp only[zL])
 iterate 6 refine Zv ?_
 refine TD.nil (fun w3 hr=> ?_);have kb:=hr.mod.at kb (fun h=>h);have m3:=hr.mod;clear hr;go_wp2_with fail;go_at_call 77;refine(turn_c (HH.out.1.mod0 m3) HXX.out 1).mono ?_;rintro e w4 ⟨rfl,H4⟩;have HX:=Hi H4;clear H4;go_wp2_with fail;exact bodyPost_ret (results_tmp2 rfl _ _ _) rfl ⟨rfl,HX.out⟩
end
end
section
attribute [local go_sem↓] dH bZ dF jX iD jV
attribute [local go_sem] aH aC aN aK aP aF aO Value.cells rkc_size cW bD bW dB jA eJ iT fS eE gC jB bG cD cF bF dE dW
theorem aY.modI {α:Type} {f:α→Array Value} {n m c:Nat} {E:TypeId} {b:Nat} {w w':World} {a:Option Addr} {l:List α} {S T:Nat→Prop} (h:aY f n E b w (.slice a m c) l) (hm:Mod S w w') (hi:D5 T a) (hT:∀i,T i→¬S i):aY f n E b w' (.slice a m c) l:=by
 refine h.mod hm (fun g hg=>hT g ?_);rcases h with⟨e,_⟩|⟨g',cur,e,_⟩
 ·injection e with e1 _ _
  subst e1;cases hg
 ·injection e with e1 _ _
  subst e1;cases hg;exact hi _ _ rfl
section
variable {w0 w w' ws:World} {O:Nat→Prop} {b base:Nat} {S:List (Option It)} {x:cS}
theorem dM.mod {S T:Nat→Prop} (h:dM base w x) (hm:Mod S w w') (hi:kA T x) (hT:∀i,T i→¬S i):dM base w' x:=
 ⟨h.b.modI hm hi.b hT,h.sg.modI hm hi.sg hT,h.ks.modI hm hi.ks hT,h.ins.modI hm hi.ins hT,fun y hy=>⟨(h.insB y hy).1.modI hm (hi.insB y hy).1 hT,(h.insB y hy).2.modI hm (hi.insB y hy).2 hT⟩,h.lks.modI hm hi.lks hT,fun y hy=>⟨(h.lksB y hy).1.modI hm (hi.lksB y hy).1 hT,(h.lksB y hy).2.modI hm (hi.lksB y hy).2 hT⟩,h.ro.modI hm hi.ro hT⟩
theorem dM.mod0 (h:dM base w x) (hm:Mod (fun _=>False) w w'):dM base w' x:=h.mod hm h.inn (fun _ _ h=>h)
theorem dM.lower {b':Nat} (h:dM base w x) (hb:b'≤base):dM b' w x:=
 ⟨h.b.base hb,h.sg.base hb,h.ks.base hb,h.ins.base hb,fun y hy=>⟨(h.insB y hy).1.base hb,(h.insB y hy).2.base hb⟩,h.lks.base hb,fun y hy=>⟨(h.lksB y hy).1.base hb,(h.lksB y hy).2.base hb⟩,h.ro.base hb⟩
end
def UV (base:Nat) (c:JG) (v:Value):aL:=fun T w=>∃x:cS,v= .agg (bT x)∧x.con=c∧dM base w x∧kA T x
theorem tG (base:Nat) (c:JG) (v:Value):aI (UV base c v) where
 cl:=fun T w w' h hm=>by
  obtain⟨x,e,hc,hn,hi⟩:=h;exact⟨x,e,hc,hn.mod hm hi (fun i hi hn=>hn hi),hi⟩
 gr:=fun T T' w hT h=>by
  obtain⟨x,e,hc,hn,hi⟩:=h;exact⟨x,e,hc,hn,hi.mono hT⟩
theorem FR {wq:World} {x:cS} (base:Nat) (hb:base≤wq.heap.size) (T:Nat→Prop) (hx:gL wq x) (hs:lJ x.con):Calls Tryz.prog 48 #[.agg (bT x)] wq fun e w'=>∃v,e= .returned v∧Mod (fun _=>False) wq w'∧UV base x.con v (Grow T wq w') w':=
 (KO hx hs).mono fun e w' h=>by
  obtain⟨y,he,hc,hn,hm⟩:=h;exact⟨_,he,hm,y,rfl,hc,hn.lower hb,hn.inn.mono (fun i hi=> .inr hi)⟩
theorem OX {w:World} {bv:Option Addr} {n er:Int} {y:bU} (hheld:∀wq,Mod (fun _=>False) w wq→Calls Tryz.prog 58 #[.pointer bv,.int .i64 n] wq fun e w'=>e= .returned (.tuple #[.agg (dL y),.int .i64 er])∧Mod (fun _=>False) wq w') (hok:gL w y.r) (hsm:lJ y.r.con):
  Calls Tryz.prog 17 #[.pointer bv,.int .i64 n] w fun e w'=>∃z:bU,z.con=y.con∧dM w.heap.size w' z.r∧e= .returned (.tuple #[.agg (dL z),.int .i64 er])∧Mod (fun _=>False) w w':=by
 have HH:=Hi (Ai hheld (Ai hok hsm));clear hheld hok hsm;go_enter Tryz.func17,Tryz.ntmps17;go_upto_region 0 with fail;refine ZP0 [3,0] ?_;refine Za eT fun p4 hp4=> ?_;refine Zv ?_;refine TD.nil (fun w1 hr=> ?_);obtain⟨gp4,kp4⟩:=hr.b p4;have m1:=hr.mod;clear hr;go_upto_region 1 with fail;have Lkp4:=aA kp4;refine ZR0 (fun _ _ v=>v= .tuple #[.agg (dL y),.int .i64 er]) [0,0,2,0,0,0,3,4,0] ?_
 iterate 2 refine Zv ?_
 (refine Zc ?_ (s:=by intro wq hSq;exact(HH.out.1 wq (m1.then0 hSq)).mono (fun e w' h=>⟨_,h.1,rfl,h.2⟩));rintro _ rfl;try simp only[zL])
 iterate 3 refine Zv ?_
 refine Za eT fun p6 hp6=> ?_;refine Zt ?_;refine Zv ?_;refine TD.nil (fun w2 hr=> ?_);have kp4:=hr.mod.at kp4 (fun h=>h);obtain⟨gp6,kp6⟩:=hr.b p6;have m2:=m1.then0 hr.mod;have HNE:Hid (p4≠p6∧w.heap.size≤p6):=Hi ⟨by omega,by have:=m1.size;omega⟩;clear hr;go_upto_region 2 with fail;have Lkp4:=aA kp4;have Lkp6:=aA kp6;refine D2 (T0:=fun _=>False) (K:=fun _ _=>True) (κ:=fun i=>[0,0,6,0,6].getD i 0) (υ:=fun _=>[]) [0,1,2,3] [4] (by kernel_rfl) (by kernel_rfl) (aI.true).cl (trivial) (fun _ h=>h.elim) ?_;have gK:=aI.true;refine Zg ?_;refine Zh ?_;(refine ZJ (UV w.heap.size y.r.con) (tG w.heap.size y.r.con) gK ?_ (s:=fun T wq kq ltq hSq ub=>by have kp4q:=hSq.at kp4 (fun h=>h);have kp6q:=hSq.at kp6 (fun h=>h);exact FR (x:=y.r) w.heap.size (m2.then0 hSq).size T (HH.out.2.1.mod0 (m2.then0 hSq)) HH.out.2.2);rintro v14 ⟨wI,TI,hI⟩;replace gK:=gK.and ((tG w.heap.size y.r.con) v14);(obtain⟨_,z0,rfl,_⟩:=hI.k);(try clear hI TI wI);try simp only[zL]);refine Zg ?_;refine TG.nil (fun w3 ⟨TR,hr⟩=> ?_);have kp4:=hr.mod.at kp4 (fun h=>h);have kp6:=hr.mod.at kp6 (fun h=>h);clear gK;obtain⟨_,z,hz,hzc,hzn,hzi⟩:=hr.k;rename_i hZ0 _ _;clear hZ0;injection hz with hz
 have hT6:∀g,TR g→g≠p6:=fun g hg e=>(hr.old g (e▸Lkp6) hg).elim;have hT4:∀g,TR g→g≠p4:=fun g hg e=>(hr.old g (e▸Lkp4) hg).elim;have m3:=m2.then0 hr.mod;have HZ:=Hi (Ai hzc (Ai hzn (Ai hzi (Ai hT6 hT4))));clear hr hzc hzn hzi hT6 hT4;refine Zz ?_;refine ZS ?_;refine ZN kp6 fun wn kp6 mS=> ?_;have m4:=m3.thenB mS (.inl HNE.out.2);have kp4:=mS.at kp4 HNE.out.1;have hkp:wn.heap[p6]? =some (.cells (dL {y with r:=z}) 82 (0,0)):=by
  have hs:=BF y z;rw[kp6,←hs,←hz]
 have HN:=Hi (show dM w.heap.size wn z from HZ.out.2.1.mod mS HZ.out.2.2.1 HZ.out.2.2.2.1);obtain⟨y2,hy2⟩:∃y2:bU,y2= {y with r:=z}:=⟨_,rfl⟩;rw[←hy2]at hkp;have HY2:=Hi hy2;have M4:=Hi m4;clear mS kp6 hz hy2 m4 m3 m2 m1;go_upto_region 3 with fail;simp only[Act.put];have Lkp4:=aA kp4;have Lhkp:=aA hkp;refine ZP0 [1,0,5,0] ?_;refine Zd ?_;refine Zv ?_;refine Zi fun w5 hr=> ?_;have kp4:=hr.mod.at kp4 (fun h=>h);have hkp:=hr.mod.at hkp (fun h=>h);have m5:=M4.out.then0 hr.mod;have m45:=hr.mod;clear hr;refine ZS ?_;refine ZM kp4 fun wn kp4 mS=> ?_;(try simp only[Array.setIfInBounds,zL]at kp4);have m6:=m5.thenB mS (.inl gp4);have HN6:=Hi (show dM w.heap.size wn z from(HN.out.mod0 m45).mod mS HZ.out.2.2.1 HZ.out.2.2.2.2);clear mS;refine Ze ?_;refine TE.nil ?_;go_wp2_with fail;refine bodyPost_ret (results_cell2 (x:= .agg (dL y2)) rfl rfl (by rw[bZ];simp[kp4,bW,bD])) rfl ⟨y2,?_,?_,rfl,m6⟩
 ·rw[HY2.out];show(⟨y.n,z.con,y.pl.toNat,y.sent⟩:It)=⟨y.n,y.r.con,y.pl.toNat,y.sent⟩;rw[HZ.out.1]
 ·rw[HY2.out];exact HN6.out
section
variable {w0 w:World} {O:Nat→Prop} {b:Nat} {S:List (Option It)}
theorem EP (H:BH w0 O b S w) {i:Nat} {x:It} (hx:S[i]? =some (some x)):Calls Tryz.prog 17 #[ptrV b,.int .i64 (i:Int)] w fun e w'=>∃z:bU,z.con=x∧dM w.heap.size w' z.r∧e= .returned (.tuple #[.agg (dL z),.int .i64 0])∧Mod (fun _=>False) w w':=by
 obtain⟨s,h,R,C,Ts,Th,Tr,HB,rfl,hperm,hT,m⟩:=H;obtain⟨y,hy,rfl⟩:=tB hx;exact OX (fun wq hq=>AM (HB.mod0 hq) hy) (HB.rd i y hy).1 (HB.rd i y hy).2.2
end
end
section
attribute [local go_sem↓] dH bZ dF
attribute [local go_sem] aH aC aN aK aP aF aO Value.cells
def VL (base:Nat) (v:Value):aL:=fun T w=>∃h T',v=ptrV h∧gI h [] T' w∧(∀i,T' i→T i∧base≤i∧i<w.heap.size)
theorem FW (base:Nat) (v:Value):aI (VL base v) where
 cl:=fun T w w' h hm=>by
  obtain⟨h,T',e,hA,hT⟩:=h;exact⟨h,T',e,(gI.good h []).cl T' w w' hA (hm.mono (fun i _ e k=>e (hT i k).1)),fun i hi=>⟨(hT i hi).1,(hT i hi).2.1,aZd (hT i hi).2.2 hm.size⟩⟩
 gr:=fun T T' w hT h=>by
  obtain⟨h,T'',e,hA,hT'⟩:=h;exact⟨h,T'',e,hA,fun i hi=>⟨hT i (hT' i hi).1,(hT' i hi).2⟩⟩
theorem SX {base:Nat} {wq:World} (hb:base≤wq.heap.size) (T:Nat→Prop):Calls Tryz.prog 80 #[] wq fun e w'=>∃v,e= .returned v∧Mod (fun _=>False) wq w'∧VL base v (Grow T wq w') w':=
 (NB wq).mono fun e w' h=>by
  obtain⟨h,he,T',hA,hm,hT⟩:=h;exact⟨_,he,hm,h,T',rfl,hA,fun i hi=>⟨.inr (hT i hi),by have:=hT i hi;omega,(hT i hi).2⟩⟩
theorem qS:∀(n k:Nat),f9 k (List.replicate n none)=[]
 |0,_=>rfl
 |n+1,k=>qS n (k+1)
theorem JZ (w:World) {n:Nat} (h1:1≤n) (h2:n≤4096):Calls Tryz.prog 43 #[.int .i64 (n:Int)] w fun e w'=>∃b,e= .returned (.tuple #[ptrV b,.int .i64 0])∧BH w (fun _=>False) b (List.replicate n none) w':=by
 have HN:=Hi (Ai h1 h2);clear h1 h2;go_enter Tryz.func43,Tryz.ntmps43;go_wp2_with fail;go_at_call 79;refine(newY_c w HN.out.1 HN.out.2).mono ?_;rintro e w1 ⟨s,g,u,cur,us,rfl,hs,gs,gg,gu,m1⟩;have HS:=Hi (Ai hs (Ai gs (Ai gg (Ai gu m1))));clear hs gs gg gu m1;have hb1:∀(h:Nat) (w:World),(Instr.build 147 #[(0,ptrV s),(1,ptrV h)]).run Tryz.prog w= .ok (.agg #[ptrV s,ptrV h]) w:=fun h w=>by kernel_rfl
 have hb2:∀(h:Nat) (w:World),(Instr.build 149 #[(0,.agg #[ptrV s,ptrV h])]).run Tryz.prog w= .ok (.agg #[ptrV s,ptrV h]) w:=fun h w=>by kernel_rfl
 go_upto_region 4 with fail;refine wp_gpass0 (T0:=fun _=>False) (K:=fun _ _=>True) (κ:=fun i=>[0,6,0,0,3,0,0].getD i 0) (υ:=fun _=>[]) [0,1,2,3,4,5,6] (by kernel_rfl) (by kernel_rfl) (aI.true).cl (trivial) (fun _ h=>h.elim) ?_;have gK:=aI.true;refine Zg ?_;(refine ZJ (VL w1.heap.size) (FW w1.heap.size) gK ?_ (s:=fun T wq kq ltq hSq ub=>by exact SX (base:=w1.heap.size) hSq.size T);rintro v2 ⟨wI,TI,hI⟩;replace gK:=gK.and ((FW w1.heap.size) v2);(obtain⟨_,h,Th0,rfl,_⟩:=hI.k);(try clear hI TI wI);try simp only[zL]);(refine TG.build (v:= ?v3) (ps:= ?p3) (by simp only[zK];rfl) rfl (by rfl) rfl ?hx3 (fun w1=> ?y3) ?n3;(case hx3=>(simp only[aYr,aZo,aYo,zM];(try rfl)));(case y3=>(rw[(hb1 h)];(try with_reducible rfl)));try simp only[zL]);(refine TG.build (v:= ?v4) (ps:= ?p4) (by simp only[zK];rfl) rfl (by rfl) rfl ?hx4 (fun w1=> ?y4) ?n4;(case hx4=>(simp only[aYr,aZo,aYo,zM];(try rfl)));(case y4=>(rw[(hb2 h)];(try with_reducible rfl)));try simp only[zL]);(refine TG.box (v:= ?v5) (by simp only[zK];rfl) rfl (by rfl) rfl rfl ?hx5 (fun p18 hp18 _=> ?n5);(case hx5=>simp only[zM];try rfl);try simp only[zL])
 iterate 2 refine Zg ?_
 refine TG.nil (fun w2 ⟨TR,hr⟩=> ?_);obtain⟨gp18,nTp18,kp18⟩:=hr.b p18;clear gK;obtain⟨_,h',Th,hh,hA,hT⟩:=hr.k;injection hh with hh
 injection hh with hh
 injection hh with hh
 subst hh;have m2:=hr.mod;go_wp2_with fail;refine bodyPost_ret (results_tmp2 rfl _ _ _) rfl ⟨p18,rfl,s,h,List.replicate n none,[],fun i=>i=s∨i=g∨i=u,Th,fun _=>False,?_,?_,?_,?_,?_⟩
 ·have hs2:=HS.out.1.mod m2 (fun h=>h) (fun h=>h) (fun h=>h);have ls:=aA HS.out.1.ks;have lg:=aA HS.out.1.kg;have lu:=aA HS.out.1.ku;refine⟨kp18,⟨g,u,cur,us,hs2,.inl rfl,.inr (.inl rfl),.inr (.inr rfl)⟩,hA,fun i y hy=> ?_,fun i hi e=> ?_,fun i hi=>hi.elim,fun i hi=>hi.elim,fun e=> ?_,fun e=>nTp18 (hT _ e).1,fun h=>h⟩
  ·obtain⟨_,e⟩:=aZa.1 hy;rw[aX2]at e;cases e
  ·have:=(hT i e).2.1;rcases hi with rfl|rfl|rfl<;>omega
  ·rcases e with e|e|e<;>omega
 ·simp[cO]
 ·rw[qS]
 ·have ls:=aA HS.out.1.ks;have lg:=aA HS.out.1.kg;have lu:=aA HS.out.1.ku;have hz:=m2.size;have hz1:=HS.out.2.2.2.2.size;have lp:=aA kp18;obtain⟨_,gs,gg,gu,_⟩:=HS.out;intro i hi;rcases hi with(rfl|rfl|rfl)|hi|hi|rfl
  ·omega
  ·omega
  ·omega
  ·have:=hT i hi;omega
  ·exact hi.elim
  ·omega
 ·exact HS.out.2.2.2.2.then0 m2
end
section
def UP (w0:World) (O:Nat→Prop) (b:Nat) (S:List (Option It)) (T:Nat→Prop) (ws:World):Prop:=∃s h R C Ts Th Tr,Bf ws b s h R C Ts Th Tr∧S=cO R∧C.Perm (f9 0 S)∧(∀i,(Ts i∨Th i∨Tr i∨i=b)↔T i)∧(∀i,T i→(O i∨w0.heap.size≤i)∧i<ws.heap.size)∧Mod O w0 ws
theorem UP.bh {w0 ws:World} {O T:Nat→Prop} {b:Nat} {S:List (Option It)} (H:UP w0 O b S T ws):BH w0 O b S ws:=by
 obtain⟨s,h,R,C,Ts,Th,Tr,HB,hS,hp,hE,hT,m⟩:=H;exact⟨s,h,R,C,Ts,Th,Tr,HB,hS,hp,fun i hi=>hT i ((hE i).1 hi),m⟩
def BO (b:Nat) (S:List (Option It)) (T:Nat→Prop) (w:World):Prop:=UP w T b S T w∧¬T 0∧0<w.heap.size
theorem BO.h0 {w:World} {T:Nat→Prop} {b:Nat} {S:List (Option It)} (H:BO b S T w):0<w.heap.size∧¬T 0:=⟨H.2.2,H.2.1⟩
structure Mi (w0:World) (O:Nat→Prop) (b i:Nat) (R:List (Option bU)) (s h:Nat) (C:List Nd) (Ts Th Tr:Nat→Prop) (w:World):Prop where
 bf:Bf w b s h R C Ts Th Tr
 perm:C.Perm (wtgo i (cO R))
 lt:∀j,Ts j∨Th j∨Tr j∨j=b→(O j∨w0.heap.size≤j)∧j<w.heap.size
 m:Mod O w0 w
def gA {α:Type} (S:List (Option α)) (n:Nat):Prop:=S[n]? =some none∧∀i,i<n→∃y,S[i]? =some (some y)
theorem gA.uniq {α:Type} {S:List (Option α)} {n m:Nat} (h:gA S n) (k:gA S m):n=m:=by
 rcases Nat.lt_trichotomy n m with hl|hl|hl
 ·obtain⟨y,hy⟩:=k.2 n hl;rw[h.1]at hy;cases hy
 ·exact hl
 ·obtain⟨y,hy⟩:=h.2 m hl;rw[k.1]at hy;cases hy
theorem oZ.s {R:List (Option bU)} {n:Nat} (h:oZ R n):gA (cO R) n:=by
 refine⟨?_,fun i hi=> ?_⟩
 ·unfold cO;rw[aZv,h.1];rfl
 ·have ho:=h.2 i hi;have hlt:=(aZa.1 h.1).1;have hi2:i<R.length:=by omega
  have he:=aZb hi2;cases hc:R[i]with
  |none=>
   rw[hc]at he;have:=qB he;rw[ho]at this;cases this
  |some y=>
   rw[hc]at he;exact⟨y.con,by unfold cO;rw[aZv,he];rfl⟩
theorem gA.room {R:List (Option bU)} {n:Nat} (h:gA (cO R) n):R.countP Option.isSome≠R.length:=by
 intro e;have h1:=List.countP_eq_length.1 e none (aZi (E8 h.1));cases h1
theorem QI {α:Type} {l:List α} {i:Nat} {x:α} (h:l[i]? =some x):l.set i x=l:=by
 apply aXm;intro j;by_cases hj:j=i
 ·subst hj;rw[List.getElem?_set_self (aZa.1 h).1,h]
 ·rw[aZ0 (fun e=>hj e.symm)]
section
variable {w0 w w':World} {O:Nat→Prop} {b i s h:Nat} {R:List (Option bU)} {C:List Nd} {Ts Th Tr:Nat→Prop}
theorem Mi.mod0 (M:Mi w0 O b i R s h C Ts Th Tr w) (hm:Mod (fun _=>False) w w'):Mi w0 O b i R s h C Ts Th Tr w':=
 ⟨M.bf.mod0 hm,M.perm,fun j hj=>⟨(M.lt j hj).1,aZd (M.lt j hj).2 hm.size⟩,M.m.then0 hm⟩
theorem Mi.small (M:Mi w0 O b i R s h C Ts Th Tr w):C.length≤700000:=by
 have h1:=M.perm.length_eq;have h2:=xL (i:=i) (S:=cO R);rw[bJ]at h2;have:=M.bf.sat.len.2;omega
theorem Mi.ids (M:Mi w0 O b i R s h C Ts Th Tr w) (hi:i<R.length):∀z∈C,z.id≠idn i:=fun z hz=>by
 have:=M.bf.sat.len.2;exact oX (by rw[bJ];omega) (M.perm.mem_iff.1 hz) (by rw[bJ];exact hi)
theorem JW {wx:World} (HB:Bf w b s h R C Ts Th Tr) (hT:∀j,Ts j∨Th j∨Tr j∨j=b→(O j∨w0.heap.size≤j)∧j<w.heap.size) (m:Mod O w0 w) (hm:Mod (fun _=>False) w wx):
  Bf wx b s h R C Ts Th (fun j=>Tr j∨(w.heap.size≤j∧j<wx.heap.size))∧(∀j,Ts j∨Th j∨(Tr j∨(w.heap.size≤j∧j<wx.heap.size))∨j=b→(O j∨w0.heap.size≤j)∧j<wx.heap.size):=by
 have hsz:=hm.size;have h0:=m.size;refine⟨(HB.mod0 hm).more (fun i h=> .inl h) (fun i hi e=> ?_) (fun i hi e=> ?_) (fun hi=> ?_),fun j hj=> ?_⟩
 ·rcases hi with hi|hi
  ·exact HB.drs i hi e
  ·have:=(hT i (.inl e)).2;omega
 ·rcases hi with hi|hi
  ·exact HB.drh i hi e
  ·have:=(hT i (.inr (.inl e))).2;omega
 ·rcases hi with hi|hi
  ·exact HB.db.2.2 hi
  ·have:=(hT b (.inr (.inr (.inr rfl)))).2;omega
 ·rcases hj with hj|hj|(hj|hj)|hj
  ·have:=hT j (.inl hj);exact⟨this.1,by omega⟩
  ·have:=hT j (.inr (.inl hj));exact⟨this.1,by omega⟩
  ·have:=hT j (.inr (.inr (.inl hj)));exact⟨this.1,by omega⟩
  ·exact⟨.inr (by omega),hj.2⟩
  ·have:=hT j (.inr (.inr (.inr hj)));exact⟨this.1,by omega⟩
theorem VA (HB:Bf w b s h R C Ts Th Tr) (hperm:C.Perm (f9 0 (cO R))) (hT:∀j,Ts j∨Th j∨Tr j∨j=b→(O j∨w0.heap.size≤j)∧j<w.heap.size) (m:Mod O w0 w) {y:bU} (hy:R[i]? =some (some y)) (hp:y.pl=0):
  Calls Tryz.prog 53 #[ptrV h,.int .i64 (i:Int)] w fun e w'=>e= .returned (.tuple #[.agg (rkc y.rk),.int .i64 0])∧∃C1,Mi w0 O b i R s h C1 Ts Th Tr w'∧Mod Th w w':=by
 have hlen:=HB.sat.len.2;have hil:i<R.length:=(aZa.1 hy).1;have hidn:(idn i).toInt=(i:Int):=cB (by omega);have hx:(cO R)[i]? =some (some y.con):=by unfold cO;rw[aZv,hy];rfl
 have hpl:y.con.pl=0:=by show y.pl.toNat=0;rw[hp];rfl
 have hnm:=wN hperm hx hpl;have hC:C.length≤700000:=by
  rw[hperm.length_eq];have:=mJ (S:=cO R) (k:=0);rw[bJ]at this;omega
 have hc:=AF HB.hat (fun j hj=>(hT j (.inr (.inl hj))).2) (idn i) hC ⟨_,hnm,rfl⟩;rw[hidn]at hc;refine hc.mono ?_;rintro e w' ⟨⟨z,hz,hzi,he⟩,hA,hm⟩;have hzr:z.r=y.rk:=by
  have hnd:(C.map Nd.id).Nodup:=HB.hat.ids;obtain⟨a,ha⟩:=aZ8.1 hz;obtain⟨c,hcc⟩:=aZ8.1 hnm;have e1:(C.map Nd.id)[a]? =some (idn i):=by rw[aZv,ha];simp[hzi]
  have e2:(C.map Nd.id)[c]? =some (idn i):=by rw[aZv,hcc];rfl
  have:=(aWd (aZa.1 e1).1 hnd).1 (e1.trans e2.symm);subst this;rw[ha]at hcc;cases hcc;rfl
 rw[hzr]at he;exact⟨he,_,⟨HB.stepH (fun j hj=>(hT j (by rcases hj with hj|hj|hj;exact .inl hj;exact .inr (.inr (.inl hj));exact .inr (.inr (.inr hj)))).2) hA hm (fun j hj=> .inl hj),mT (by rw[bJ];omega) hperm hx hpl,fun j hj=>⟨(hT j hj).1,aZd (hT j hj).2 hm.size⟩,m.then hm (fun j hj e=>(hT j (.inr (.inl e))).1.resolve_right (by omega))⟩,hm⟩
theorem VB (M:Mi w0 O b i R s h C Ts Th Tr w) {y:bU} (hy:R[i]? =some (some y)):Calls Tryz.prog 54 #[ptrV s,.int .i64 (i:Int)] w fun e w'=>e= .returned (.int .i64 0)∧Mi w0 O b i (R.set i none) s h C Ts Th Tr w'∧Mod Ts w w':=by
 refine(BG M.bf.sat hy).mono ?_;rintro e w' ⟨he,hs,hm⟩;refine⟨he,⟨M.bf.stepS hs hm (fun k y' hy'=> ?_),?_,fun j hj=>⟨(M.lt j hj).1,aZd (M.lt j hj).2 hm.size⟩,M.m.then hm (fun j hj e=>(M.lt j (.inl e)).1.resolve_right (by omega))⟩,hm⟩
 ·by_cases hk:k=i
  ·subst hk;rw[List.getElem?_set_self (aZa.1 hy).1]at hy';cases hy'
  ·rw[aZ0 (fun e=>hk e.symm)]at hy';exact .inl hy'
 ·rw[vT,qT];exact M.perm
theorem PH (M:Mi w0 O b i R s h C Ts Th Tr w) (ht:dS w) (hf:gA (cO R) i) {y:bU} (hok:gL w y.r) (hin:kA Tr y.r) (hsm:lJ y.r.con):Calls Tryz.prog 49 #[ptrV s,.agg (dL y)] w fun e w'=>e= .returned (.tuple #[.int .i64 (i:Int),.int .i64 0])∧Mi w0 O b i (R.set i (some y)) s h C Ts Th Tr w'∧Mod Ts w w':=by
 refine(QN M.bf.sat ht hf.room y).mono ?_;rintro e w' ⟨n,hn,he,hs,hm⟩;obtain rfl:=hn.s.uniq hf;refine⟨he,⟨M.bf.stepS hs hm (fun k y' hy'=> ?_),?_,fun j hj=>⟨(M.lt j hj).1,aZd (M.lt j hj).2 hm.size⟩,M.m.then hm (fun j hj e=>(M.lt j (.inl e)).1.resolve_right (by omega))⟩,hm⟩
 ·by_cases hk:k=n
  ·subst hk;rw[List.getElem?_set_self (aZa.1 hn.1).1]at hy';cases hy';exact .inr ⟨hok,hin,hsm⟩
  ·rw[aZ0 (fun e=>hk e.symm)]at hy';exact .inl hy'
 ·rw[tC,qT];exact M.perm
theorem K4 (M:Mi w0 O b i R s h C Ts Th Tr w) {y:bU} (hy:R[i]? =some (some y)) (hp:y.pl=0):Calls Tryz.prog 55 #[ptrV h,.agg (rkc y.rk),.int .i64 (i:Int)] w fun e w'=>e= .returned (.int .i64 0)∧(∃T',UP w0 O b (cO R) T' w'∧∀j,T' j→(Ts j∨Th j∨Tr j∨j=b)∨w.heap.size≤j)∧Mod Th w w':=by
 have hlen:=M.bf.sat.len.2;have hil:i<R.length:=(aZa.1 hy).1;have hidn:(idn i).toInt=(i:Int):=cB (by omega);have hx:(cO R)[i]? =some (some y.con):=by unfold cO;rw[aZv,hy];rfl
 have hc:=uD M.bf.hat (fun j hj=>(M.lt j (.inr (.inl hj))).2) y.rk (idn i) M.small (M.ids hil);rw[hidn]at hc;refine hc.mono ?_;rintro e w' ⟨he,T',hA,hm,hg,hl⟩;have hpm:=nM (i:=i) (x:=y.con) M.perm (by rw[bJ];exact hil) (by show y.pl.toNat=0;rw[hp];rfl);rw[QI hx]at hpm;refine⟨he,⟨fun j=>Ts j∨T' j∨Tr j∨j=b,⟨s,h,R,C++[⟨y.rk,idn i⟩],Ts,T',Tr,M.bf.stepH (fun j hj=>(M.lt j (by rcases hj with hj|hj|hj;exact .inl hj;exact .inr (.inr (.inl hj));exact .inr (.inr (.inr hj)))).2) hA hm (fun j hj=>hg j hj),rfl,hpm,fun j=>Iff.rfl,fun j hj=> ?_,M.m.then hm (fun j hj e=>(M.lt j (.inr (.inl e))).1.resolve_right (by omega))⟩,fun j hj=> ?_⟩,hm⟩
 rotate_left
 ·rcases hj with hj|hj|hj
  ·exact .inl (.inl hj)
  ·rcases hg j hj with h9|h9
   ·exact .inl (.inr (.inl h9))
   ·exact .inr h9
  ·exact .inl (.inr (.inr hj))
 have hsz:=hm.size;have h0:=M.m.size;rcases hj with hj|hj|hj
 ·have:=M.lt j (.inl hj);exact⟨this.1,by omega⟩
 ·refine⟨?_,hl j hj⟩;rcases hg j hj with h9|h9
  ·exact(M.lt j (.inr (.inl h9))).1
  ·exact .inr (by omega)
 ·have:=M.lt j (.inr (.inr hj));exact⟨this.1,by omega⟩
end
end
section
theorem JC:XA.size=2:=rfl
attribute [local go_sem↓] dH bZ dF jX iD jV eK f8 fQ d8
attribute [local go_sem] aH aC aN aK aP aF aO Value.cells rkc_size cW bD bW dB jA eJ iT fS eE gC jB bG cD cF bF dE dW JC
theorem CU {n:UInt64} {x z:cS} {pl:UInt8} {st:Bool} (h:bT x=bT z):dL ⟨n,x,pl,st⟩=dL ⟨n,z,pl,st⟩:=by
 have h1:=BF ⟨n,z,pl,st⟩ x;have h2:=BF ⟨n,z,pl,st⟩ z;rw[h]at h1;exact h1.symm.trans h2
section
variable {w0 w w' ws:World} {O:Nat→Prop} {b:Nat} {S:List (Option It)}
theorem N1 (H:BH w0 O b S w) (h0:0<w0.heap.size∧¬O 0) (ht:dS w) {n:Nat} (hn:gA S n) {x:cS} (hx:gL w x) (hs:lJ x.con) (num:UInt64):
  Calls Tryz.prog 14 #[ptrV b,u64v num,.agg (bT x)] w fun e w'=>e= .returned (.tuple #[.int .i64 (n:Int),.slice none 0 0,.int .i64 0])∧BH w0 O b (S.set n (some ⟨num,x.con,0,false⟩)) w':=by
 obtain⟨s,h,R,C,Ts,Th,Tr,HB,rfl,hperm,hT,m⟩:=H;have kb:=HB.kb;have HH:=Hi (Ai HB (Ai hperm (Ai hT (Ai m (Ai ht hn)))));have HX:=Hi (Ai hx hs);clear HB hperm hT m ht hn hx hs;go_enter Tryz.func14,Tryz.ntmps14;go_upto_region 0 with fail;have Lkb:=aA kb;refine ZP0 [3,0,0,0] ?_;refine Zb fun p5 hp5=> ?_
 iterate 3 refine Zv ?_
 refine TD.nil (fun w1 hr=> ?_);have kb:=hr.mod.at kb (fun h=>h);obtain⟨gp5,kp5⟩:=hr.b p5;have m1:=hr.mod;clear hr;go_wp2_with fail;go_at_call 47;refine(bthere_c kb).mono ?_;rintro e w2 ⟨rfl,rfl⟩;go_upto_region 3 with fail;have Lkb:=aA kb;have Lkp5:=aA kp5;refine wp_gpass0 (T0:=fun _=>False) (K:=fun _ _=>True) (κ:=fun i=>[0,0,6,0,3,4].getD i 0) (υ:=fun _=>[]) [0,1,2,3,4,5] (by kernel_rfl) (by kernel_rfl) (aI.true).cl (trivial) (fun _ h=>h.elim) ?_;have gK:=aI.true;refine Zg ?_;refine Zh ?_;(refine ZJ (UV w.heap.size x.con) (tG w.heap.size x.con) gK ?_ (s:=fun T wq kq ltq hSq ub=>by have kbq:=hSq.at kb (fun h=>h);have kp5q:=hSq.at kp5 (fun h=>h);exact FR (x:=x) w.heap.size (m1.then0 hSq).size T (HX.out.1.mod0 (m1.then0 hSq)) HX.out.2);rintro v7 ⟨wI,TI,hI⟩;replace gK:=gK.and ((tG w.heap.size x.con) v7);(obtain⟨_,z0,rfl,_⟩:=hI.k);(try clear hI TI wI);try simp only[zL]);(refine TG.build (v:= ?v8) (ps:= ?p8) (by simp only[zK];rfl) rfl (by rfl) rfl ?hx8 (fun w1=> ?y8) ?n8;(case hx8=>(simp only[aYr,aZo,aYo,zM];(try rfl)));(case y8=>(rw[(JX num z0)];(try with_reducible rfl)));try simp only[zL]);(refine TG.allocB (by simp only[zK];rfl) rfl (by rfl) rfl rfl eT (fun p9 hp9 _=> ?n9);try simp only[zL]);(refine TG.storeB (d:= ?d10) (T:= ?T10) (y:= ?y10) (p:= ?p10) (b:= ?b10) (v:= ?v10) (by simp only[zK];rfl) rfl (by rfl) ?hd10 ?hop10 ?hev10 ?hx10 ?hb10 ?htag10 (fun w1 hb1=> ?hy10) ?hn10;(case hd10=>rfl);(case hop10=>rfl);(case hev10=>(simp only[zM];(try rfl)));(case hx10=>simp only[zM];try rfl);(case hb10=>first|exact Bx.set_same _ _ _|(simp only[Bx.set_same];rfl));(case htag10=>exact⟨rfl,rfl⟩);(case hy10=>(go_simp;(try first|with_reducible rfl|(rw[setCell_blk hb1];rfl))));try simp only[zL]);refine TG.nil (fun w3 ⟨TR,hr⟩=> ?_);have kb:=hr.mod.at kb (fun h=>h);have kp5:=hr.mod.at kp5 (fun h=>h);obtain⟨gp9,nTp9,kp9⟩:=hr.b p9;clear gK;obtain⟨_,z,hz,hzc,hzn,hzi⟩:=hr.k;injection hz with hz
 rw[CU hz]at kp9;have m3:=m1.then0 hr.mod;obtain⟨y,hy⟩:∃y:bU,y=⟨num,z,0,false⟩:=⟨_,rfl⟩;rw[←hy]at kp9;have gq9:w.heap.size≤p9:=aYb m1.size gp9;have HZ:=Hi (Ai hy (Ai hzc (Ai hzn (Ai hz m3))));clear hr hzc hzn hzi hz hy kp5;have hMb:=JW (O:=O) HH.out.1 HH.out.2.2.1 HH.out.2.2.2.1 m3;have hM:Mi w0 O b n R s h C Ts Th (fun j=>Tr j∨(w.heap.size≤j∧j<w3.heap.size)) w3:=⟨hMb.1,(nJ (by rw[bJ];have:=HH.out.1.sat.len;omega) HH.out.2.1 HH.out.2.2.2.2.2.1 rfl).2,hMb.2,HH.out.2.2.2.1.then0 m3⟩;have hs9:¬Ts p9:=fun e=>by have:=(HH.out.2.2.1 p9 (.inl e)).2;omega
 have HM:=Hi (Ai hM hs9);clear hM hMb hs9 m3;go_upto_region 4 with fail;have Lkb:=aA kb;have Lkp9:=aA kp9;refine ZP [0,0,0,0,1,1,5,0,0,0,0,0] ?_
 iterate 6 first|refine Zv ?_|refine Zd ?_
 refine Zi fun w4 hr=> ?_;have kb:=hr.mod.at kb (fun h=>h);have kp9:=hr.mod.at kp9 (fun h=>h);have m4:=hr.mod;clear hr;have hcall:=PH (y:=y) (HM.out.1.mod0 m4) (HH.out.2.2.2.2.1.mod0 (HZ.out.2.2.2.2.then0 m4)) HH.out.2.2.2.2.2 (by rw[HZ.out.1];exact(HZ.out.2.2.1.mod0 m4).ok) (by rw[HZ.out.1];exact HZ.out.2.2.1.inn.mono (fun i hi=> .inr hi)) (by rw[HZ.out.1];show lJ z.con;rw[HZ.out.2.1];exact HX.out.2);(refine cA (by simp only[zK];rfl) (by rfl) ?y18 hcall (fun wn hP=> ?n18);(case y18=>(go_simp;(try(first|with_reducible rfl|(constructor<;>with_reducible rfl)))));try simp only[zL]);refine Ze ?_;refine Ze ?_;refine Ze ?_;refine Ze ?_;refine Ze ?_;refine TE.nil ?_;obtain⟨hM5,m5⟩:=hP;have kb:=hM5.bf.kb;have kp9:=m5.at kp9 HM.out.2;have HM5:=Hi (Ai hM5 m5);clear hcall hM5 m5;go_upto_region 13 with fail;have Lkb:=aA kb;have Lkp9:=aA kp9;refine ZR (fun _ _ v=>v= .agg (rkc y.rk)) [0,0,0,0,1,1,2,0,5] ?_
 iterate 6 first|refine Zv ?_|refine Zd ?_
 (refine Zc ?_ (s:=by intro wq hSq;exact(irank_c y wq).mono (fun e w' h=>⟨_,h.1,rfl,h.2⟩));rintro _ rfl;try simp only[zL]);refine Zv ?_;refine Zi fun w6 hr=> ?_;have kb:=hr.mod.at kb (fun h=>h);have kp9:=hr.mod.at kp9 (fun h=>h);have m6:=hr.mod;clear hr;have hpush:=K4 (y:=y) (HM5.out.1.mod0 m6) (List.getElem?_set_self (by have:=(aZa.1 HH.out.2.2.2.2.2.1).1;rw[bJ]at this;exact this)) (by rw[HZ.out.1]);have hE:cO (R.set n (some y))=(cO R).set n (some ⟨num,x.con,0,false⟩):=by
  rw[tC,HZ.out.1,←HZ.out.2.1];rfl
 rw[hE]at hpush;(refine cA (by simp only[zK];rfl) (by rfl) ?y33 hpush (fun wn hP=> ?n33);(case y33=>(go_simp;(try(first|with_reducible rfl|(constructor<;>with_reducible rfl)))));try simp only[zL]);refine TE.nil ?_;have HF:=Hi hP;clear hP hpush hE;go_wp2_with fail;exact bodyPost_ret (results_tmp3 rfl _ _ _) rfl ⟨rfl,by obtain⟨T',h,_⟩:=HF.out.1;exact h.bh⟩
end
end
section
theorem WY (r:Rk):(rkc r)[1]? =some (u64v r.n):=rfl
attribute [local go_sem↓] dH bZ dF jX iD jV eK f8 fQ d8
attribute [local go_sem] aH aC aN aK aP aF aO Value.cells rkc_size cW bD bW dB jA eJ iT fS eE gC jB bG cD cF bF dE dW JC WY
def nc (n:UInt64):Array Value:= #[u64v n]
theorem UD:nU Tryz.prog 67 23 nc 1 8 where
 u:=Tryz.underlying67
 info:=by
  obtain⟨i0,hi,hz0,hz1,hz2⟩:=info_parts (show(Tryz.prog.info? 23).map (fun i=>(i.zero,i.size,i.bytes))=some (some (.int .u64 0),1,8)by kernel_rfl);exact⟨i0,_,hi,hz0,hz1,hz2,rfl⟩
 pos:=by omega
 size x:=rfl
 one x u hu:=by
  simp[nc]at hu;subst hu;rfl
section
variable {w0 w w' ws:World} {O:Nat→Prop} {b:Nat} {S:List (Option It)}
end
end
section
attribute [local go_sem↓] eS eP eR
attribute [local go_sem] aH aC dC aN aK aP aF aO cR bY kc_size bB Value.cells
theorem Goes.trans {K K1:aL} {T T1:Nat→Prop} {w w1 w2:World} (hm:Mod T w w1) (hT:∀a,T1 a→T a∨(w.heap.size≤a∧a<w1.heap.size)) (h:Goes K T1 w1 w2):Goes K T w w2:=by
 obtain⟨T2,k1,k2,k3⟩:=h;refine⟨T2,k1,hm.then k2 (fun a hlt ha=>(hT a ha).resolve_right (by omega)),fun a ha=> ?_⟩;have h1:=hm.size;have h2:=k2.size;rcases k3 a ha with h|h
 ·rcases hT a h with h|h
  ·exact .inl h
  ·exact .inr ⟨h.1,by omega⟩
 ·exact .inr ⟨by omega,h.2⟩
theorem Goes.tr {K K1:aL} {T:Nat→Prop} {w w1 w2:World} (h1:Goes K1 T w w1) (h2:∀T1,K1 T1 w1→(∀a,T1 a→T a∨(w.heap.size≤a∧a<w1.heap.size))→Goes K T1 w1 w2):Goes K T w w2:=by
 obtain⟨T1,k1,k2,k3⟩:=h1;exact Goes.trans (K1:=K1) k2 k3 (h2 T1 k1 k3)
theorem Goes.grow {K:aL} {T:Nat→Prop} {w w':World} (h:K (Grow T w w') w') (hm:Mod T w w'):Goes K T w w':=⟨_,h,hm,fun _ h=>h⟩
theorem Goes.into {K:aL} {T:Nat→Prop} {w w':World} (h:K T w') (hm:Mod T w w'):Goes K T w w':=⟨_,h,hm,fun _ h=> .inl h⟩
theorem bQ.callW {P:Program} {f:FuncId} {args:Array Value} {Ks:List aL} {T:Nat→Prop} {w:World} {R:Ending→World→Prop} (hG:∀K∈Ks,aI K) (hT:∀a,T a→a<w.heap.size) (hS:bQ Ks T w) {i:Nat} {K K':aL} (hi:Ks[i]? =some K)
  (hc:∀T',(∀a,T' a→a<w.heap.size)→K T' w→Calls P f args w fun e w'=>R e w'∧Goes K' T' w w'):
  Calls P f args w fun e w'=>R e w'∧Goes (bQ (Ks.set i K')) T w w':=by
 obtain⟨Ts,h1,h2,h3⟩:=hS;refine(hc (Ts i) (fun a ha=>hT a (h2 i a ha)) (h1 i K hi)).mono ?_;rintro e w' ⟨hR,hg⟩;obtain⟨k1,k2⟩:=bQ.step hG hT (aZa.1 hi).1 h1 h2 h3 hg;exact⟨hR,_,k1,k2,fun _ h=>h⟩
def fG (t n:Nat) (L:List Lk):aL:=fun T w=>∃hb wb,eZ w t hb wb n L∧T t∧T hb∧T wb
theorem fG.good (t n:Nat) (L:List Lk):aI (fG t n L) where
 cl:=by
  rintro T w w' ⟨hb,wb,⟨h1,kt,eh,ch,ew,cw,mh,mw,kh,Mh,kw,Mw,I⟩,t1,t2,t3⟩ hm;exact⟨hb,wb,⟨h1,hm.at kt (fun e=>e t1),eh,ch,ew,cw,mh,mw,hm.at kh (fun e=>e t2),Mh,hm.at kw (fun e=>e t3),Mw,I⟩,t1,t2,t3⟩
 gr:=fun T T' w hT ⟨hb,wb,h,t1,t2,t3⟩=>⟨hb,wb,h,hT _ t1,hT _ t2,hT _ t3⟩
theorem fG.take {T:Nat→Prop} {t n:Nat} {L:List Lk} {w:World} (h:fG t n L T w) (a:Option Addr) (l:List aT) (c:Nat) (i:Fin 64) (hn:1≤n) (hn2:n≤64) (hl:aV w a l) (hlen:L.length+l.length≤1000000) (hi:i.val<n) (hf:gW L l i.val=true):
  Calls Tryz.prog 115 #[ptrV t,.slice a l.length c,.int .i64 (i.val:Int)] w fun e w'=>e= .returned (.int .i64 0)∧Goes (fG t n (addL L l i)) T w w':=by
 obtain⟨hb,wb,h,t1,t2,t3⟩:=h;refine(QU t hb wb n L a l c i w h hn hn2 hl hlen hi (rX.1 hf)).mono ?_;rintro e w' ⟨rfl,h2,hm⟩;exact⟨rfl,Goes.into ⟨hb,wb,h2,t1,t2,t3⟩ (hm.mono (fun a _ ha=>by rcases ha with rfl|rfl<;>assumption))⟩
theorem fG.threads {T:Nat→Prop} {t n:Nat} {L:List Lk} {w:World} (h:fG t n L T w) (a:Option Addr) (l:List aT) (c:Nat) (hn:1≤n) (hn2:n≤64) (hl:aV w a l) (hlen:l.length≤1000000):
  Calls Tryz.prog 112 #[ptrV t,.slice a l.length c] w fun e w'=>e= .returned (.int .u64 (d9 (gW L l) n:Nat))∧Mod (fun _=>False) w w':=by
 obtain⟨hb,wb,h,_⟩:=h;exact DV t hb wb n L a l c w h hn hn2 hl hlen
def iM (p:Nat) (m:List (aQ×Bool)):aL:=fun T w=>∃b,nT w p b m∧T p∧T b
theorem iM.good (p:Nat) (m:List (aQ×Bool)):aI (iM p m) where
 cl:=fun T w w' ⟨b,h,t1,t2⟩ hm=>⟨b,h.out hm (fun e=>e t1) (fun e=>e t2),t1,t2⟩
 gr:=fun T T' w hT ⟨b,h,t1,t2⟩=>⟨b,h,hT _ t1,hT _ t2⟩
theorem ED (m:List (aQ×Bool)) (l k:List aT):addB (addB m l) k=addB m (l++k):=by simp[addB,aXl]
theorem iM.hits {T:Nat→Prop} {p:Nat} {al:List aT} {w:World} (h:iM p (addB [] al) T w) (a:Option Addr) (l:List aT) (c:Nat) (hl:aV w a l) (hlen:l.length≤1000000):
  Calls Tryz.prog 111 #[ptrV p,.slice a l.length c] w fun e w'=>e= .returned (.bool (lM al l))∧Mod (fun _=>False) w w':=by
 obtain⟨b,h,_⟩:=h;have hb:=(oB.addB oB.nil al).hits l;rw[aYq]at hb;rw[←hb];exact O1 p b _ a l c w h hl hlen
theorem iM.add {T:Nat→Prop} {p:Nat} {al:List aT} {w:World} (h:iM p (addB [] al) T w) (a:Option Addr) (l:List aT) (c:Nat) (hl:aV w a l) (hlen:l.length≤1000000):
  Calls Tryz.prog 75 #[ptrV p,.slice a l.length c] w fun e w'=>e= .returned (.tuple #[])∧Goes (iM p (addB [] (al++l))) T w w':=by
 obtain⟨b,h,t1,t2⟩:=h;refine(RU p b _ a l c w h hl hlen).mono ?_;rintro e w' ⟨rfl,h2,hm⟩;rw[ED]at h2;exact⟨rfl,Goes.into ⟨b,h2,t1,t2⟩ (hm.mono (fun a _ ha=>by rw[ha];exact t2))⟩
def sO (q:Nat) (H:List aQ):aL:=fun T w=>oF w q H∧T q
theorem sO.good (q:Nat) (H:List aQ):aI (sO q H):=⟨fun T w w' h hm=>⟨h.1.mod hm (fun e=>e h.2),h.2⟩,fun T T' w hT h=>⟨h.1,hT _ h.2⟩⟩
def JH (n:Nat) (N:List (Sg×aQ)):aL:=fun T w=>kD T w n N
theorem JH.good (n:Nat) (N:List (Sg×aQ)):aI (JH n N):=⟨fun T w w' h hm=>kD.mod h hm (fun _ h e=>e h),fun T T' w hT h=>kD.mono h hT⟩
def GL (g q:Nat) (K:List Rn):aL:=zU g q (K.map Rn.cn)
theorem GL.good (g q:Nat) (K:List Rn):aI (GL g q K):=zU.good g q _
theorem GL.put {T:Nat→Prop} {g q:Nat} {K:List Rn} {w:World} (h:GL g q K T w) (hT:∀a,T a→a<w.heap.size) (hq:q<900) (id:Int64) (a:Option Addr) (l:List aT) (c:Nat) (hl:aV w a l) (hll:l.length≤800) (hd:l≠[]→∀b o,a=some ⟨b,o,none⟩→¬T b) (hid:∀x∈K,x.id≠id):
  Calls Tryz.prog 102 #[ptrV g,.int .i64 id.toInt,.slice a l.length c] w fun e w'=>e= .returned (.int .i64 0)∧Goes (GL g (q+1) (K++[⟨id,eC K id l,l⟩])) T w w':=by
 refine(P4 ⟨h,hT⟩ hq id a l c hl hll hd hid).mono ?_;rintro e w' ⟨rfl,T',h1,h2,h3⟩;exact⟨rfl,T',h1.1,h2,fun a ha=>(h3 a ha).imp (fun hh=>hh) (fun hh=>⟨hh,h1.2 a ha⟩)⟩
theorem GL.pop {T:Nat→Prop} {g q:Nat} {X Y:List Rn} {x:Rn} {w:World} (h:GL g q (X++x::Y) T w) (hT:∀a,T a→a<w.heap.size) (hf:X.any (fun y=>dJ y.l x.l)=false):
  Calls Tryz.prog 71 #[ptrV g,.int .i64 x.id.toInt] w fun e w'=>e= .returned (.int .i64 0)∧Goes (GL g q (X++Y)) T w w':=by
 refine(P0 ⟨h,hT⟩).mono ?_;rintro e w' (⟨h1,_⟩|⟨_,rfl,h1,h2⟩)
 ·rw[hf]at h1;cases h1
 ·exact⟨rfl,Goes.into h1.1 h2⟩
theorem BT.goes {b:Nat} {S S':List (Option It)} {T:Nat→Prop} {w w':World} (h:BT b S T w) (H:BH w (fun i=>T i∧i≠0) b S' w'):Goes (BT b S') T w w':=Goes.grow (H.bt h.pos) H.mt
theorem BT.pop {b:Nat} {S:List (Option It)} {T:Nat→Prop} {w:World} (h:BT b S T w) {D:List Nd} (hD:D.Perm (f9 0 S)) (hS:u4 D) {i:Nat} {x:It} (hx:S[i]? =some (some x)) (hh:D.head? =some ⟨x.rk,idn i⟩):
  Calls Tryz.prog 99 #[ptrV b] w fun e w'=>e= .returned (.tuple #[.int .i64 (i:Int),.bool true])∧Goes (BT b (S.set i (some {x with pl:=1}))) T w w':=
 (J0 h.bh hD hS hx hh).mono fun e w' h2=>⟨h2.1,h.goes h2.2⟩
theorem BT.back {b:Nat} {S:List (Option It)} {T:Nat→Prop} {w:World} (h:BT b S T w) {i:Nat} {x:It} (hx:S[i]? =some (some x)) (hp:x.pl≠0):
  Calls Tryz.prog 34 #[ptrV b,.int .i64 (i:Int)] w fun e w'=>e= .returned (.int .i64 0)∧Goes (BT b (S.set i (some {x with pl:=0}))) T w w':=
 (JK h.bh hx hp).mono fun e w' h2=>⟨h2.1,h.goes h2.2⟩
theorem BT.done {b:Nat} {S:List (Option It)} {T:Nat→Prop} {w:World} (h:BT b S T w) {i:Nat} {x:It} (hx:S[i]? =some (some x)):
  Calls Tryz.prog 101 #[ptrV b,.int .i64 (i:Int)] w fun e w'=>e= .returned (.int .i64 0)∧Goes (BT b (S.set i none)) T w w':=
 (JL h.bh hx).mono fun e w' h2=>⟨h2.1,h.goes h2.2⟩
end
section
attribute [local go_sem↓] eS eP eR
attribute [local go_sem] aH aC dC aN aK aP aF aO cR bY kc_size bB Value.cells
theorem IB {x:Nat} (h:x<2047*2^52):∃m p,Ieee.double.read x= .number false m p:=by
 have e1:Ieee.double.signWeight=2^63:=rfl;have e2:Ieee.double.binade=2^52:=rfl;have e3:Ieee.double.infRung=2047*2^52:=by decide
 have hd:x/2^63=0:=Nat.div_eq_of_lt (by omega);have hm:x % 2^63=x:=Nat.mod_eq_of_lt (by omega);unfold Ieee.Format.read;simp only[e1,e2,e3,hd,hm];split
 ·exact⟨_,_,rfl⟩
 ·exact⟨_,_,rfl⟩
theorem OF (n d:Nat):Ieee.Toward.even.cut false n d≤n/2^min d (n.log2+2)+1:=by
 unfold Ieee.Toward.cut;simp only[Nat.shiftLeft_eq,Nat.one_mul];exact Nat.add_le_add_left (Bool.toNat_le _) _
theorem K6 (n:Nat) (h:n<2^64):Ieee.double.nearest false n 0<2047*2^52:=by
 unfold Ieee.Format.nearest;split
 ·unfold Ieee.Format.word;simp
 ·rename_i h0;have hl:n.log2<64:=(Nat.log2_lt h0).2 h;have hlt:n<2^(n.log2+1):=Nat.lt_log2_self;have e2:Ieee.double.binade=2^52:=rfl;have e4:Ieee.double.leastPlace= -1074:=by decide
  have e5:Ieee.double.fractionBits=52:=rfl;unfold Ieee.Format.word;rw[if_neg (by decide),e2,e4,e5];have hlast:max (0+(n.log2:Int)-((52:Nat):Int)) (-1074)=(n.log2:Int)-52:=by omega
  rw[hlast];refine aX3 (Nat.min_le_left _ _) ?_;have hc:=OF (n<<<(0-((n.log2:Int)-52)).toNat) ((n.log2:Int)-52-0).toNat;have hk:(n<<<(0-((n.log2:Int)-52)).toNat)/2^min ((n.log2:Int)-52-0).toNat ((n<<<(0-((n.log2:Int)-52)).toNat).log2+2)<2^53:=by
   by_cases hle:n.log2≤52
   ·have e6:((n.log2:Int)-52-0).toNat=0:=by omega
    have e7:(0-((n.log2:Int)-52)).toNat=52-n.log2:=by omega
    rw[e6,e7,Nat.zero_min,Nat.pow_zero,Nat.div_one,Nat.shiftLeft_eq]
    have:2^53=2^(n.log2+1)*2^(52-n.log2):=by rw[←Nat.pow_add];congr 1;omega
    rw[this];exact Nat.mul_lt_mul_of_pos_right hlt (aX5 _)
   ·have e6:((n.log2:Int)-52-0).toNat=n.log2-52:=by omega
    have e7:(0-((n.log2:Int)-52)).toNat=0:=by omega
    rw[e6,e7,Nat.shiftLeft_zero,aX7 (by omega)];refine Nat.div_lt_of_lt_mul ?_
    have:2^(n.log2-52)*2^53=2^(n.log2+1):=by rw[←Nat.pow_add];congr 1;omega
    rw[this];exact hlt
  have hm:((n.log2:Int)-52- -1074).toNat≤1085:=by omega
  have:=aXu (2^52) hm;omega
abbrev f64:Ieee.Format:=FloatKind.f64.format
theorem FD (n:Nat) (hn:n<2^64) (s:Nat) (hs:f64.order s 0=some .gt):∃r,f64.div (FloatKind.f64.nearest n) s=some r:=by
 have e0:FloatKind.f64.nearest n=Ieee.double.nearest false n 0:=by
  show Ieee.double.nearest (decide ((n:Int)<0)) (n:Int).natAbs 0=_;rw[show decide ((n:Int)<0)=false from Df (by omega)];rfl
 obtain⟨m,p,hr⟩:=IB (K6 n hn);have hz:Ieee.double.read 0= .number false 0 (-1074):=by decide
 unfold Ieee.Format.order at hs;unfold Ieee.Format.div;rw[e0];change (Ieee.double.read s).order (Ieee.double.read 0)=_ at hs;show∃r,Option.map _ ((Ieee.double.read (Ieee.double.nearest false n 0)).quotient _ (Ieee.double.read s))=some r;rw[hr];rw[hz]at hs;cases hd:Ieee.double.read s with
 |nan a b=>
  rw[hd]at hs;cases hs
 |infinity a=>exact⟨_,rfl⟩
 |number a b c=>
  rw[hd]at hs;have hb:b≠0:=by
   rintro rfl;simp[Ieee.Datum.order,Ieee.signed]at hs
  unfold Ieee.Datum.quotient;simp only[if_neg hb];exact⟨_,rfl⟩
def waP (c:UInt64) (s:Nat):Nat:=if f64.order s 0=some .gt then(f64.div (FloatKind.f64.nearest c.toNat) s).getD 0 else 9218868437227405312
def C9 (x:Nat):Bool:=f64.order x x !=some .eq
def DJ (a b:Nat):Bool:=f64.order a b==some .lt||(C9 b&& !C9 a)
def fv (x:Nat):Value:= .float .f64 x
theorem OU (x:Nat) (w:World):Calls Tryz.prog 164 #[fv x] w fun e w'=>e= .returned (.bool (C9 x))∧w'=w:=by
 unfold fv C9 f64;go_enter Tryz.func164,Tryz.ntmps164;go_wp2_with fail;go_ret;exact⟨rfl,rfl⟩
theorem yH (n:Nat) (w:World):(callFunc 162 #[.int .u64 (n:Int)]).run Tryz.prog w= .ok (.value (.float .f64 n)) w:=by
 rw[run_callFunc_extern Tryz.func162 (by kernel_rfl) (by kernel_rfl) (by kernel_rfl) (e:=Go.Extern.MathFloatBits.float64frombits) (by kernel_rfl)];rfl
theorem SF (w:World):Calls Tryz.prog 147 #[.int .i64 1] w fun e w'=>e= .returned (fv 9218868437227405312)∧w'=w:=by
 have hb:∀w,(callFunc 162 #[.int .u64 9218868437227405312]).run Tryz.prog w= .ok (.value (.float .f64 9218868437227405312)) w:=yH 9218868437227405312;go_enter Tryz.func147,Tryz.ntmps147;go_wp2_with (simp only[hb]);go_ret;exact⟨rfl,rfl⟩
theorem wait_c (c:UInt64) (s:Nat) (w:World):Calls Tryz.prog 113 #[.int .u64 (c.toNat:Int),fv s] w fun e w'=>e= .returned (fv (waP c s))∧w'=w:=by
 unfold waP;by_cases h:f64.order s 0=some .gt
 ·obtain⟨r,hr⟩:=FD c.toNat c.toNat_lt s h;have hd:(FloatKind.f64.format.order s 0==some .gt)=true:=by rw[h];rfl
  have hf:floatBits .quo .f64 (floatOfInt .f64 (c.toNat:Int)) s=some r:=hr;have hq:=fun w=>run_float_arith (P:=Tryz.prog) (w:=w) .quo 129 .f64 _ _ r hf;rw[if_pos h,hr];unfold fv;go_enter Tryz.func113,Tryz.ntmps113;go_wp2_with (simp only[hq]);go_ret;exact⟨rfl,rfl⟩
 ·have hd:(FloatKind.f64.format.order s 0==some .gt)=false:=by simpa using h
  rw[if_neg h];have hi:=SF;unfold fv at *;go_enter Tryz.func113,Tryz.ntmps113;go_wp2_with fail;go_at_call 147;refine(hi _).mono ?_;rintro e w1 ⟨rfl,rfl⟩;go_wp2_with fail;go_ret;exact⟨rfl,rfl⟩
theorem DK (a b:Nat) (w:World):Calls Tryz.prog 149 #[fv a,fv b] w fun e w'=>e= .returned (.bool (DJ a b))∧w'=w:=by
 unfold DJ;have hN:=OU;unfold fv at *;cases hl:FloatKind.f64.format.order a b==some .lt
 ·cases hb:C9 b
  ·have hb2:=hN b;rw[hb]at hb2;go_enter Tryz.func149,Tryz.ntmps149;go_wp2_with fail;go_at_call 164;refine(hb2 _).mono ?_;rintro e w1 ⟨rfl,rfl⟩;go_wp2_with fail;go_ret;exact⟨rfl,rfl⟩
  ·have hb2:=hN b;rw[hb]at hb2;have ha2:=hN a;cases ha:C9 a
   all_goals
    rw[ha]at ha2;go_enter Tryz.func149,Tryz.ntmps149;go_wp2_with fail;go_at_call 164;refine(hb2 _).mono ?_;rintro e w1 ⟨rfl,rfl⟩;go_wp2_with fail;go_at_call 164;refine(ha2 _).mono ?_;rintro e w1 ⟨rfl,rfl⟩;go_wp2_with fail;go_ret;exact⟨rfl,rfl⟩
 ·go_enter Tryz.func149,Tryz.ntmps149;go_wp2_with fail;go_ret;exact⟨rfl,rfl⟩
end
section
attribute [local go_sem↓] eS eP eR
attribute [local go_sem] aH aC dC aN aK aP aF aO cR bY kc_size bB Value.cells
attribute [local go_sem] Oper.semAt_some
theorem oQ (W:World) (l:Nat) (o:Obj):Mod (fun i=>i=l) W (W.putObj l o):=
 ⟨rfl,rfl,rfl,by rw[World.putObj_size];exact aZq _,fun i _ h=>World.putObj_heap_other h⟩
section
variable {F:Fence} {n:Nat} {P:Program} {α:Type}
def EB (F:Fence) (n:Nat) (P:Program) (gf:Nat) (lb:Array Value) (encs:α→Array Value) (p:Nat) (R:Nat→Prop) (S:List α→Prop) (w0:World):Prop:=
 ∀(l:Nat) (J:List α→World→Prop) (W:World),Mod (fun _=>False) w0 W→(∀xs A B,J xs A→Mod (fun i=>i=p) A B→J xs B)→
  (∀xs x A,J xs A→YieldAt F (n-1) P l (encs x) A fun e B=>e= .returned (.bool true)∧J (xs++[x]) B∧∀i,R i→B.heap[i]? =A.heap[i]?)→
  J [] W→CallsIn F n P gf (#[.func (.yield l) #[] #[]]++lb) W fun e B=>(∃v,e= .returned v)∧∃xs,S xs∧J xs B
theorem rH {g:Operand} {ps:Array Tmp} {assign body:Code} {Q:Exit→Act→World→Prop} {a:Act} {w:World} (hro:F.round=none) (h1:1≤n) {gf:Nat} {lb:Array Value} (hg:a.eval g= .func (.func gf) #[] lb) (hFg:F.fn gf)
  (eg:∀args w,(callFunc gf args).run P w= .ok (.enter gf args) w) {encs:α→Array Value} {p:Nat} {R:Nat→Prop} {S:List α→Prop} (hseq:EB F (n-1) P gf lb encs p R S w) (hp:p<w.heap.size) (hR:∀i,R i→i<w.heap.size) (hps:∀x,(encs x).size=ps.size)
  (I:List α→World→Prop) (hI:∀xs A B,I xs A→Mod (fun i=>i=p∨w.heap.size≤i) A B→I xs B) (h0:I [] w) (a₁:α→Act)
  (hassign:∀(l:Nat) (x:α) (W:World) (K:Act→World→Prop),K (a₁ x) W→assign.wpIn (F.inRound l) (n-1-1) P (Exit.then K (fun _ _ _=>False)) {tmps:=(ps.zip (encs x)).foldl (fun t (p,v)=>t.setIfInBounds p v) a.tmps,defers:=[]} W)
  (hbody:∀(l:Nat) (xs:List α) (x:α) (W:World),I xs W→body.wpIn (F.inRound l) (n-1-1) P (fun e _ B=>e= .normal∧I (xs++[x]) B∧(∀i,R i→B.heap[i]? =W.heap[i]?)∧∀i,w.heap.size≤i→i<W.heap.size→B.heap[i]? =W.heap[i]?) (a₁ x) W)
  (hdone:∀(D:Nat) (xs:List α) (W:World),w.heap.size≤D→S xs→I xs W→W.heap[D]? =some (.deferred (some []))→Q .normal {a with defers:= {target:= .collected D,args:= #[]}::a.defers} W):
  (Code.rangeFunc g ps assign body).wpIn F n P Q a w:=by
 refine wpIn_rangeFunc fun fn hfn=> ?_;rw[hro];obtain⟨r0,hr0⟩:∃r0:Loop,r0= {state:= .ready,pending:=none,fn,tmps:=a.tmps,params:=ps,assign,body,defers:=w.heap.size}:=⟨_,rfl⟩;have hs1:(w.alloc (.deferred (some []))).heap.size=w.heap.size+1:=World.size_alloc _ _;have kd:((w.alloc (.deferred (some []))).alloc (.loop r0)).heap[w.heap.size]? =some (.deferred (some [])):=(Below.heap_alloc _ _ _ (by omega)).trans (World.alloc_heap_new w _);have kl:((w.alloc (.deferred (some []))).alloc (.loop r0)).heap[w.heap.size+1]? =some (.loop r0):=by
  have:=World.alloc_heap_new (w.alloc (.deferred (some []))) (.loop r0);rwa[hs1]at this
 have m1:Mod (fun _=>False) w ((w.alloc (.deferred (some []))).alloc (.loop r0)):=((Mod.refl _ w).alloc _).alloc _;refine⟨w.heap.size+1,[{target:= .collected w.heap.size,args:= #[]}],(w.alloc (.deferred (some []))).alloc (.loop r0),{target:= .fn (.func gf) lb,args:= #[.func (.yield (w.heap.size+1)) #[] #[]]},(w.alloc (.deferred (some []))).alloc (.loop r0),gf,
  #[.func (.yield (w.heap.size+1)) #[] #[]]++lb,(w.alloc (.deferred (some []))).alloc (.loop r0),by rw[hr0];exact run_enterLoop_outer _ _ _ _ _,?_,?_,?_,fun _=>h1,?_⟩
 ·simp only[resolve,hg];simp[go_sem]
 ·intro f' hf';simp[Target.leads]at hf';subst hf';exact hFg
 ·simp[invoke,go_sem,eg]
 have hst:∀ {A B:World} {xs:List α},I xs A→∀i,w.heap.size≤i→Mod (fun j=>j=i) A B→I xs B:=fun h i hi m=>hI _ _ _ h (m.mono (fun j _ e=> .inr (by rw[e];exact hi)));refine(hseq (w.heap.size+1) (fun xs W=>I xs W∧W.heap[w.heap.size+1]? =some (.loop r0)∧W.heap[w.heap.size]? =some (.deferred (some []))) _ m1 ?_ ?_ ⟨hI _ _ _ h0 (m1.mono (fun _ _ h=>h.elim)),kl,kd⟩).mono ?_
 ·rintro xs A B ⟨h1,h2,h3⟩ m;exact⟨hI _ _ _ h1 (m.mono (fun _ _ e=> .inl e)),m.at h2 (by omega),m.at h3 (by omega)⟩
 ·rintro xs x A ⟨k1,k2,k3⟩;have hlt:=aA k2;have hy:=run_yield (P:=P) (args:=encs x) k2 (by rw[hr0];exact hps x);have hrs:r0.state= .ready:=by rw[hr0]
  have hy2:(Instr.yield (w.heap.size+1) (encs x)).run P A= .ok (.round (w.heap.size+1) fn ((ps.zip (encs x)).foldl (fun t (p,v)=>t.setIfInBounds p v) a.tmps) assign body) A:=by
   rw[hy,hr0]
  refine⟨_,_,_,_,hy2,roundIn_of_wpIn hfn ?_⟩;refine hassign _ x A _ ⟨_,run_beginRound k2 hrs,?_⟩;have q2:(A.putObj (w.heap.size+1) (.loop {r0 with state:= .busy})).heap[w.heap.size+1]? =some (.loop {r0 with state:= .busy}):=World.putObj_heap_same hlt;have q3:(A.putObj (w.heap.size+1) (.loop {r0 with state:= .busy})).heap[w.heap.size]? =some (.deferred (some [])):=(World.putObj_heap_other (by omega)).trans k3;refine wpIn_mono (hbody _ xs x _ (hst k1 _ (by omega) (oQ _ _ _))) ?_;rintro e a3 B ⟨rfl,b1,b2,b3⟩;have p2:=(b3 _ (by omega) (aA q2)).trans q2;have p3:=(b3 _ (aZq _) (aA q3)).trans q3;have he:=run_endRound (P:=P) none p2;have hb:({{r0 with state:= .busy}with state:=(if(none:Option Code).isNone then .ready else .done),pending:=none}:Loop)=r0:=by rw[hr0];rfl
  rw[hb]at he;refine⟨_,_,he,rfl,⟨hst b1 _ (by omega) (oQ _ _ _),World.putObj_heap_same (aA p2),(World.putObj_heap_other (by omega)).trans p3⟩,fun i hi=> ?_⟩;have:=hR i hi;exact(World.putObj_heap_other (by omega)).trans ((b2 i hi).trans (World.putObj_heap_other (by omega)))
 ·rintro e W ⟨⟨v,rfl⟩,xs,hS,k1,k2,k3⟩;have he:=run_endLoop (P:=P) k2 (by rw[hr0];simp);have hpn:r0.pending=none:=by rw[hr0]
  rw[hpn]at he;exact⟨none,_,he,hdone _ xs _ (aZq _) hS (hst k1 _ (by omega) (oQ _ _ _)) ((World.putObj_heap_other (by omega)).trans k3)⟩
end
end
section
attribute [local go_sem↓] eS eP eR
attribute [local go_sem] aH aC dC aN aK aP aF aO cR bY kc_size bB Value.cells
attribute [local go_sem] Oper.semAt_some
def gV (m:Nat):List Nat:=(List.range 64).filter fun j=>m.testBit j
def pkS (wt:List Nat) (s:Option Nat) (j:Nat):Option Nat:=if j<wt.length then(match s with|none=>some j|some k=>if DJ (wt.getD j 0) (wt.getD k 0)then some j else some k)else s
theorem AR {m:Nat}:∀n,(∃k,k<n∧m.testBit k=true)→∃k,k<n∧m.testBit k=true∧∀i,i<k→m.testBit i=false
 |0,⟨k,h,_⟩=>by omega
 |n+1,⟨k,h,hb⟩=>by
  by_cases hx:∃k,k<n∧m.testBit k=true
  ·obtain⟨k,h1,h2,h3⟩:=AR n hx;exact⟨k,by omega,h2,h3⟩
  ·have hk:k=n:=by
    rcases aYt k n with h1|h1
    ·exact absurd ⟨k,h1,hb⟩ hx
    ·omega
   subst hk;exact⟨k,h,hb,fun i hi=>by
    cases hc:m.testBit i with
    |false=>rfl
    |true=>exact absurd ⟨i,hi,hc⟩ hx⟩
theorem pM {p:Nat→Bool} {k:Nat} (h1:p k=true) (h0:∀i,i<k→p i=false):∀n,k<n→(List.range n).filter p=k::(List.range n).filter (fun i=>p i&&decide (k<i))
 |0,h=>by omega
 |n+1,h=>by
  rw[List.range_succ,aZ6,aZ6];by_cases e:k=n
  ·subst e;have e1:(List.range k).filter p=[]:=by
    rw[List.filter_eq_nil_iff];intro i hi;rw[h0 i (aYu.1 hi)];simp
   have e2:(List.range k).filter (fun i=>p i&&decide (k<i))=[]:=by
    rw[List.filter_eq_nil_iff];intro i hi;rw[h0 i (aYu.1 hi)];simp
   rw[e1,e2];simp[h1]
  ·rw[pM h1 h0 n (by omega),aYg];congr 2;simp only[aWr,List.filter_nil];rw[show decide (k<n)=true from Dt (by omega),Bool.and_true]
theorem GH {m k:Nat} (hm:m<2^64) (h1:m.testBit k=true) (h0:∀i,i<k→m.testBit i=false):IntKind.u64.wrap ((m:Int)-1)=((m-1:Nat):Int)∧bits .and .u64 (m:Int) ((m-1:Nat):Int)=((m&&&(m-1):Nat):Int)∧m&&&(m-1)<2^64∧gV m=k::gV (m&&&(m-1)):=by
 have hpos:0<m:=by
  rcases aWk m with rfl|h
  ·simp at h1
  ·exact h
 have hk:=o9 hm h1;refine⟨?_,u64_and_nat m (m-1) (by omega) (by omega),aX3 Nat.and_le_left hm,?_⟩
 ·rw[IntKind.wrap_u64];omega
 ·unfold gV;rw[pM (p:=fun j=>m.testBit j) h1 h0 64 hk];congr 1;congr 1;funext i;rw[aX6];have hr:m % 2^(k+1)=2^k:=by
   apply aXb;intro j;rw[Nat.testBit_mod_two_pow,aXp];by_cases hj:j=k
   ·subst hj;simp[h1]
   ·rcases Nat.lt_or_gt_of_ne hj with h|h
    ·rw[h0 j h];simp;omega
    ·rw[Df (show¬j<k+1 by omega)];simp;omega
  have he:m-1=2^(k+1)*(m/2^(k+1))+(2^k-1):=by
   have:=aWu m (2^(k+1));have:=aX5 k;omega
  have hb:=aYz (m/2^(k+1)) (i:=k+1) (b:=2^k-1) (by have:=aX5 k;rw[Nat.pow_succ];omega) i;rw[←he]at hb;rw[hb];by_cases hi:i<k
  ·rw[h0 i hi];simp
  ·by_cases e:i=k
   ·subst e;rw[if_pos (by omega),aWa];(try simp)
   ·rw[if_neg (by omega),Nat.testBit_div_two_pow,show i-(k+1)+(k+1)=i by omega,Dt (show k<i by omega)];simp
theorem B9 {m:Nat} (hm:m<2^64) (h:gV m=[]):m=0:=by
 apply aXb;intro i;rw[Nat.zero_testBit];cases hc:m.testBit i with
 |false=>rfl
 |true=>
  have:=List.filter_eq_nil_iff.1 h i (aYu.2 (o9 hm hc));exact absurd hc this
theorem CA {m:Nat} (hm:m<2^64) (h:m≠0):∃k,m.testBit k=true∧∀i,i<k→m.testBit i=false:=by
 cases hb:gV m with
 |nil=>exact absurd (B9 hm hb) h
 |cons k t=>
  have hk:k∈gV m:=by rw[hb];exact List.mem_cons_self
  obtain⟨h1,h2⟩:=List.mem_filter.1 hk;obtain⟨k,_,h3,h4⟩:=AR 64 ⟨k,aYu.1 h1,h2⟩;exact⟨k,h3,h4⟩
theorem set_c (m:Nat) (w:World):Calls Tryz.prog 148 #[.int .u64 (m:Int)] w fun e w'=>∃p,e= .returned (.func (.func 163) #[] #[.pointer (some ⟨p,0,none⟩)])∧w.heap.size≤p∧w'.heap[p]? =some (.cells #[.int .u64 (m:Int)] 23 (0,0))∧Mod (fun _=>False) w w':=by
 have hmf:∀(fn:Fn) (first cap:Array Value) (w:World),(Instr.makeFunc fn first cap).run Tryz.prog w= .ok (.func fn first cap) w:=fun fn first cap w=>rfl
 go_enter Tryz.func148,Tryz.ntmps148;go_upto_region 0 with fail;refine ZP0 [3,0] ?_;refine Zb fun p1 hp1=> ?_;refine Zv ?_;refine TD.nil (fun w1 hr=> ?_);obtain⟨gp1,kp1⟩:=hr.b p1;have m1:=hr.mod;clear hr;go_wp2_with fail;go_ret;exact⟨_,rfl,gp1,kp1,m1⟩
def vN (p:Nat) (ws:World):Nat:=(gV (match ws.heap[p]? with|some (.cells cs _ _)=>(intOf (cs.getD 0 undef)).toNat|_=>0)).length
theorem vO {p m:Nat} {ws:World} {U:TypeId} {fr:Nat×Nat} (h:ws.heap[p]? =some (.cells #[.int .u64 (m:Int)] U fr)):vN p ws=(gV m).length:=by
 unfold vN;rw[h];rfl
theorem IL (n p m:Nat) (w:World) (hm:m<2^64) (hw:dS w) (hp0:p≠0) (kp:w.heap[p]? =some (.cells #[.int .u64 (m:Int)] 23 (0,0))):
  EB Fence.wide (n+1) Tryz.prog 163 #[.pointer (some ⟨p,0,none⟩)] (fun j:Nat=> #[.int .i64 (j:Int)]) p (fun i=>i=p∨i=0) (fun xs=>xs=gV m) w:=fun l J W hW hJ hY h0=>by
 have hw2:=hw.mod0 hW;have kp2:=hW.at0 kp;clear hw kp hW;refine callsIn_of_wp Tryz.func163 rfl trivial ?_ rfl;simp only[Tryz.ntmps163,aYs,aZu,aYw,Nat.reduceAdd,Nat.reduceSub,aXd,aXc,aXo,aXj,aYq,aYg];have HJ:=Hi hJ;have HY:=Hi hY;have H0:Hid (J [] W∧dS W):=Hi ⟨h0,hw2⟩;have HM:=Hi (Ai hm hp0);clear hJ hY h0 hm hp0 hw2;refine wpIn_wide.2 ?_;go_wp2_with fail;go_loopw [] (fun ws=>∃(xs:List Nat) (mc:Nat),mc<2^64∧ws.heap[p]? =some (.cells #[.int .u64 (mc:Int)] 23 (0,0))∧Hid (xs++gV mc=gV m)∧Hid (J xs ws∧dS ws)) (fun ws=>vN p ws)
 case atStart=>exact⟨[],m,HM.out.1,kp2,Hi (by simp),H0⟩
 case round=>
  obtain⟨xs,mc,hmc,kq,HX,HJX⟩:=hrel;by_cases hz:mc=0
  ·subst hz;go_wp2_with fail;go_end0;have hx:=HX.out;rw[show gV 0=[]by decide,aYx]at hx;exact⟨⟨_,rfl⟩,xs,hx,HJX.out.1⟩
  ·obtain⟨k,hb1,hb0⟩:=CA hmc hz;obtain⟨e1,e2,e3,e4⟩:=GH hmc hb1 hb0;have HB:=Hi (Ai hb1 hb0);have HE:=Hi (Ai e3 e4);obtain⟨md,hmd⟩:∃md,mc&&&(mc-1)=md:=⟨_,rfl⟩;rw[hmd]at e2 e3 e4 HE;have hne:((mc:Int) !=0)=true:=by simp;omega
   have HBN:=Hi (vO kq);clear hb1 hb0 e3 e4 hmd hz;go_upto_region 2 with fail;refine(wpIn_wide (n:=n+1)).1 ?_
   gi_wp2
   refine⟨trivial,callsIn_wide.2 ?_⟩;refine(UC hmc HB.out.1 HB.out.2 HJX.out.2).mono ?_;rintro e w2 ⟨rfl,rfl⟩;obtain⟨fn1,tmps1,assign1,body1,hy1,hR1⟩:=HY.out xs k _ HJX.out.1
   gi_wp2
   refine hR1.mono ?_;rintro e w3 ⟨rfl,hJ3,hk3⟩;replace kq:=(hk3 p (.inl rfl)).trans kq;have HT3:Hid (J (xs++[k]) w3∧dS w3):=Hi ⟨hJ3,by
    obtain⟨C,U,fr,t1,t2⟩:=HJX.out.2;exact⟨C,U,fr,(hk3 0 (.inr rfl)).trans t1,t2⟩⟩
   clear hk3 hJ3 hy1 hR1
   gi_wp2
   go_upto_region 1 with fail;have Lkq:=aA kq;refine ZP0 [1,1,0,0,5] ?_
   iterate 4 first|refine Zd ?_|refine Zv ?_
   refine Zi fun wE hr=> ?_;replace kq:=hr.mod.at0 kq;have mE:=hr.mod;refine ZS ?_;refine ZN kq fun w4 kq mS=> ?_;(try simp only[Array.setIfInBounds,zL]at kq);have m4:=(mE.mono (T:=fun i=>i=p) (fun _ _ h=>h.elim)).trans mS;have HT4:Hid (J (xs++[k]) w4∧dS w4):=Hi ⟨HJ.out _ _ _ HT3.out.1 m4,HT3.out.2.mod m4 (fun e=>HM.out.2 e.symm)⟩;have HD:Hid (vN p w4<vN p w2):=Hi (by rw[vO kq,HBN.out,HE.out.2];simp);clear hr mE mS m4;simp only[Act.put];go_wp2_with fail;go_roundw
   case rel=>exact⟨xs++[k],md,HE.out.1,kq,Hi (by rw[aZw];have:=HX.out;rw[HE.out.2]at this;exact this),HT4⟩
   case measure=>exact HD.out
end
section
attribute [local go_sem↓] eS eP eR
attribute [local go_sem] aH aC dC aN aK aP aF aO cR bY kc_size bB Value.cells
attribute [local go_sem] Oper.semAt_some
theorem qG {P:Program} {fn:Func} {t1 t2:Tmp} {T1 T2:TypeId} {tmps:Array Value} {p1 p2:Addr} {v1 v2:Value} {w:World} (h:fn.results= #[.cell t1 T1,.cell t2 T2])
  (h1:tmps.getD t1 undef= .pointer (some p1)) (h2:tmps.getD t2 undef= .pointer (some p2))
  (k1:(Instr.loadAt T1 (.pointer (some p1))).run P w= .ok v1 w) (k2:(Instr.loadAt T2 (.pointer (some p2))).run P w= .ok v2 w):(results fn tmps).run P w= .ok (.tuple #[v1,v2]) w:=by
 have l1:(loadVar T1 p1).run P w= .ok v1 w:=by simpa[Instr.loadAt,Instr.sureAddr] using k1
 have l2:(loadVar T2 p2).run P w= .ok v2 w:=by simpa[Instr.loadAt,Instr.sureAddr] using k2
 unfold results;rw[h];have hmap:∀ {α β:Type} (f:α→β) (x:Sem α) (w:World),(f<$>x).run P w=(x.run P w).andThen fun a w=> .ok (f a) w:=fun f x w=>by
  show(x>>=fun a=>pure (f a)).run P w=_;rw[Sem.run_bind];rfl
 simp only[List.mapM_toArray,List.mapM_cons,List.mapM_nil,h1,h2,asAddr,Sem.run_bind,hmap,Sem.run_pure,Result.andThen_ok,l1,l2];rfl
section
variable {P:Program} {ops:Array Oper} {Q:Exit→Act→World→Prop} {T0:Nat→Prop} {w0:World} {κ:Nat→Nat} {υ:Nat→List Tmp}
theorem TG.storeU {i:Nat} {r:List Nat} {a:Act} {B:Bx} {K:aL} {o:Oper} {T:TypeId} {x y:Operand} {X Y:Value} (K':aL) (hcl:aI K') (ho:ops[i]? =some o) (hk:κ i=6) (hw:Region.wanted o (yielded ops a.tmps)=true)
  (hd:o.dst=none) (hop:o.op= .store T x y) (hx:a.eval x=X) (hy:a.eval y=Y)
  (hr:∀T' w,Mod T0 w0 w→K T' w→∃w',(Instr.storeAt T X Y).run P w= .ok () w'∧Mod T' w w'∧K' T' w')
  (h:kE T0 w0 B K'→TG P ops Q T0 w0 κ υ r a B K'):TG P ops Q T0 w0 κ υ (i::r) a B K:=by
 refine TG.eff' (fun _=>K') ho hk hw (fun _=>hcl.cl) (fun T2 w k1 k2 k3 k4=> .inr (.inl ?_)) (fun v hI=>by rw[hd];exact h hI);obtain⟨w',h1,h2,h3⟩:=hr T2 w k3 k1;refine⟨w',?_,h2,hcl.gr _ _ _ (fun _ h=> .inl h) h3⟩;subst hx;subst hy;simp[execOp,hop,h1]
end
def pQ (x:Nat):Array Value:= #[fv x]
theorem N2 (w:World):(Instr.alloc 3 true (.tuple #[])).run Tryz.prog w= .ok (.pointer (some ⟨w.heap.size,0,none⟩)) (w.alloc (.cells #[.int .i64 0] 3)):=by kernel_rfl
theorem JT (w:World):(Instr.alloc 4 true (.tuple #[])).run Tryz.prog w= .ok (.pointer (some ⟨w.heap.size,0,none⟩)) (w.alloc (.cells #[.bool false] 4)):=by kernel_rfl
def lT (Q:Exit→Act→World→Prop):Exit→Act→World→Prop:=fun e a w=>(∀c,e≠ .panic c)∧e≠ .outgrown∧Q e a w
def pkR (m:Nat) (l:List Nat):Option Nat:=(gV m).foldl (pkS l) none
def oi (o:Option Nat):Array Value:= #[.int .i64 ((o.getD 0:Nat):Int)]
theorem SS {T:TypeId} {w:World} {p:Nat} {z:Int} (h:w.heap[p]? =some (.cells #[.int .i64 z] T (0,0))):(Instr.loadAt 3 (.pointer (some ⟨p,0,none⟩))).run Tryz.prog w= .ok (.int .i64 z) w:=by go_simp
theorem SR {T:TypeId} {w:World} {p:Nat} {z:Bool} (h:w.heap[p]? =some (.cells #[.bool z] T (0,0))):(Instr.loadAt 4 (.pointer (some ⟨p,0,none⟩))).run Tryz.prog w= .ok (.bool z) w:=by go_simp
theorem ND {l:List Nat}:∀ {xs:List Nat} {s:Option Nat} {k:Nat},(∀k,s=some k→k<l.length)→xs.foldl (pkS l) s=some k→k<l.length
 |[],s,k,hs,h=>hs k h
 |x::xs,s,k,hs,h=>ND (xs:=xs) (s:=pkS l s x) (fun j hj=>by
   unfold pkS at hj;split at hj
   ·rename_i hx;split at hj
    ·cases hj;exact hx
    ·rename_i k2;split at hj
     ·cases hj;exact hx
     ·cases hj;exact hs _ rfl
   ·exact hs j hj) h
theorem PZ (m:Nat) (hm:m<2^64) (a:Option Addr) (l:List Nat) (c:Nat) (w:World) (hl:aS pQ 1 w a l) (hln:l.length≤1000000) (hw:dS w):Calls Tryz.prog 114 #[.int .u64 (m:Int),.slice a l.length c] w fun e w'=>
  e= .returned (.tuple #[.int .i64 (((pkR m l).getD 0:Nat):Int),.bool (pkR m l).isSome])∧Mod (fun _=>False) w w':=by
 have HL:=Hi (Ai hl (Ai hw hm));clear hl hw hm;obtain⟨ll,hll⟩:∃ll,l.length=ll:=⟨_,rfl⟩;have HLL:=Hi hll;rw[hll]at hln⊢;clear hll;refine(callsIn_wide (n:=4)).1 ?_;refine callsIn_of_wp_marks Tryz.func114 rfl trivial ?_ rfl;simp only[Tryz.ntmps114,aYs,aZu,aYw,Nat.reduceAdd,Nat.reduceSub,aXd,aXc,aXo,aXj,aYq,aYg];refine wpIn_wide.2 ?_;refine wp_mono (Q:=lT _) ?_ (fun e a w h=>h.2.2);generalize hQ0:bodyPostM Fence.wide 4 Tryz.prog _ _=Q0;have HQ0:=Hi hQ0;clear hQ0;have hP:∀c a w,¬lT Q0 (.panic c) a w:=fun c a w h=>h.1 c rfl;have hLo:¬LetsOut (lT Q0):=fun⟨a,w,h⟩=>h.2.1 rfl;generalize hQ1:lT Q0=Q1 at *;have HQ1:=Hi hQ1;clear hQ1;go_upto_region 0 with fail;refine ZP0 [3,3,3] ?_;refine Zb fun p3 hp3=> ?_;refine Za N2 fun p4 hp4=> ?_;obtain⟨ne_p4_p3,hp4⟩:=Bx.set_none hp4;refine Za JT fun p5 hp5=> ?_;obtain⟨ne_p5_p4,hp5⟩:=Bx.set_none hp5;obtain⟨ne_p5_p3,hp5⟩:=Bx.set_none hp5;refine TD.nil (fun w1 hr=> ?_);obtain⟨gp3,kp3⟩:=hr.b p3 (by first|exact Bx.set_same _ _ _|(simp only[Bx.set_ne _ (Ne.symm ne_p4_p3),Bx.set_ne _ (Ne.symm ne_p5_p3),Bx.set_ne _ (Ne.symm ne_p5_p4),Bx.set_ne _ ne_p4_p3,Bx.set_ne _ ne_p5_p3,Bx.set_ne _ ne_p5_p4,Bx.set_same];rfl));obtain⟨gp4,kp4⟩:=hr.b p4 (by first|exact Bx.set_same _ _ _|(simp only[Bx.set_ne _ (Ne.symm ne_p4_p3),Bx.set_ne _ (Ne.symm ne_p5_p3),Bx.set_ne _ (Ne.symm ne_p5_p4),Bx.set_ne _ ne_p4_p3,Bx.set_ne _ ne_p5_p3,Bx.set_ne _ ne_p5_p4,Bx.set_same];rfl));obtain⟨gp5,kp5⟩:=hr.b p5 (by first|exact Bx.set_same _ _ _|(simp only[Bx.set_ne _ (Ne.symm ne_p4_p3),Bx.set_ne _ (Ne.symm ne_p5_p3),Bx.set_ne _ (Ne.symm ne_p5_p4),Bx.set_ne _ ne_p4_p3,Bx.set_ne _ ne_p5_p3,Bx.set_ne _ ne_p5_p4,Bx.set_same];rfl));have m1:=hr.mod;have HLT:=Hi (Ai (aA kp3) (Ai (aA kp4) (aA kp5)));have HG:=Hi (Ai gp3 (Ai gp4 gp5));have m0:=m1.size;clear hr;go_upto_region 1 with fail;go_wp2_with fail;go_at_call 148;refine(set_c m _).mono ?_;rintro e w3 ⟨p,rfl,hp,kp,m3⟩;go_wp2_with fail;have hpb:p≠0∧p≠p3∧p≠p4∧p≠p5:=by
  have h:=HLT.out;have h0:=HL.out.2.1;obtain⟨C,U,fr,h0,_⟩:=h0;have:=aA h0;have h1:=m1.size;exact⟨by omega,by omega,by omega,by omega⟩
 have hne:p3≠p4∧p3≠p5∧p4≠p5:=⟨aB kp3 kp4 (by simp),aB kp3 kp5 (by simp),aB kp4 kp5 (by simp)⟩;have k3:=m3.at0 kp3;have k4:=m3.at0 kp4;have k5:=m3.at0 kp5;have mw:=m1.trans m3;have HK:=Hi (Ai kp (Ai k3 (Ai k4 k5)));have HN:=Hi (Ai hpb hne);have HW:=Hi mw;have HS:Hid (w.heap.size≤p∧p<w3.heap.size∧p3<w3.heap.size∧p4<w3.heap.size∧p5<w3.heap.size∧0<w3.heap.size∧w.heap.size≤w3.heap.size):=Hi ⟨by have:=m1.size;omega,aA kp,aA k3,aA k4,aA k5,by have:=aA kp;omega,mw.size⟩;clear hpb hne k3 k4 k5 mw kp m3 m1 kp3 kp4 kp5 hp;refine wpIn_wide.1 (rH (n:=3) rfl (by omega) (gf:=163) (lb:= #[.pointer (some ⟨p,0,none⟩)]) rfl trivial (enters_of Tryz.func163 (by kernel_rfl) rfl)
  (IL 1 p m w3 HL.out.2.2 (HL.out.2.1.mod0 HW.out) HN.out.1.1 HK.out.1) HS.out.2.1 (fun i hi=>by rcases hi with e|e<;>rw[e]<;>have:=HS.out<;>omega) (fun _=>rfl)
  (fun xs W=>W.heap[p4]? =some (.cells (oi (xs.foldl (pkS l) none)) 3 (0,0))∧W.heap[p5]? =some (.cells #[.bool (xs.foldl (pkS l) none).isSome] 4 (0,0))∧Mod (fun i=>i=p4∨i=p5∨i=p∨w3.heap.size≤i) w3 W)
  ?own ⟨HK.out.2.2.1,HK.out.2.2.2,Mod.refl _ _⟩
  (fun j=> {tmps:= #[.int .u64 (m:Int),.slice a ll c,undef,.pointer (some ⟨p3,0,none⟩),.pointer (some ⟨p4,0,none⟩),.pointer (some ⟨p5,0,none⟩),.int .i64 (j:Int),.int .u64 (m:Int),.func (.func 163) #[] #[.pointer (some ⟨p,0,none⟩)],.int .i64 (j:Int),undef,undef,undef,undef,undef,undef,undef,undef,undef,undef,undef,undef,undef,undef,undef,undef,undef,undef,undef,undef,undef,undef],defers:=[]}) ?assign ?body ?done)
 case own=>
  rintro xs A B ⟨h1,h2,h3⟩ hm;have h:=HS.out;have hn:=HN.out;exact⟨hm.at h1 (by omega),hm.at h2 (by omega),h3.then hm (fun i hi e=>by omega)⟩
 case assign=>
  intro l z W K hK
  gi_wp2
  exact hK
 case body=>
  rintro lp xs j W ⟨k4,k5,mW⟩;have k3:=mW.at HK.out.2.1 (by have h:=HS.out;have hn:=HN.out;omega);have HF:Hid (∀(a':Act) (B:World),B.heap[p4]? =some (.cells (oi (pkS l (xs.foldl (pkS l) none) j)) 3 (0,0))→B.heap[p5]? =some (.cells #[.bool (pkS l (xs.foldl (pkS l) none) j).isSome] 4 (0,0))→Mod (fun i=>i=p4∨i=p5) W B→(fun(e:Exit) (_:Act) (B:World)=>e= .normal∧(B.heap[p4]? =some (.cells (oi ((xs++[j]).foldl (pkS l) none)) 3 (0,0))∧B.heap[p5]? =some (.cells #[.bool ((xs++[j]).foldl (pkS l) none).isSome] 4 (0,0))∧Mod (fun i=>i=p4∨i=p5∨i=p∨w3.heap.size≤i) w3 B)∧(∀i,i=p∨i=0→B.heap[i]? =W.heap[i]?)∧∀i,w3.heap.size≤i→i<W.heap.size→B.heap[i]? =W.heap[i]?) .normal a' B):=Hi (by
   intro a' B b4 b5 mB;have h:=HS.out;have hn:=HN.out;have hs:=mW.size;have h04:p4≠0∧p5≠0:=by have:=HG.out;have:=HL.out.2.1;obtain⟨C,U,fr,h0,_⟩:=this;have:=aA h0;omega
   refine⟨rfl,⟨by rw[aXl];exact b4,by rw[aXl];exact b5,mW.then mB (fun i _ e=>by omega)⟩,fun i hi=>mB.block i ?_ ?_,fun i h1 h2=>mB.block i h2 ?_⟩
   ·rcases hi with e|e<;>omega
   ·rcases hi with e|e<;>omega
   ·omega)
  have hL:¬LetsOut (fun(e:Exit) (_:Act) (B:World)=>e= .normal∧(B.heap[p4]? =some (.cells (oi ((xs++[j]).foldl (pkS l) none)) 3 (0,0))∧B.heap[p5]? =some (.cells #[.bool ((xs++[j]).foldl (pkS l) none).isSome] 4 (0,0))∧Mod (fun i=>i=p4∨i=p5∨i=p∨w3.heap.size≤i) w3 B)∧(∀i,i=p∨i=0→B.heap[i]? =W.heap[i]?)∧∀i,w3.heap.size≤i→i<W.heap.size→B.heap[i]? =W.heap[i]?):=fun⟨_,_,h⟩=>by cases h.1
  have hsl:=HL.out.1;have hs:∀k,xs.foldl (pkS l) none=some k→k<ll:=fun k h=>by rw[←HLL.out];exact ND (fun _ h=>by cases h) h
  generalize(fun(e:Exit) (_:Act) (B:World)=>e= .normal∧(B.heap[p4]? =some (.cells (oi ((xs++[j]).foldl (pkS l) none)) 3 (0,0))∧B.heap[p5]? =some (.cells #[.bool ((xs++[j]).foldl (pkS l) none).isSome] 4 (0,0))∧Mod (fun i=>i=p4∨i=p5∨i=p∨w3.heap.size≤i) w3 B)∧(∀i,i=p∨i=0→B.heap[i]? =W.heap[i]?)∧∀i,w3.heap.size≤i→i<W.heap.size→B.heap[i]? =W.heap[i]?)=Qb at *;generalize xs.foldl (pkS l) none=s at *
  gi_wp2
  rcases aYt j ll with hlt|hge
  ·obtain⟨x,hx⟩:∃x,l[j]? =some x:=⟨_,aZb (by rw[HLL.out];exact hlt)⟩;have hd:=Dt hlt;cases s with
   |none=>
    have hpk:pkS l none j=some j:=by unfold pkS;rw[HLL.out,if_pos hlt]
    rw[hpk]at HF;have HKX:=Hi (Ai k4 k5);replace k5:W.heap[p5]? =some (.cells #[.bool false] 4 (0,0)):=k5;clear hsl hx hpk hs k4;have Lk3:=aA k3;have Lk5:=aA k5;refine fR (T0:=fun _=>False) (K:=fun _ _=>True) (κ:=fun i=>[0,0,0,0,0,0,0,0,0,0,0,0,0,0,0,0,0,0,0].getD i 0) (υ:=fun _=>[]) [0,1,2,3,4,5,6,7,8,9,10,11,12,13,14,15,16,17,18] (by kernel_rfl) (by kernel_rfl) (by rintro⟨_,_,h⟩;exact hL ⟨_,_,h⟩) (by kernel_rfl) (aI.true).cl (trivial) (fun _ h=>h.elim) ?_;have gK:=aI.true
    iterate 8 first|refine Zg ?_|refine Zh ?_
    iterate 9 (refine TG.pass (by simp only[zK];rfl) rfl (by rfl) ?_;try simp only[zL])
    iterate 2 refine Zg ?_
    refine TG.nil (fun w4 ⟨TR,hr⟩=> ?_);replace k3:=hr.q k3;replace k5:=hr.q k5;clear gK;have HM4:=Hi hr.mod;clear hr k3 k5;have k4:w4.heap[p4]? =some (.cells #[.int .i64 0] 3 (0,0)):=HM4.out.at0 HKX.out.1;have k5:w4.heap[p5]? =some (.cells #[.bool false] 4 (0,0)):=HM4.out.at0 HKX.out.2;have mS:Mod (fun i=>i=p4) w4 (w4.setCell ⟨p4,0,none⟩ (.int .i64 (j:Int))):=(Mod.refl _ _).setCell _ (fun _=>rfl);have k4b:(w4.setCell ⟨p4,0,none⟩ (.int .i64 (j:Int))).heap[p4]? =some (.cells #[.int .i64 (j:Int)] 3 (0,0)):=by
     rw[setCell_blk k4,aD _ _ (aA k4)];rfl
    have k5b:=mS.at_ne k5 (fun e=>HN.out.2.2.2 e.symm)
    gi_wp2
    generalize w4.setCell ⟨p4,0,none⟩ (.int .i64 (j:Int))=w5 at *;have mS5:Mod (fun i=>i=p5) w5 (w5.setCell ⟨p5,0,none⟩ (.bool true)):=(Mod.refl _ _).setCell _ (fun _=>rfl);have k5c:(w5.setCell ⟨p5,0,none⟩ (.bool true)).heap[p5]? =some (.cells #[.bool true] 4 (0,0)):=by
     rw[setCell_blk k5b,aD _ _ (aA k5b)];rfl
    exact HF.out _ _ (mS5.at_ne k4b HN.out.2.2.2) k5c (((HM4.out.mono (fun _ _ h=>h.elim)).then mS (fun i _ e=> .inl e)).then mS5 (fun i _ e=> .inr e))
   |some k=>
    have hk:=hs k rfl;obtain⟨y,hy⟩:∃y,l[k]? =some y:=⟨_,aZb (by rw[HLL.out];exact hk)⟩;rcases hsl with hsl|⟨b,o,C,U,fr,ha,kb,hC⟩
    ·rw[hsl]at hx;cases hx
    have kl:=mW.at (HW.out.at0 kb) (by have h:=HG.out;have h1:=aA kb;have h2:=HS.out;omega);have c1:=kF (hC j x hx).1 (j:=0) (v:=fv x) rfl;have c2:=kF (hC k y hy).1 (j:=0) (v:=fv y) rfl;simp only[aYp,aXz]at c1 c2;have HXY:Hid (pkS l (some k) j=if DJ x y then some j else some k):=Hi (by unfold pkS;rw[HLL.out,if_pos hlt];show(if DJ (l.getD j 0) (l.getD k 0)=true then some j else some k)=_;rw[aZk,hx,aZk,hy];rfl);have HKX:=Hi (Ai k4 k5);replace k4:W.heap[p4]? =some (.cells #[.int .i64 (k:Int)] 3 (0,0)):=k4;replace k5:W.heap[p5]? =some (.cells #[.bool true] 4 (0,0)):=k5;clear hs hx hy kb hC;subst ha;unfold fv at c1 c2;have hsh:=DK x y;unfold fv at hsh;cases hz:DJ x y with
    |true=>
     rw[hz]at hsh;rw[HXY.out,hz,if_pos rfl]at HF;clear hz;have Lk3:=aA k3;have Lk4:=aA k4;have Lk5:=aA k5;have Lkl:=aA kl;refine fR (T0:=fun _=>False) (K:=fun _ _=>True) (κ:=fun i=>[0,0,0,0,0,0,0,0,0,0,0,0,0,0,0,0,6,0,0].getD i 0) (υ:=fun _=>[]) [0,1,2,3,4,5,6,7,8,9,10,11,12,13,14,15,16,17,18] (by kernel_rfl) (by kernel_rfl) (by rintro⟨_,_,h⟩;exact hL ⟨_,_,h⟩) (by kernel_rfl) (aI.true).cl (trivial) (fun _ h=>h.elim) ?_;have gK:=aI.true
     iterate 16 first|refine Zg ?_|refine Zh ?_
     (refine ZG (fun v=>v= .bool true) gK ?_ (s:=fun T wq kq ltq hSq ub=>by exact(hsh wq).mono (fun e w' h=>⟨_,h.1,rfl,by rw[h.2];exact Mod.refl _ _⟩));rintro v39 hC;subst hC;try simp only[zL])
     iterate 2 refine Zg ?_
     refine TG.nil (fun w4 ⟨TR,hr⟩=> ?_);replace k3:=hr.q k3;replace k4:=hr.q k4;replace k5:=hr.q k5;replace kl:=hr.q kl;clear gK;have HM4:=Hi hr.mod;clear hr k3 k4 k5 kl;have k4:w4.heap[p4]? =some (.cells #[.int .i64 (k:Int)] 3 (0,0)):=HM4.out.at0 HKX.out.1;have k5:w4.heap[p5]? =some (.cells #[.bool true] 4 (0,0)):=HM4.out.at0 HKX.out.2;have mS:Mod (fun i=>i=p4) w4 (w4.setCell ⟨p4,0,none⟩ (.int .i64 (j:Int))):=(Mod.refl _ _).setCell _ (fun _=>rfl);have k4b:(w4.setCell ⟨p4,0,none⟩ (.int .i64 (j:Int))).heap[p4]? =some (.cells #[.int .i64 (j:Int)] 3 (0,0)):=by
      rw[setCell_blk k4,aD _ _ (aA k4)];rfl
     have k5b:=mS.at_ne k5 (fun e=>HN.out.2.2.2 e.symm)
     gi_wp2
     generalize w4.setCell ⟨p4,0,none⟩ (.int .i64 (j:Int))=w5 at *;have mS5:Mod (fun i=>i=p5) w5 (w5.setCell ⟨p5,0,none⟩ (.bool true)):=(Mod.refl _ _).setCell _ (fun _=>rfl);have k5c:(w5.setCell ⟨p5,0,none⟩ (.bool true)).heap[p5]? =some (.cells #[.bool true] 4 (0,0)):=by
      rw[setCell_blk k5b,aD _ _ (aA k5b)];rfl
     exact HF.out _ _ (mS5.at_ne k4b HN.out.2.2.2) k5c (((HM4.out.mono (fun _ _ h=>h.elim)).then mS (fun i _ e=> .inl e)).then mS5 (fun i _ e=> .inr e))
    |false=>
     rw[hz]at hsh;rw[HXY.out,hz,if_neg (by simp)]at HF;clear hz;have Lk3:=aA k3;have Lk4:=aA k4;have Lk5:=aA k5;have Lkl:=aA kl;refine fR (T0:=fun _=>False) (K:=fun _ _=>True) (κ:=fun i=>[0,0,0,0,0,0,0,0,0,0,0,0,0,0,0,0,6,0,0].getD i 0) (υ:=fun _=>[]) [0,1,2,3,4,5,6,7,8,9,10,11,12,13,14,15,16,17,18] (by kernel_rfl) (by kernel_rfl) (by rintro⟨_,_,h⟩;exact hL ⟨_,_,h⟩) (by kernel_rfl) (aI.true).cl (trivial) (fun _ h=>h.elim) ?_;have gK:=aI.true
     iterate 16 first|refine Zg ?_|refine Zh ?_
     (refine ZG (fun v=>v= .bool false) gK ?_ (s:=fun T wq kq ltq hSq ub=>by exact(hsh wq).mono (fun e w' h=>⟨_,h.1,rfl,by rw[h.2];exact Mod.refl _ _⟩));rintro v58 hC;subst hC;try simp only[zL])
     iterate 2 refine Zg ?_
     refine TG.nil (fun w4 ⟨TR,hr⟩=> ?_);replace k3:=hr.q k3;replace k4:=hr.q k4;replace k5:=hr.q k5;replace kl:=hr.q kl;clear gK;have HM4:=Hi hr.mod;clear hr k3 k4 k5 kl
     gi_wp2
     exact HF.out _ _ (HM4.out.at0 HKX.out.1) (HM4.out.at0 HKX.out.2) (HM4.out.mono (fun _ _ h=>h.elim))
  ·have hd:decide (j<ll)=false:=Df (by omega);have hpk:pkS l s j=s:=by unfold pkS;rw[HLL.out,if_neg (by omega)]
   rw[hpk]at HF;have HKX:=Hi (Ai k4 k5);clear hsl hs k4 k5 hpk;have Lk3:=aA k3;refine fR (T0:=fun _=>False) (K:=fun _ _=>True) (κ:=fun i=>[0,0,0,0,0,0,0,0,0,0,0,0,0,0,0,0,0,0,0].getD i 0) (υ:=fun _=>[]) [0,1,2,3,4,5,6,7,8,9,10,11,12,13,14,15,16,17,18] (by kernel_rfl) (by kernel_rfl) (by rintro⟨_,_,h⟩;exact hL ⟨_,_,h⟩) (by kernel_rfl) (aI.true).cl (trivial) (fun _ h=>h.elim) ?_;have gK:=aI.true
   iterate 5 first|refine Zg ?_|refine Zh ?_
   iterate 13 (refine TG.pass (by simp only[zK];rfl) rfl (by rfl) ?_;try simp only[zL])
   refine Zg ?_;refine TG.nil (fun w4 ⟨TR,hr⟩=> ?_);replace k3:=hr.q k3;clear gK;have HM4:=Hi hr.mod;clear hr k3
   gi_wp2
   exact HF.out _ _ (HM4.out.at0 HKX.out.1) (HM4.out.at0 HKX.out.2) (HM4.out.mono (fun _ _ h=>h.elim))
 case done=>
  rintro D xs W hD rfl ⟨k4,k5,mW⟩ hK;have HMW:Hid (Mod (fun i=>w.heap.size≤i) w W):=Hi ((HW.out.mono (fun _ _ h=>h.elim)).then mW (fun i hi e=>by have h:=HG.out;have h1:=HS.out;have h2:=m0;omega));change W.heap[p4]? =some (.cells (oi (pkR m l)) 3 (0,0))at k4;change W.heap[p5]? =some (.cells #[.bool (pkR m l).isSome] 4 (0,0))at k5;unfold oi at k4;generalize((pkR m l).getD 0)=r at *;generalize(pkR m l).isSome=z at *;go_upto_region 5 with fail;have HK4:=Hi k4;have HK5:=Hi k5;have HKD:=Hi hK;clear k4 k5 hK mW;refine cJ (T0:=fun _=>False) (K:=fun _ _=>True) (κ:=fun i=>[0,0,6,6].getD i 0) (υ:=fun _=>[]) [0,1,2,3] (by kernel_rfl) (by kernel_rfl) (aI.true).cl (trivial) (fun _ h=>h.elim) ?_;have gK:=aI.true;(refine TG.load (v:= ?v80) (p:= ?p80) (by simp only[zK];rfl) rfl (by rfl) rfl ?hx80 (fun wq hSq=> ?y80) ?n80;(case hx80=>simp only[zM];try rfl);(case y80=>(exact SS (hSq.at0 HK4.out)));try simp only[zL]);(refine TG.load (v:= ?v81) (p:= ?p81) (by simp only[zK];rfl) rfl (by rfl) rfl ?hx81 (fun wq hSq=> ?y81) ?n81;(case hx81=>simp only[zM];try rfl);(case y81=>(exact SR (hSq.at0 HK5.out)));try simp only[zL]);(refine TG.storeU (X:= ?X82) (Y:= ?Y82) (fun _ _=>True) (aI.true) (by simp only[zK];rfl) rfl (by rfl) rfl rfl ?hx82 ?hz82 (fun T wq hSq kq=> ?y82) (fun _=> ?n82);(case hx82=>simp only[zM];try rfl);(case hz82=>simp only[zM];try rfl);(case y82=>(exact⟨wq,by have:(Instr.storeAt 3 (.pointer (some ⟨p4,0,none⟩)) (.int .i64 (r:Int))).run Tryz.prog wq= .ok () (setBlock wq p4 (.cells #[.int .i64 (r:Int)] 3 (0,0))):=kK (hSq.at0 HK4.out) (by kernel_rfl) (by simp) rfl;rw[gU (hSq.at0 HK4.out)]at this;exact this,Mod.refl _ _,trivial⟩));replace gK:=(aI.true);try simp only[zL]);(refine TG.storeU (X:= ?X83) (Y:= ?Y83) (fun _ _=>True) (aI.true) (by simp only[zK];rfl) rfl (by rfl) rfl rfl ?hx83 ?hz83 (fun T wq hSq kq=> ?y83) (fun _=> ?n83);(case hx83=>simp only[zM];try rfl);(case hz83=>simp only[zM];try rfl);(case y83=>(exact⟨wq,by have:(Instr.storeAt 4 (.pointer (some ⟨p5,0,none⟩)) (.bool z)).run Tryz.prog wq= .ok () (setBlock wq p5 (.cells #[.bool z] 4 (0,0))):=kK (hSq.at0 HK5.out) (by kernel_rfl) (by simp) rfl;rw[gU (hSq.at0 HK5.out)]at this;exact this,Mod.refl _ _,trivial⟩));replace gK:=(aI.true);try simp only[zL]);refine TG.nil (fun w4 ⟨TR,hr⟩=> ?_);clear gK;have HM4:=Hi hr.mod;clear hr;go_wp2_with fail;rw[←HQ1.out];refine⟨fun c h=>(by cases h),fun h=>(by cases h),?_⟩;rw[←HQ0.out];have hKD:=HM4.out.at0 HKD.out;refine⟨by simp,.inl ⟨_,_,rfl,run_takeDeferred hKD,?_⟩⟩;have h:=HS.out;have hd4:p4≠D∧p5≠D:=by omega
  refine⟨_,qG rfl rfl rfl (SS ((World.putObj_heap_other hd4.1).trans (HM4.out.at0 HK4.out))) (SR ((World.putObj_heap_other hd4.2).trans (HM4.out.at0 HK5.out))),rfl,?_⟩;have mm:=HMW.out.then HM4.out (fun i _ e=>e.elim);exact(mm.then (oQ _ D _) (fun i hi e=>by omega)).mono (fun i hi e=>by omega)
end
section
attribute [local go_sem↓] eS eP eR
attribute [local go_sem] aH aC dC aN aK aP aF aO cR bY kc_size bB Value.cells
attribute [local go_sem↓] jY
attribute [local go_sem] bF dE dW
structure Dk where
 sp:Value
 room:Nat
 win:Nat
 bat:Nat
 fli:Nat
 l1:Value
 l2:Value
 l3:Value
 fw:Value
 hold:Value
 own:Value
 b:Nat
 t:Nat
 ln:Nat
 q:Nat
 sn:Nat
 fv:Value
 cv:Value
def iR (D:Dk):Array Value:= #[D.sp,.int .i64 (D.room:Int),.int .i64 (D.win:Int),.int .i64 (D.bat:Int),.int .i64 (D.fli:Int),D.l1,D.l2,D.l3,D.fw,D.hold,D.own,ptrV D.b,ptrV D.t,ptrV D.ln,ptrV D.q,ptrV D.sn,D.fv,D.cv]
structure Pk where
 d:Nat
 g:Nat
 ab:Nat
 hb:Nat
 ov:Value
 gv:Value
 dv:Value
 av:Value
def pac (X:Pk):Array Value:= #[ptrV X.d,ptrV X.g,ptrV X.ab,.map (some X.hb),X.ov,X.gv,X.dv,X.av]
theorem GM (pre:List Value) (k:aQ) (post:List Value):(mx pre k post).extract pre.length (pre.length+32)=kc k:=by
 apply aZ1.1;rw[aXv];show((pre++(k.l.map bc++post)).drop pre.length).take (pre.length+32-pre.length)=k.l.map bc;rw[List.drop_left,show pre.length+32-pre.length=32 by omega,List.take_left' (by simp[k.h])]
theorem yP (y:bU):(dL y).extract 8 40=kc y.r.rc:=GM (u64v y.n::cX y.r) _ _
theorem tN (y:bU):(dL y)[2]? =some (.slice y.r.sg.a y.r.sg.l.length y.r.sg.c):=jM (i:=2) (by simp[cX])
theorem tO (y:bU) (h:2<(dL y).size):(dL y)[2]= .slice y.r.sg.a y.r.sg.l.length y.r.sg.c:=aU (tN y) h
theorem nD (y:bU):(dL y)[42]? =some (.slice y.r.ro.a y.r.ro.l.length y.r.ro.c):=eY (pre:=u64v y.n::cX y.r) 2
theorem tM (y:bU) (h:42<(dL y).size):(dL y)[42]= .slice y.r.ro.a y.r.ro.l.length y.r.ro.c:=aU (nD y) h
attribute [local go_sem↓] dH bZ dF MZ NK uY jL uQ
attribute [local go_sem] bD bW dB jA fS yP tN tO nD tM bG cD cF fD BI xA qI fY iL i6 iR pac
def VM (base:Nat) (x:It) (v:Value):aL:=fun T w=>∃z:bU,v= .tuple #[.agg (dL z),.int .i64 0]∧z.con=x∧dM base w z.r∧kA T z.r
theorem FY (base:Nat) (x:It) (v:Value):aI (VM base x v) where
 cl:=fun T w w' h hm=>by
  obtain⟨x,e,hc,hn,hi⟩:=h;exact⟨x,e,hc,hn.mod hm hi (fun i hi hn=>hn hi),hi⟩
 gr:=fun T T' w hT h=>by
  obtain⟨x,e,hc,hn,hi⟩:=h;exact⟨x,e,hc,hn,hi.mono hT⟩
theorem SC {wq:World} {b:Nat} {S:List (Option It)} {TB:Nat→Prop} {i:Nat} {x:It} (base:Nat) (hb:base≤wq.heap.size) (T:Nat→Prop) (h:BT b S TB wq) (hx:S[i]? =some (some x)):Calls Tryz.prog 17 #[ptrV b,.int .i64 (i:Int)] wq fun e w'=>∃v,e= .returned v∧Mod (fun _=>False) wq w'∧VM base x v (Grow T wq w') w':=
 (EP h.bh hx).mono fun e w' h=>by
  obtain⟨z,hc,hn,he,hm⟩:=h;exact⟨_,he,hm,z,rfl,hc,hn.lower hb,hn.inn.mono (fun i hi=> .inr hi)⟩
section
variable {p b:Nat} {D:Dk} {X:Pk} {S:List (Option It)} {T:Nat→Prop} {w:World}
theorem O6 (kp:w.heap[p]? =some (.cells (pac X) 121 (0,0))) (kd:w.heap[X.d]? =some (.cells (iR D) 69 (0,0))) (hB:BT D.b S T w) {i:Nat} {x:It} (hx:S[i]? =some (some x)):
  Calls Tryz.prog 72 #[ptrV p,.int .i64 (i:Int)] w fun e w'=>(∃z:bU,z.con=x∧dM w.heap.size w' z.r∧e= .returned (.agg (dL z)))∧Mod (fun _=>False) w w':=by
 have HB:=Hi hB;have HX:=Hi hx;clear hB hx;unfold pac at kp;unfold iR at kd;go_enter Tryz.func72,Tryz.ntmps72;go_upto_region 0 with fail;have Lkp:=aA kp;have Lkd:=aA kd;refine ZP0 [3] ?_;refine Za eT fun p4 hp4=> ?_;refine TD.nil (fun w1 hr=> ?_);replace kp:=hr.q kp;replace kd:=hr.q kd;obtain⟨gp4,kp4⟩:=hr.b p4;have m1:=hr.mod;clear hr;go_upto_region 1 with fail;have Lkp:=aA kp;have Lkd:=aA kd;have Lkp4:=aA kp4;refine wp_gpass0 (T0:=fun _=>False) (K:=fun _ _=>True) (κ:=fun i=>[0,0,0,0,0,0,0,0,6,0,0,0,3,4,0].getD i 0) (υ:=fun _=>[]) [0,1,2,3,4,5,6,7,8,9,10,11,12,13,14] (by kernel_rfl) (by kernel_rfl) (aI.true).cl (trivial) (fun _ h=>h.elim) ?_;have gK:=aI.true
 iterate 8 first|refine Zg ?_|refine Zh ?_
 (refine ZJ (VM w.heap.size x) (FY w.heap.size x) gK ?_ (s:=fun T wq kq ltq hSq ub=>by have kpq:=hSq.at kp (fun h=>h);have kdq:=hSq.at kd (fun h=>h);have kp4q:=hSq.at kp4 (fun h=>h);exact SC w.heap.size (m1.then0 hSq).size T ((BT.good D.b S).cl _ _ _ HB.out ((m1.then0 hSq).mono (fun _ _ h=>h.elim))) HX.out);rintro v10 ⟨wI,TI,hI⟩;replace gK:=gK.and ((FY w.heap.size x) v10);(obtain⟨_,z,rfl,_⟩:=hI.k);(try clear hI TI wI);try simp only[zL])
 iterate 3 refine Zg ?_
 (refine TG.allocB (by simp only[zK];rfl) rfl (by rfl) rfl rfl eT (fun p5 hp5 _=> ?n14);try simp only[zL]);(refine TG.storeB (d:= ?d15) (T:= ?T15) (y:= ?y15) (p:= ?p15) (b:= ?b15) (v:= ?v15) (by simp only[zK];rfl) rfl (by rfl) ?hd15 ?hop15 ?hev15 ?hx15 ?hb15 ?htag15 (fun w1 hb1=> ?hy15) ?hn15;(case hd15=>rfl);(case hop15=>rfl);(case hev15=>(simp only[zM];(try rfl)));(case hx15=>simp only[zM];try rfl);(case hb15=>first|exact Bx.set_same _ _ _|(simp only[Bx.set_same];rfl));(case htag15=>exact⟨rfl,rfl⟩);(case hy15=>(go_simp;(try first|with_reducible rfl|(rw[setCell_blk hb1];rfl))));try simp only[zL]);refine Zg ?_;refine TG.nil (fun w3 ⟨TR,hr⟩=> ?_);replace kp:=hr.q kp;replace kd:=hr.q kd;replace kp4:=hr.q kp4;obtain⟨gp5,nTp5,kp5⟩:=hr.b p5;clear gK;obtain⟨_,z2,hz,hzc,hzn,hzi⟩:=hr.k;rename_i hZ0 _ _;clear hZ0;have hz2:dL z=dL z2:=by
  injection hz with hz
  have:=congrArg (fun a=>a[0]?) hz;simpa using this
 have hT4:∀g,TR g→g≠p4:=fun g hg e=>(hr.old g (e▸Lkp4) hg).elim;have m3:=m1.then0 hr.mod;have HZ:=Hi (Ai hzc (Ai hzn (Ai hzi hT4)));have HP5:Hid (p4≠p5∧w.heap.size≤p4):=Hi ⟨by omega,gp4⟩;rw[hz2]at kp5;simp only[hz2];clear hr hzc hzn hzi hT4 hz hz2 kp kd;go_upto_region 2 with fail;have Lkp4:=aA kp4;have Lkp5:=aA kp5;refine ZP0 [1,5] ?_;refine Zd ?_;refine Zi fun wE hr=> ?_;replace kp4:=hr.mod.at0 kp4;replace kp5:=hr.mod.at0 kp5;have mE:=hr.mod;refine ZS ?_;refine ZN kp4 fun w6 kp4 mS=> ?_;(try simp only[Array.setIfInBounds,zL]at kp4);replace kp5:=mS.at_ne kp5 (by omega);have m6:=(m3.then0 mE).thenB mS (.inl HP5.out.2);have HN6:dM w.heap.size w6 z2.r:=(HZ.out.2.1.mod0 mE).mod mS HZ.out.2.2.1 HZ.out.2.2.2;go_wp2_with fail;exact bodyPost_ret (results_cell1 (v:= .agg (dL z2)) rfl rfl (by rw[bZ];simp[kp4,bW,bD])) rfl ⟨⟨z2,HZ.out.1,HN6,rfl⟩,m6⟩
def sg0:Sg:=⟨List.replicate 64 0,by simp⟩
theorem Q9:UL=sgc sg0:=by rfl
def cN (H:List aQ) (N:List (Sg×aQ)) (r:JG):Nat:=if r.rc∈H then(if(lkp (r.sg.headD sg0) N).isSome then 6 else 0)else 5
theorem OV {TS:Nat→Prop} {H:List aQ} {N:List (Sg×aQ)} (kp:w.heap[p]? =some (.cells (pac X) 121 (0,0))) (kd:w.heap[X.d]? =some (.cells (iR D) 69 (0,0))) (hQ:oF w D.q H) (hS:kD TS w D.sn N) (z:bU) (hz:aS sgc 64 w z.r.sg.a z.r.sg.l):
  Calls Tryz.prog 100 #[ptrV p,.agg (dL z)] w fun e w'=>e= .returned (.int .u8 (cN H N z.r.con:Nat))∧Mod (fun _=>False) w w':=by
 have HQ:=Hi hQ;have HS:=Hi hS;have HZ:=Hi hz;have hrc:z.r.con.rc=z.r.rc:=rfl;have hsg:z.r.con.sg=z.r.sg.l:=rfl;obtain⟨F,hF⟩:∃F,cN H N z.r.con=F:=⟨_,rfl⟩;rw[hF];unfold cN at hF;rw[hrc,hsg]at hF;have HF:=Hi hF;clear hQ hS hz hrc hsg hF;unfold pac at kp;unfold iR at kd;go_enter Tryz.func100,Tryz.ntmps100;go_upto_region 0 with fail;have Lkp:=aA kp;have Lkd:=aA kd;refine ZP0 [3,0] ?_;refine Zb fun p3 hp3=> ?_;refine Zv ?_;refine TD.nil (fun w1 hr=> ?_);replace kp:=hr.q kp;replace kd:=hr.q kd;obtain⟨gp3,kp3⟩:=hr.b p3;have m1:=hr.mod;clear hr;go_upto_region 1 with fail;have Lkp:=aA kp;have Lkd:=aA kd;have Lkp3:=aA kp3;refine ZP0 [3] ?_;refine Za RW fun p5 hp5=> ?_;refine TD.nil (fun w2 hr=> ?_);replace kp:=hr.q kp;replace kd:=hr.q kd;replace kp3:=hr.q kp3;obtain⟨gp5,kp5⟩:=hr.b p5;have m2:=m1.then0 hr.mod;have hne:p3≠p5:=by omega
 have hb5:w.heap.size≤p5:=by have:=m1.size;omega
 clear hr m1;rw[Q9]at kp5;have hF:=HF.out;clear HF;go_upto_region 2 with fail;have Lkp:=aA kp;have Lkd:=aA kd;have Lkp3:=aA kp3;have Lkp5:=aA kp5;refine ZP0 [0,0,0,1,0,0] ?_
 iterate 6 first|refine Zv ?_|refine Zd ?_
 refine TD.nil (fun w2b hr=> ?_);replace kp:=hr.q kp;replace kd:=hr.q kd;replace kp3:=hr.q kp3;replace kp5:=hr.q kp5;have m2b:=m2.then0 hr.mod;clear hr m2;obtain hl|⟨g,r,hl⟩:z.r.sg.l=[]∨∃g r,z.r.sg.l=g::r:=by cases z.r.sg.l with|nil=>exact .inl rfl|cons g r=>exact .inr ⟨g,r,rfl⟩
 ·
  have HFS:Hid (z.r.sg.l.headD sg0=sg0):=Hi (by rw[hl];rfl);have hd0:decide ((0:Int)<((z.r.sg.l.length:Nat):Int))=false:=by rw[hl];rfl
  have hd0n:decide (0<z.r.sg.l.length)=false:=by rw[hl];rfl
  have m3:=m2b;have e0:z.r.sg.l.length=0:=by rw[hl];rfl
  simp only[e0];clear m2b hd0 hd0n e0;clear hl;go_upto_region 4 with fail;have Lkp:=aA kp;have Lkd:=aA kd;have Lkp3:=aA kp3;have Lkp5:=aA kp5;refine ZR (fun _ _ v=>∃i:Nat,v= .tuple #[.int .i64 (i:Int),.bool (decide (z.r.rc∈H))]) [0,0,0,1,0,0,1,0,0,0,0,1,2,0,0,0,0,0] ?_
  iterate 12 first|refine Zv ?_|refine Zd ?_
  (refine Zc ?_ (s:=by intro wq hSq;exact(age_c D.q H z.r.rc wq (HQ.out.mod0 (m3.then0 hSq))).mono (fun e w' ⟨i,h1,h2⟩=>⟨_,h1,⟨i,rfl⟩,h2⟩));rintro _ ⟨ia,rfl⟩;try simp only[zL])
  iterate 5 refine Zv ?_
  refine TD.nil (fun w4 hr=> ?_);replace kp:=hr.q kp;replace kd:=hr.q kd;replace kp3:=hr.q kp3;replace kp5:=hr.q kp5;have m4:=m3.then0 hr.mod;clear hr m3;by_cases hH:z.r.rc∈H
  ·have hd:=Dt hH;go_upto_region 7 with fail;have Lkp:=aA kp;have Lkd:=aA kd;have Lkp3:=aA kp3;have Lkp5:=aA kp5;refine ZR (fun _ _ v=>v= .bool (lkp (sg0) N).isSome) [0,0,0,1,0,0,1,1,2] ?_
   iterate 8 first|refine Zv ?_|refine Zd ?_
   (refine Zc ?_ (s:=by intro wq hSq;exact(shas_c D.sn N (sg0) wq (HS.out.mod0 (m4.then0 hSq))).mono (fun e w' h=>⟨_,h.1,rfl,h.2⟩));rintro _ rfl;try simp only[zL]);refine TD.nil (fun w7 hr=> ?_);replace kp:=hr.q kp;replace kd:=hr.q kd;replace kp3:=hr.q kp3;replace kp5:=hr.q kp5;have m7:=m4.then0 hr.mod;clear hr m4;cases hL:(lkp (sg0) N).isSome with
   |true=>
    rw[if_pos hH,HFS.out,hL,if_pos rfl]at hF;subst hF;clear HQ HS HZ;go_wp2_with fail;go_ret;exact⟨rfl,m7⟩
   |false=>
    rw[if_pos hH,HFS.out,hL,if_neg (by simp)]at hF;subst hF;clear HQ HS HZ;go_wp2_with fail;go_ret;exact⟨rfl,m7⟩
  ·have hd:=Df hH;rw[if_neg hH]at hF;subst hF;clear HQ HS HZ;go_wp2_with fail;go_ret;exact⟨rfl,m4⟩
 ·
  have HFS:Hid (z.r.sg.l.headD sg0=g):=Hi (by rw[hl];rfl);have hd0:decide ((0:Int)<((z.r.sg.l.length:Nat):Int))=true:=Dt (by rw[hl];simp);have hd0n:decide (0<z.r.sg.l.length)=true:=Dt (by rw[hl];simp);have hlen:0<z.r.sg.l.length:=by rw[hl];simp
  obtain⟨b1,o1,C1,U1,fr1,ha1,kl0,hx1,hle1⟩:=HZ.out.block (i:=0) (x:=g) (by rw[hl];rfl);simp only[Nat.zero_mul,aXz]at hx1 hle1;have kl:=m2b.at0 kl0;have hbl:b1≠p5:=by have:=aA kl0;omega
  clear kl0 hl;go_upto_region 3 with fail;have Lkp:=aA kp;have Lkd:=aA kd;have Lkp3:=aA kp3;have Lkl:=aA kl;have Lkp5:=aA kp5;refine ZP0 [0,0,0,1,0,1,5] ?_
  iterate 6 first|refine Zv ?_|refine Zd ?_
  refine Zi fun wE hr=> ?_;replace kp:=hr.mod.at0 kp;replace kd:=hr.mod.at0 kd;replace kp3:=hr.mod.at0 kp3;replace kl:=hr.mod.at0 kl;replace kp5:=hr.mod.at0 kp5;have mE:=hr.mod;refine ZS ?_;refine ZN kp5 fun w3 kp5 mS=> ?_;(try simp only[Array.setIfInBounds,zL]at kp5);replace kp:=mS.at_ne kp (by omega);replace kd:=mS.at_ne kd (by omega);replace kp3:=mS.at_ne kp3 (by omega);replace kl:=mS.at_ne kl (by omega);have m3:=(m2b.then0 mE).thenB mS (.inl hb5);clear mE mS m2b kl hle1 hx1 ha1;go_upto_region 4 with fail;have Lkp:=aA kp;have Lkd:=aA kd;have Lkp3:=aA kp3;have Lkp5:=aA kp5;refine ZR (fun _ _ v=>∃i:Nat,v= .tuple #[.int .i64 (i:Int),.bool (decide (z.r.rc∈H))]) [0,0,0,1,0,0,1,0,0,0,0,1,2,0,0,0,0,0] ?_
  iterate 12 first|refine Zv ?_|refine Zd ?_
  (refine Zc ?_ (s:=by intro wq hSq;exact(age_c D.q H z.r.rc wq (HQ.out.mod0 (m3.then0 hSq))).mono (fun e w' ⟨i,h1,h2⟩=>⟨_,h1,⟨i,rfl⟩,h2⟩));rintro _ ⟨ia,rfl⟩;try simp only[zL])
  iterate 5 refine Zv ?_
  refine TD.nil (fun w4 hr=> ?_);replace kp:=hr.q kp;replace kd:=hr.q kd;replace kp3:=hr.q kp3;replace kp5:=hr.q kp5;have m4:=m3.then0 hr.mod;clear hr m3;by_cases hH:z.r.rc∈H
  ·have hd:=Dt hH;go_upto_region 7 with fail;have Lkp:=aA kp;have Lkd:=aA kd;have Lkp3:=aA kp3;have Lkp5:=aA kp5;refine ZR (fun _ _ v=>v= .bool (lkp (g) N).isSome) [0,0,0,1,0,0,1,1,2] ?_
   iterate 8 first|refine Zv ?_|refine Zd ?_
   (refine Zc ?_ (s:=by intro wq hSq;exact(shas_c D.sn N (g) wq (HS.out.mod0 (m4.then0 hSq))).mono (fun e w' h=>⟨_,h.1,rfl,h.2⟩));rintro _ rfl;try simp only[zL]);refine TD.nil (fun w7 hr=> ?_);replace kp:=hr.q kp;replace kd:=hr.q kd;replace kp3:=hr.q kp3;replace kp5:=hr.q kp5;have m7:=m4.then0 hr.mod;clear hr m4;cases hL:(lkp (g) N).isSome with
   |true=>
    rw[if_pos hH,HFS.out,hL,if_pos rfl]at hF;subst hF;clear HQ HS HZ;go_wp2_with fail;go_ret;exact⟨rfl,m7⟩
   |false=>
    rw[if_pos hH,HFS.out,hL,if_neg (by simp)]at hF;subst hF;clear HQ HS HZ;go_wp2_with fail;go_ret;exact⟨rfl,m7⟩
  ·have hd:=Df hH;rw[if_neg hH]at hF;subst hF;clear HQ HS HZ;go_wp2_with fail;go_ret;exact⟨rfl,m4⟩
end
end
section
attribute [local go_sem↓] eS eP eR
attribute [local go_sem] aH aC dC aN aK aP aF aO cR bY kc_size bB Value.cells
def xM (n m:Int):Bool:=decide (1≤n)&&decide (n≤m)
def cfB (n room win bat fli hold own:Int):Bool:=xM n 64&&(xM room 4096&&(xM win 256&&(xM bat 64&&(xM fli 256&&(decide (0≤hold)&&decide (own≠0))))))
def sZ (sp:Value) (room win bat fli:Int) (l1 l2 l3 fw:Value) (hold:Int) (own:Value):Array Value:= #[sp,.int .i64 room,.int .i64 win,.int .i64 bat,.int .i64 fli,l1,l2,l3,fw,.int .i64 hold,own]
theorem oH (n m:Int) (w:World):Calls Tryz.prog 78 #[.int .i64 n,.int .i64 m] w fun e w'=>e= .returned (.bool (xM n m))∧w'=w:=by
 unfold xM;go_enter Tryz.func78,Tryz.ntmps78;by_cases h1:1≤n
 ·by_cases h2:n≤m
  ·go_wp2_with fail;go_ret;simp[h1,h2]
  ·go_wp2_with fail;go_ret;simp[h1,h2]
 ·go_wp2_with fail;go_ret;simp;omega
theorem tA (sa:Option Addr) (sn sc:Nat) (room win bat fli:Int) (l1 l2 l3 fw:Value) (hold:Int) (oa:Option Addr) (on oc:Nat) (w:World):
  Calls Tryz.prog 38 #[.agg (sZ (.slice sa sn sc) room win bat fli l1 l2 l3 fw hold (.slice oa on oc))] w fun e w'=>e= .returned (.int .i64 (if cfB sn room win bat fli hold on then 0 else 1))∧Mod (fun _=>False) w w':=by
 obtain⟨r,hr⟩:∃r:Int,(if cfB sn room win bat fli hold on then 0 else 1)=r:=⟨_,rfl⟩;rw[hr];have HR:=Hi hr;clear hr;unfold sZ;go_enter Tryz.func38,Tryz.ntmps38;go_upto_region 0 with fail;refine ZP0 [3,0] ?_;refine Zb fun p1 hp1=> ?_;refine Zv ?_;refine TD.nil (fun w1 hr=> ?_);obtain⟨gp1,kp1⟩:=hr.b p1;have m1:=hr.mod;clear hr;go_wp2_with fail;cases h1:xM (sn:Int) 64 with
 |false=>
  go_at_call 78;refine(oH _ _ _).mono ?_;rintro e w' ⟨rfl,rfl⟩;rw[h1];go_wp2_with fail;go_ret;exact⟨by rw[←HR.out];simp[cfB, *],m1⟩
 |true=>
  go_at_call 78;refine(oH _ _ _).mono ?_;rintro e w' ⟨rfl,rfl⟩;rw[h1];go_wp2_with fail;cases h2:xM room 4096 with
  |false=>
   go_at_call 78;refine(oH _ _ _).mono ?_;rintro e w' ⟨rfl,rfl⟩;rw[h2];go_wp2_with fail;go_ret;exact⟨by rw[←HR.out];simp[cfB, *],m1⟩
  |true=>
   go_at_call 78;refine(oH _ _ _).mono ?_;rintro e w' ⟨rfl,rfl⟩;rw[h2];go_wp2_with fail;cases h3:xM win 256 with
   |false=>
    go_at_call 78;refine(oH _ _ _).mono ?_;rintro e w' ⟨rfl,rfl⟩;rw[h3];go_wp2_with fail;go_ret;exact⟨by rw[←HR.out];simp[cfB, *],m1⟩
   |true=>
    go_at_call 78;refine(oH _ _ _).mono ?_;rintro e w' ⟨rfl,rfl⟩;rw[h3];go_wp2_with fail;cases h4:xM bat 64 with
    |false=>
     go_at_call 78;refine(oH _ _ _).mono ?_;rintro e w' ⟨rfl,rfl⟩;rw[h4];go_wp2_with fail;go_ret;exact⟨by rw[←HR.out];simp[cfB, *],m1⟩
    |true=>
     go_at_call 78;refine(oH _ _ _).mono ?_;rintro e w' ⟨rfl,rfl⟩;rw[h4];go_wp2_with fail;cases h5:xM fli 256 with
     |false=>
      go_at_call 78;refine(oH _ _ _).mono ?_;rintro e w' ⟨rfl,rfl⟩;rw[h5];go_wp2_with fail;go_ret;exact⟨by rw[←HR.out];simp[cfB, *],m1⟩
     |true=>
      by_cases h6:0≤hold
      ·have h6':¬hold<0:=by omega
       by_cases h7:(on:Int)=0
       ·have h7':on=0:=by omega
        subst h7';go_at_call 78;refine(oH _ _ _).mono ?_;rintro e w' ⟨rfl,rfl⟩;rw[h5];go_wp2_with fail;go_ret;exact⟨by rw[←HR.out];simp[cfB, *],m1⟩
       ·have h7':¬on=0:=by omega
        have h7b:((on:Int)==0)=false:=by simp;omega
        go_at_call 78;refine(oH _ _ _).mono ?_;rintro e w' ⟨rfl,rfl⟩;rw[h5];go_wp2_with fail;go_ret;exact⟨by rw[←HR.out];simp[cfB, *],m1⟩
      ·have h6':hold<0:=by omega
       go_at_call 78;refine(oH _ _ _).mono ?_;rintro e w' ⟨rfl,rfl⟩;rw[h5];go_wp2_with fail;go_ret;exact⟨by rw[←HR.out];simp[cfB, *];omega,m1⟩
end
section
attribute [local go_sem↓] eS eP eR
attribute [local go_sem] aH aC dC aN aK aP aF aO cR bY kc_size bB Value.cells
def DE (o:Option Nat):Value:= .pointer (o.map fun b=>⟨b,0,none⟩)
def XI (sp:Value) (room win bat fli:Int) (l1 l2 l3 fw:Value) (hold:Int) (own:Value) (b t ln q sn:Option Nat) (fv cv:Value):Array Value:= #[sp,.int .i64 room,.int .i64 win,.int .i64 bat,.int .i64 fli,l1,l2,l3,fw,.int .i64 hold,own,DE b,DE t,DE ln,DE q,DE sn,fv,cv]
def whB (b t ln q sn:Option Nat) (n fn cn:Nat):Bool:=b.isSome&&(t.isSome&&(ln.isSome&&(q.isSome&&(sn.isSome&&(decide (fn=n)&&decide (cn=n))))))
theorem BR (w:World):Calls Tryz.prog 29 #[.pointer none] w fun e w'=>e= .returned (.int .i64 2)∧Mod (fun _=>False) w w':=by
 go_enter Tryz.func29,Tryz.ntmps29;go_upto_region 1 with fail;refine ZP [0,0,0,0,0,0,1,0,0,0,0,0,0,1,0,0,0,0,0,0,1,0,0,0,0,0,0,1,0,0,0,0,0,0,1,0,0,0,0,0,0,1,0,0,0,0,0,1,0,0,0,0,0,0,0,1,0,0,0,0,0,1,0,0,0] ?_
 iterate 65 first|refine Zo ?_|refine Zp ?_|refine Zv ?_
 refine TD.nil (fun w1 hr=> ?_);have m1:=hr.mod;clear hr;go_wp2_with fail;go_ret;exact⟨rfl,m1⟩
theorem eO {d:Nat} {w:World} {sa:Option Addr} {sn sc:Nat} {room win bat fli:Int} {l1 l2 l3 fw:Value} {hold:Int} {oa:Option Addr} {on oc:Nat} {b t ln q sn2:Option Nat} {fa ca:Option Addr} {fn fc cn cc:Nat}
  (kd:w.heap[d]? =some (.cells (XI (.slice sa sn sc) room win bat fli l1 l2 l3 fw hold (.slice oa on oc) b t ln q sn2 (.slice fa fn fc) (.slice ca cn cc)) 69 (0,0))):
  Calls Tryz.prog 29 #[ptrV d] w fun e w'=>e= .returned (.int .i64 (if whB b t ln q sn2 sn fn cn then(if cfB sn room win bat fli hold on then 0 else 1)else 2))∧Mod (fun _=>False) w w':=by
 obtain⟨r,hr⟩:∃r:Int,(if whB b t ln q sn2 sn fn cn then(if cfB sn room win bat fli hold on then 0 else 1)else 2)=r:=⟨_,rfl⟩;rw[hr];have HR:=Hi hr;clear hr;unfold XI DE at kd;go_enter Tryz.func29,Tryz.ntmps29;cases b with
 |none=>
  go_upto_region 1 with fail;have Lkd:=aA kd;refine ZP [0,0,0,0,0,0,1,0,0,0,0,0,0,1,0,0,0,0,0,0,1,0,0,0,0,0,0,1,0,0,0,0,0,0,1,0,0,0,0,0,0,1,0,0,0,0,0,1,0,0,0,0,0,0,0,1,0,0,0,0,0,1,0,0,0] ?_
  iterate 65 first|refine Zo ?_|refine Zp ?_|refine Zv ?_|refine Zd ?_
  refine TD.nil (fun w1 hr=> ?_);replace kd:=hr.q kd;have m1:=hr.mod;clear hr;go_wp2_with fail;go_ret;exact⟨by rw[←HR.out];simp[whB, *],m1⟩
 |some b=>
  cases t with
  |none=>
   go_upto_region 1 with fail;have Lkd:=aA kd;refine ZP [0,0,0,0,0,0,1,0,0,0,0,0,0,1,0,0,0,0,0,0,1,0,0,0,0,0,0,1,0,0,0,0,0,0,1,0,0,0,0,0,0,1,0,0,0,0,0,1,0,0,0,0,0,0,0,1,0,0,0,0,0,1,0,0,0] ?_
   iterate 65 first|refine Zo ?_|refine Zp ?_|refine Zv ?_|refine Zd ?_
   refine TD.nil (fun w1 hr=> ?_);replace kd:=hr.q kd;have m1:=hr.mod;clear hr;go_wp2_with fail;go_ret;exact⟨by rw[←HR.out];simp[whB, *],m1⟩
  |some t=>
   cases ln with
   |none=>
    go_upto_region 1 with fail;have Lkd:=aA kd;refine ZP [0,0,0,0,0,0,1,0,0,0,0,0,0,1,0,0,0,0,0,0,1,0,0,0,0,0,0,1,0,0,0,0,0,0,1,0,0,0,0,0,0,1,0,0,0,0,0,1,0,0,0,0,0,0,0,1,0,0,0,0,0,1,0,0,0] ?_
    iterate 65 first|refine Zo ?_|refine Zp ?_|refine Zv ?_|refine Zd ?_
    refine TD.nil (fun w1 hr=> ?_);replace kd:=hr.q kd;have m1:=hr.mod;clear hr;go_wp2_with fail;go_ret;exact⟨by rw[←HR.out];simp[whB, *],m1⟩
   |some ln=>
    cases q with
    |none=>
     go_upto_region 1 with fail;have Lkd:=aA kd;refine ZP [0,0,0,0,0,0,1,0,0,0,0,0,0,1,0,0,0,0,0,0,1,0,0,0,0,0,0,1,0,0,0,0,0,0,1,0,0,0,0,0,0,1,0,0,0,0,0,1,0,0,0,0,0,0,0,1,0,0,0,0,0,1,0,0,0] ?_
     iterate 65 first|refine Zo ?_|refine Zp ?_|refine Zv ?_|refine Zd ?_
     refine TD.nil (fun w1 hr=> ?_);replace kd:=hr.q kd;have m1:=hr.mod;clear hr;go_wp2_with fail;go_ret;exact⟨by rw[←HR.out];simp[whB, *],m1⟩
    |some q=>
     cases sn2 with
     |none=>
      go_upto_region 1 with fail;have Lkd:=aA kd;refine ZP [0,0,0,0,0,0,1,0,0,0,0,0,0,1,0,0,0,0,0,0,1,0,0,0,0,0,0,1,0,0,0,0,0,0,1,0,0,0,0,0,0,1,0,0,0,0,0,1,0,0,0,0,0,0,0,1,0,0,0,0,0,1,0,0,0] ?_
      iterate 65 first|refine Zo ?_|refine Zp ?_|refine Zv ?_|refine Zd ?_
      refine TD.nil (fun w1 hr=> ?_);replace kd:=hr.q kd;have m1:=hr.mod;clear hr;go_wp2_with fail;go_ret;exact⟨by rw[←HR.out];simp[whB, *],m1⟩
     |some sn2=>
      by_cases h1:fn=sn
      ·subst h1;by_cases h2:cn=fn
       ·subst h2;have hc:=fun wq (_:Mod (fun _=>False) w wq)=>tA sa cn sc room win bat fli l1 l2 l3 fw hold oa on oc wq;unfold sZ at hc;have HC:=Hi hc;clear hc;go_upto_region 1 with fail;have Lkd:=aA kd;refine ZP [0,0,0,0,0,0,1,0,0,0,0,0,0,1,0,0,0,0,0,0,1,0,0,0,0,0,0,1,0,0,0,0,0,0,1,0,0,0,0,0,0,1,0,0,0,0,0,1,0,0,0,0,0,0,0,1,0,0,0,0,0,1,0,0,0] ?_
        iterate 65 first|refine Zv ?_|refine Zd ?_
        refine TD.nil (fun w1 hr=> ?_);replace kd:=hr.q kd;have m1:=hr.mod;clear hr;have HC:=Hi (HC.out _ m1);go_wp2_with fail;go_at_call 38;refine HC.out.mono ?_;rintro e w2 ⟨rfl,m2⟩;obtain⟨r2,hr2⟩:∃r2:Int,(if cfB cn room win bat fli hold on then 0 else 1)=r2:=⟨_,rfl⟩;rw[hr2];have HR2:=Hi hr2;clear hr2;go_wp2_with fail;go_ret;exact⟨by rw[←HR.out,←HR2.out];simp[whB],m1.then0 m2⟩
       ·have h3:((cn:Int) !=(fn:Int))=true:=by simp;omega
        have h4:((fn:Int) !=(fn:Int))=false:=by simp
        go_upto_region 1 with fail;have Lkd:=aA kd;refine ZP [0,0,0,0,0,0,1,0,0,0,0,0,0,1,0,0,0,0,0,0,1,0,0,0,0,0,0,1,0,0,0,0,0,0,1,0,0,0,0,0,0,1,0,0,0,0,0,1,0,0,0,0,0,0,0,1,0,0,0,0,0,1,0,0,0] ?_
        iterate 65 first|refine Zv ?_|refine Zd ?_
        refine TD.nil (fun w1 hr=> ?_);replace kd:=hr.q kd;have m1:=hr.mod;clear hr;go_wp2_with fail;go_ret;exact⟨by rw[←HR.out];simp[whB, *],m1⟩
      ·have h3:((fn:Int) !=(sn:Int))=true:=by simp;omega
       go_upto_region 1 with fail;have Lkd:=aA kd;refine ZP [0,0,0,0,0,0,1,0,0,0,0,0,0,1,0,0,0,0,0,0,1,0,0,0,0,0,0,1,0,0,0,0,0,0,1,0,0,0,0,0,0,1,0,0,0,0,0,1,0,0,0,0,0,0,0,1,0,0,0,0,0,1,0,0,0] ?_
       iterate 65 first|refine Zo ?_|refine Zp ?_|refine Zv ?_|refine Zd ?_
       refine TD.nil (fun w1 hr=> ?_);replace kd:=hr.q kd;have m1:=hr.mod;clear hr;go_wp2_with fail;go_ret;exact⟨by rw[←HR.out];simp[whB, *],m1⟩
end
end Go.Proofs.YtblbegbjlaokjaaGreatDoor