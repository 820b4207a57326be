/- The lemmas of the proof, part YO5: how the program and its data lie in memory, and what its functions do. -/
import Derived.Test.YtblbegbjlaokjaaGreatDoorYU4
import Derived.Laws.CopyRow
import Derived.Laws.IdiomCopy
import Derived.LaidEqlPtr
import Derived.Laws.Externs
import Derived.Laws.Bits64b
set_option linter.unusedSimpArgs false
set_option linter.unusedVariables false
set_option linter.unusedSectionVars false

set_option maxRecDepth 20000
set_option maxHeartbeats 6400000
namespace Go.Proofs.YtblbegbjlaokjaaGreatDoor
open Go.RowKit
open Go.ChangeMaps (setBlock)
attribute [local go_sem↓] f9 gG gJ
attribute [local go_sem] Value.cells aJ aC eB dR cW aL aO aP aQ aI bH
section
attribute [local go_sem] kc_size
structure Rg where
 v:Wg
 m:Nat
def J3 (r:Rg):Wa:= #[r.v,.int .i64 0,.int .i64 (r.m:Int)]
def wH (T:Nat→Prop) (w:We) (r:Rg) (vs:List Wg):Prop:=vs.length=r.m∧((r.v= .slice none 0 0∧r.m=0)∨∃b k,r.v= .slice (some ⟨b,0,none⟩) (r.m+k) (r.m+k)∧T b∧r.m+k≤2001∧w.heap[b]? =some (.cells (vs++List.replicate k (Value.slice none 0 0)).toArray 53 (0,0)))
theorem O1 {lb o:Nat} {C:Wa} {U:Wh} (w:We) (kb:w.heap[lb]? =some (.cells C U (0,0))) {a:Wb} {L c i:Nat} (h0:C[o]? =some (.slice a L c)) (h1:C[o+1]? =some (.int .i64 0)) (hi:i<L) (hL:L≤1000000):
  Calls Tryz.prog 65 #[.pointer (some ⟨lb,o,none⟩),.int .i64 (i:Int)] w fun e w'=>e= .returned (.int .i64 (i:Int))∧Mod (fun _=>False) w w':=by
 have e1:IntKind.i64.wrap (i:Int)=(i:Int):=IntWalk.i64_in _ (by omega);have e2:(i:Int).tmod (L:Int)=(i:Int):=by
  rw[aWf (by omega)];exact Int.emod_eq_of_lt (by omega) (by omega)
 have e3:¬L=0:=by omega
 have s0:=(aZf.1 h0).1;have s1:=(aZf.1 h1).1;have g0:∀h:o<C.size,C[o]= .slice a L c:=fun h=>aU h0 h;have g1:∀h:o+1<C.size,C[o+1]= .int .i64 0:=fun h=>aU h1 h;go_enter Tryz.func65,Tryz.ntmps65;go_upto_region 1 with fail;have Lkb:=aA kb;refine ZP [0,0,0,1,0,0,0,0,0,1,0,0,0] ?_
 iterate 13 first|refine Zv ?_|refine Zd ?_
 refine TD.nil (fun w1 hr=> ?_);replace kb:=hr.q kb;have m1:=hr.mod;clear hr;go_wp2_with fail;go_ret;exact⟨by go_num,m1⟩
structure A0 (C:Wa) (o:Nat) (v:Wg) (m:Nat):Prop where
 c0:C[o]? =some v
 c1:C[o+1]? =some (.int .i64 0)
 c2:C[o+2]? =some (.int .i64 (m:Int))
theorem A0.set2 {C:Wa} {o m n:Nat} {v:Wg} (h:A0 C o v m):A0 (C.setIfInBounds (o+2) (.int .i64 (n:Int))) o v n:=by
 have h0:=(aZf.1 h.c2).1;refine⟨?_,?_,?_⟩
 ·rw[aZ2,if_neg (by omega)];exact h.c0
 ·rw[aZ2,if_neg (by omega)];exact h.c1
 ·rw[aZ2,if_pos rfl,if_pos h0]
theorem A0.set0 {C:Wa} {o m:Nat} {v u:Wg} (h:A0 C o v m):A0 (C.setIfInBounds o u) o u m:=by
 have h0:=(aZf.1 h.c0).1;refine⟨?_,?_,?_⟩
 ·rw[aZ2,if_pos rfl,if_pos h0]
 ·rw[aZ2,if_neg (by omega)];exact h.c1
 ·rw[aZ2,if_neg (by omega)];exact h.c2
theorem A0.same {C:Wa} {o m:Nat} {v:Wg} (h:A0 C o v m):C.setIfInBounds o v=C:=by
 have h0:=aZf.1 h.c0;apply aY8;intro i;rw[aZ2];split
 ·rename_i e;subst e;rw[if_pos h0.1,h.c0]
 ·rfl
theorem A0.same1 {C:Wa} {o m:Nat} {v:Wg} (h:A0 C o v m):C.setIfInBounds (o+1) (.int .i64 0)=C:=by
 have h0:=aZf.1 h.c1;apply aY8;intro i;rw[aZ2];split
 ·rename_i e;subst e;rw[if_pos h0.1,h.c1]
 ·rfl
theorem vL (vs:List Wg) (k:Nat) (x z:Wg):(vs++List.replicate (k+1) z).toArray.setIfInBounds vs.length x=(vs++[x]++List.replicate k z).toArray:=by
 rw[zF,aX8 _ _ (aZq _),aXn,List.replicate_succ,zG];simp
theorem Q9 (n:Nat) (hn:n≤100000) (w:We):(Instr.makeSlice 102 (.int .i64 (n:Int)) (.int .i64 (n:Int))).run Tryz.prog w= .ok (.slice (some ⟨w.heap.size,0,none⟩) n n) (w.alloc (.cells (List.replicate n (Value.slice none 0 0)).toArray 53)):=by
 obtain⟨i0,hi,cy,bj,bp⟩:=info_parts (show(Tryz.prog.info? 53).map (fun i=>(i.zero,i.size,i.bytes))=some (some (.slice none 0 0),1,24)by kernel_rfl);have:=run_make (P:=Tryz.prog) w 102 53 i0 _ Tryz.underlying102 hi cy .i64 .i64 (n:Int) (n:Int) (by omega) (by omega) (by rw[bp];omega) (by omega);have hc:madeCells #[Value.slice none 0 0] n=(List.replicate n (Value.slice none 0 0)).toArray:=by
  apply aZ1.1;rw[toList_madeCells_one]
 rw[bj,aYp]at this;simpa[Value.cells,hc] using this
theorem N1 (a:Wb) (n c:Nat) (w:We) (h:n≤c) (ha:a=none→n=0∧c=0):(Instr.sliceAt 102 (.slice a n c) (some (.int .i64 0)) none none).run Tryz.prog w= .ok (.slice a n c) w:=by
 cases a with
 |none=>
  obtain⟨rfl,rfl⟩:=ha rfl;go_simp
 |some x=>go_simp
theorem rK {w:We} {g:Nat} {old cs:Wa} {t:Wh} (hg:w.heap[g]? =some (.cells old t (0,0))):w.setRow g cs=setBlock w g (.cells cs t (0,0)):=by
 unfold World.setRow setBlock;congr 1;apply aY8;intro i;rw[aX9,aZ2];by_cases h:g=i
 ·subst h;rw[if_pos rfl,if_pos rfl,hg,if_pos (aA hg)];rfl
 ·rw[if_neg h,if_neg h]
theorem wY {P:Wl} {ops:Array Oper} {Q:Exit→Act→We→Prop} {i:Nat} {a:Act} {o:Oper} {K:Act→We→Prop} {w w':We} {t t2:Wh} {s x:Wm} {v u v':Wg} (ho:ops[i]? =some o) (hw:Region.wanted o (yielded ops a.tmps)=true)
  (aj:o.op= .call {callee:= .builtin .copy,args:= #[s,x],argTypes:= #[t,t2]}) (hs:a.eval s=v) (hx:a.eval x=u) (hr:(Builtin.copy_ #[t,t2] o.type #[v,u]).run P w= .ok v' w')
  (h:K (a.put o.dst v') w'):wpOp P ops Q i K a w:=
 eX ho hw (by subst hs;subst hx;simp[execOp,aj,resolve,invoke,builtin,hr]) h
theorem GT {w1:We} {p m:Nat} {va:Wb} {vc:Nat} {vs:List Wg} {ty:Wh} (hR:(va=none∧m=0)∨∃b,va=some ⟨b,0,none⟩∧w1.heap[b]? =some (.cells vs.toArray 53 (0,0))) (ag:vs.length=m) (h1:∀v∈vs,v.oneCell'=true)
  (kp:w1.heap[p]? =some (.cells (List.replicate (2*m+1) (Value.slice none 0 0)).toArray 53 (0,0))):∃w2,(Builtin.copy_ #[102,102] ty #[.slice (some ⟨p,0,none⟩) (2*m+1) (2*m+1),.slice va m vc]).run Tryz.prog w1= .ok (.int .i64 (m:Int)) w2∧
   w2.heap[p]? =some (.cells (vs++List.replicate (m+1) (Value.slice none 0 0)).toArray 53 (0,0))∧Mod (fun i=>i=p) w1 w2:=by
 have hel:(Tryz.prog.info? 53).map (·.size)=some 1:=by kernel_rfl
 rcases hR with⟨rfl,rfl⟩|⟨b,rfl,kb⟩
 ·obtain rfl:=aYn ag;exact⟨w1,run_copy_none (P:=Tryz.prog) w1 _ _ ty 53 _ _ _ _ _ _ Tryz.underlying102 hel (by simp),kp,Mod.refl _ _⟩
 ·have h:=run_copy_row (P:=Tryz.prog) w1 102 102 ty 53 p 0 (2*m+1) (2*m+1) ⟨b,0,none⟩ m vc _ _ vs Tryz.underlying102 hel kp (by rw[ag];exact(aX7 (by omega)).symm) (fun j v hv=>by
   have ib:(⟨b,0,none⟩:Addr).add j=⟨b,j,none⟩:=by
    unfold Addr.add;split<;>simp_all
   rw[ib,aJ,kb];simpa using hv) (by simp;omega) h1
  have hz:(List.take 0 ((List.replicate (2*m+1) (Value.slice none 0 0)).toArray).toList++vs++List.drop (0+vs.length) ((List.replicate (2*m+1) (Value.slice none 0 0)).toArray).toList).toArray=(vs++List.replicate (m+1) (Value.slice none 0 0)).toArray:=by
   simp only[List.take_zero,aYq,aXe,List.drop_replicate,ag];rw[show 2*m+1-m=m+1 by omega]
  rw[hz,ag]at h;generalize(List.replicate (2*m+1) (Value.slice none 0 0)).toArray=cur at *;generalize(vs++List.replicate (m+1) (Value.slice none 0 0)).toArray=cur2 at *;refine⟨_,h,?_,?_⟩
  ·rw[rK kp,aF _ _ (aA kp)]
  ·rw[rK kp];exact bM _ _ _
theorem BJ (w1:We) (ty:Wh) (d a:Wb) (n c k:Nat):(Builtin.copy_ #[102,102] ty #[.slice d n c,.slice a 0 k]).run Tryz.prog w1= .ok (.int .i64 0) w1:=
 run_copy_none (P:=Tryz.prog) w1 _ _ ty 53 _ _ _ _ _ _ Tryz.underlying102 (by kernel_rfl) (by simp)
theorem N2 (p n m:Nat) (w:We) (h:m<n):(Instr.sliceAt 102 (.slice (some ⟨p,0,none⟩) n n) (some (.int .i64 (m:Int))) none none).run Tryz.prog w= .ok (.slice (some ⟨p,m,none⟩) (n-m) (n-m)) w:=by
 have h0:(0:Int)≤(m:Int):=by omega
 have h1:(m:Int)≤(n:Int):=by omega
 go_simp;omega
theorem V9 (a:Wb) (n c:Nat) (ha:a=none→n=0∧c=0):∃k,∀w,(Instr.sliceAt 102 (.slice a n c) none (some (.int .i64 0)) none).run Tryz.prog w= .ok (.slice a 0 k) w:=by
 cases a with
 |none=>
  obtain⟨rfl,rfl⟩:=ha rfl;exact⟨0,fun w=>by go_simp⟩
 |some x=>exact⟨c,fun w=>by go_simp⟩
theorem NV {T:Nat→Prop} {lb o:Nat} {C:Wa} {r:Rg} {vs:List Wg} (w:We) (kb:w.heap[lb]? =some (.cells C 174 (0,0))) (hC:A0 C o r.v r.m) (hR:wH T w r vs) (hT:¬T lb) (hm:r.m≤1000) (h1v:∀v∈vs,v.oneCell'=true) (ax:Wb) (nx cx:Nat):
  Calls Tryz.prog 119 #[.pointer (some ⟨lb,o,none⟩),.slice ax nx cx] w fun e w'=>e= .returned (.tuple #[])∧∃r',r'.m=r.m+1∧w'.heap[lb]? =some (.cells ((C.setIfInBounds o r'.v).setIfInBounds (o+2) (.int .i64 (r'.m:Int))) 174 (0,0))∧
   wH (Grow T w w') w' r' (vs++[.slice ax nx cx])∧Mod (fun i=>i=lb∨T i) w w':=by
 obtain⟨v,m⟩:=r;obtain⟨ag,hR⟩:=hR;dsimp only at hC ag hR hm;have HC:=Hi (Ai hC (Ai ag hT));clear hC ag hT;obtain⟨s0,s1,s2⟩:o<C.size∧o+1<C.size∧o+2<C.size:=⟨(aZf.1 HC.out.1.c0).1,(aZf.1 HC.out.1.c1).1,(aZf.1 HC.out.1.c2).1⟩;have g2:∀h:o+2<C.size,C[o+2]= .int .i64 (m:Int):=fun h=>aU HC.out.1.c2 h;have c2:=HC.out.1.c2;by_cases hk:∃b k,v= .slice (some ⟨b,0,none⟩) (m+(k+1)) (m+(k+1))∧T b∧m+(k+1)≤2001∧w.heap[b]? =some (.cells (vs++List.replicate (k+1) (Value.slice none 0 0)).toArray 53 (0,0))
 ·obtain⟨b,k,rfl,yq,Ol,kl⟩:=hk;clear hR;obtain⟨L,hL⟩:∃L,m+(k+1)=L:=⟨_,rfl⟩;have HL:=Hi hL;rw[hL]at HC Ol;have c0:=HC.out.1.c0;have g0:∀h:o<C.size,C[o]= .slice (some ⟨b,0,none⟩) L L:=fun h=>aU c0 h;have aw:((m:Int)==(L:Int))=false:=by simp;omega
  have Em:(m==L)=false:=by simp;omega
  have KL:=Hi (Ai kl yq);clear kl yq hL;rw[HL.out];go_enter Tryz.func119,Tryz.ntmps119;go_upto_region 0 with fail;have Lkb:=aA kb;refine ZP [0,0,0,1,0,0,0,1,0,0] ?_
  iterate 10 first|refine Zv ?_|refine Zd ?_
  refine TD.nil (fun w1 hr=> ?_);replace kb:=hr.q kb;have m1:=hr.mod;clear hr s0 s1 s2 g2 c2 c0 g0 aw Em;obtain⟨Ct,Dg⟩:∃Ct,Ct=C:=⟨_,rfl⟩;have vm:Hid (A0 Ct o (.slice (some ⟨b,0,none⟩) L L) m):=Hi (by rw[Dg];exact HC.out.1);have Xg:=Hi Dg;have kb0:=kb;rw[←Dg]at kb;have kl:=m1.at0 KL.out.1;have jw:b≠lb:=fun e=>HC.out.2.2 (e▸KL.out.2);have HN:=Hi jw;have HM:Hid (Mod (fun i=>i=lb∨T i) w w1):=Hi (m1.mono (fun _ _ h=>h.elim));clear Dg kb0 jw m1;obtain⟨s0,s1,s2⟩:o<Ct.size∧o+1<Ct.size∧o+2<Ct.size:=⟨(aZf.1 vm.out.c0).1,(aZf.1 vm.out.c1).1,(aZf.1 vm.out.c2).1⟩;have g2:∀h:o+2<Ct.size,Ct[o+2]= .int .i64 (m:Int):=fun h=>aU vm.out.c2 h;have c2:=vm.out.c2;obtain⟨m1n,pg⟩:∃m1n,m+1=m1n:=⟨_,rfl⟩;have qg:=Hi pg;have ew:IntKind.i64.wrap ((m:Int)+1)=(m1n:Int):=(IntWalk.i64_in _ (by omega)).trans (by omega);clear pg;go_upto_region 5 with fail;have Lkb:=aA kb;refine ZP0 [0,0,0,1,0,0,0,5] ?_
  iterate 7 first|refine Zv ?_|refine Zd ?_
  refine Zi fun wE hr=> ?_;replace kb:=hr.mod.at0 kb;have mE:=hr.mod;refine ZS ?_;refine ZN kb fun w5 kb mS=> ?_;have m5:Mod (fun i=>i=lb) w1 w5:=(mE.mono (T:=fun i=>i=lb) (fun _ _ h=>h.elim)).trans mS;clear hr mE mS s0 s1 s2 g2 c2 ew;simp only[Act.put];have oh:=Hi (vm.out.set2 (n:=m1n));obtain⟨C5,Hz⟩:∃C5,C5=Ct.setIfInBounds (o+2) (.int .i64 (m1n:Int)):=⟨_,rfl⟩;rw[←Hz]at oh kb;have Hk:=Hi Hz;clear Hz;replace kl:=m5.at_ne kl HN.out;obtain⟨X,hX⟩:∃X,X=(vs++List.replicate (k+1) (Value.slice none 0 0)).toArray:=⟨_,rfl⟩;rw[←hX]at kl;have Yk:Hid (X.setIfInBounds m (.slice ax nx cx)=(vs++[Value.slice ax nx cx]++List.replicate k (Value.slice none 0 0)).toArray):=Hi (by rw[hX,←HC.out.2.1];exact vL vs k _ _);have hXs:X.size=L:=by rw[hX];simp;have:=HL.out;have:=HC.out.2.1;omega
  have wh:m<L:=by have:=HL.out;omega
  clear hX;obtain⟨s0,s1,s2⟩:o<C5.size∧o+1<C5.size∧o+2<C5.size:=⟨(aZf.1 oh.out.c0).1,(aZf.1 oh.out.c1).1,(aZf.1 oh.out.c2).1⟩;have g2:∀h:o+2<C5.size,C5[o+2]= .int .i64 (m1n:Int):=fun h=>aU oh.out.c2 h;have g0:∀h:o<C5.size,C5[o]= .slice (some ⟨b,0,none⟩) L L:=fun h=>aU oh.out.c0 h;have c2:=oh.out.c2;have c0:=oh.out.c0;have ew:IntKind.i64.wrap ((m1n:Int)-1)=(m:Int):=(IntWalk.i64_in _ (by have:=qg.out;omega)).trans (by have:=qg.out;omega);have jw:lb≠b:=fun e=>HN.out e.symm;go_upto_region 6 with fail;have Lkb:=aA kb;have Lkl:=aA kl;refine ZR (fun _ _ v=>v= .int .i64 (m:Int)) [0,0,0,1,0,0,0,0,1,0,2,0,0,5] ?_
  iterate 10 first|refine Zv ?_|refine Zd ?_
  (refine Zc ?_ (s:=by intro wq ae;have kbq:=ae.at kb (fun h=>h);exact(O1 wq kbq oh.out.c0 oh.out.c1 wh (by omega)).mono (fun e w' h=>⟨_,h.1,rfl,h.2⟩));rintro _ rfl;try simp only[zL])
  iterate 2 refine Zv ?_
  refine Zi fun wE hr=> ?_;replace kb:=hr.mod.at0 kb;replace kl:=hr.mod.at0 kl;have mE:=hr.mod;refine ZS ?_;refine ZN kl fun w6 kl mS=> ?_;replace kb:=mS.at_ne kb (by omega);have m6:Mod (fun i=>i=b) w5 w6:=(mE.mono (T:=fun i=>i=b) (fun _ _ h=>h.elim)).trans mS;clear hr mE mS s0 s1 s2 g2 g0 c2 c0 ew;simp only[Act.put];replace kb:=kb;have om:Hid (Mod (fun i=>i=lb∨T i) w w6):=Hi ((HM.out.trans (m5.mono (fun _ _ e=> .inl e))).trans (m6.mono (fun i _ e=>by rw[e];exact .inr KL.out.2)));go_wp2_with fail;go_end0;refine⟨rfl,⟨.slice (some ⟨b,0,none⟩) L L,m+1⟩,rfl,?_,⟨by simp[HC.out.2.1],.inr ⟨b,k,by rw[show m+1+k=L by have:=HL.out;omega],.inl KL.out.2,by have:=HL.out;show m+1+k≤2001;omega,?_⟩⟩,om.out⟩
  ·dsimp only;rw[HC.out.1.same,←Xg.out,qg.out,←Hk.out];exact kb
  ·rw[←Yk.out];exact kl
 ·obtain⟨va,vc,rfl,hvm,hva,hvr⟩:∃va vc,v= .slice va m vc∧m≤vc∧(va=none→m=0∧vc=0)∧((va=none∧m=0)∨∃b,va=some ⟨b,0,none⟩∧T b∧w.heap[b]? =some (.cells vs.toArray 53 (0,0))):=by
   rcases hR with⟨rfl,rfl⟩|⟨b,k,rfl,h1,h2,h3⟩
   ·exact⟨none,0,rfl,aZq _,fun _=>⟨rfl,rfl⟩,.inl ⟨rfl,rfl⟩⟩
   ·cases k with
    |zero=>exact⟨some ⟨b,0,none⟩,m,rfl,aZq _,(fun h=>by cases h),.inr ⟨b,rfl,h1,by simpa using h3⟩⟩
    |succ k=>exact absurd ⟨b,k,rfl,h1,h2,h3⟩ hk
  have c0:=HC.out.1.c0;have g0:∀h:o<C.size,C[o]= .slice va m vc:=fun h=>aU c0 h;have aw:((m:Int)==(m:Int))=true:=by simp
  have g1:∀h:o+1<C.size,C[o+1]= .int .i64 0:=fun h=>aU HC.out.1.c1 h;have c1:=HC.out.1.c1;have HV:=Hi (Ai hva hvr);have HB1:=Hi h1v;clear hva hvr hk hR h1v;go_enter Tryz.func119,Tryz.ntmps119;go_upto_region 0 with fail;have Lkb:=aA kb;refine ZP [0,0,0,1,0,0,0,1,0,0] ?_
  iterate 10 first|refine Zv ?_|refine Zd ?_
  refine TD.nil (fun w1 hr=> ?_);replace kb:=hr.q kb;have m1:=hr.mod;clear hr;have e1:IntKind.i64.wrap (2*(m:Int))=2*(m:Int):=IntWalk.i64_in _ (by omega);obtain⟨n2,dy⟩:∃n2,2*m+1=n2:=⟨_,rfl⟩;have e2:IntKind.i64.wrap (2*(m:Int)+1)=(n2:Int):=(IntWalk.i64_in _ (by omega)).trans (by omega);have na:=Q9 n2 (by omega);have Cy:=Hi dy;clear dy;go_upto_region 1 with fail;have Lkb:=aA kb;refine ZP0 [0,0,0,1,0,0,0,3,0] ?_
  iterate 7 first|refine Zv ?_|refine Zd ?_
  (refine TD.mks (by simp only[zK];rfl) rfl (by rfl) rfl rfl ?hx63 ?hz63 na (fun p23 hp23=> ?n63);(case hx63=>simp only[zM];try rfl);(case hz63=>simp only[zM];try rfl);try simp only[zL]);refine Zv ?_;refine TD.nil (fun w2 hr=> ?_);replace kb:=hr.q kb;obtain⟨gp23,kp23⟩:=hr.b p23;have m2:=hr.mod;have dd:=Hi (m1.trans m2);have HG:=Hi (Ai gp23 (Ai m1.size (aA kb)));clear hr m1 m2 na e1 e2 aw;have ce:p23≠lb:=by have:=HG.out;omega
  have fe:=fun w=>N1 va m vc w hvm HV.out.1;go_upto_region 2 with fail;have Lkb:=aA kb;have Lkp23:=aA kp23;refine ZP [0,0,0,0,1,0,0,0,1,0,5,0] ?_
  iterate 9 first|refine Zv ?_|refine Zd ?_
  refine Zx fe ?_;refine Zi fun w3 hr=> ?_;replace kb:=hr.q kb;replace kp23:=hr.q kp23;have pj:=Hi (dd.out.trans hr.mod);clear hr;obtain⟨wc,Vo,kp3,mcp⟩:=GT (w1:=w3) (p:=p23) (m:=m) (va:=va) (vc:=vc) (vs:=vs) (ty:=3) (HV.out.2.imp id (fun⟨b,e,_,h⟩=>⟨b,e,pj.out.at0 h⟩)) HC.out.2.1 HB1.out (by rw[Cy.out];exact kp23);rw[Cy.out]at Vo;(refine wY (by simp only[zK];rfl) (by rfl) rfl ?hx76 ?hz76 (Vo) ?n76;(case hx76=>simp only[zM];try rfl);(case hz76=>simp only[zM];try rfl);try simp only[zL]);refine Ze ?_;refine TE.nil ?_;have gx:Hid (Mod (fun i=>i=p23) w3 wc):=Hi mcp;replace kb:=mcp.at_ne kb (fun e=>ce e.symm);clear Vo kp23 mcp fe;obtain⟨k0,ij⟩:=V9 va m vc HV.out.1;have Ry:=fun w=>N2 p23 n2 m w (by have:=Cy.out;omega);have dt:=BJ wc 3 (some ⟨p23,m,none⟩) va (n2-m) (n2-m) k0;go_upto_region 3 with fail;have Lkb:=aA kb;have Lkp3:=aA kp3;refine ZP [0,0,0,0,0,0,1,0,0,0,1,0,5] ?_
  iterate 2 refine Zv ?_
  refine Zx Ry ?_
  iterate 8 first|refine Zv ?_|refine Zd ?_
  refine Zx ij ?_;refine Zi fun w5 hr=> ?_;replace kb:=hr.q kb;replace kp3:=hr.q kp3;have tm:=Hi hr.mod;clear hr ij Ry dt;have dt:=BJ w5 3 (some ⟨p23,m,none⟩) va (n2-m) (n2-m) k0;(refine wY (by simp only[zK];rfl) (by rfl) rfl ?hx91 ?hz91 (dt) ?n91;(case hx91=>simp only[zM];try rfl);(case hz91=>simp only[zM];try rfl);try simp only[zL]);refine TE.nil ?_;clear dt;have jw:lb≠p23:=fun e=>ce e.symm;go_upto_region 4 with fail;have Lkb:=aA kb;have Lkp3:=aA kp3;refine ZP0 [0,0,0,0,0,5,0,0,6] ?_
  iterate 5 refine Zv ?_
  refine Zi fun w6 hr=> ?_;replace kb:=hr.q kb;replace kp3:=hr.q kp3;have uj:=Hi hr.mod;clear hr;refine ZS ?_;refine ZM kb fun wn kb mS=> ?_;replace kp3:=mS.at_ne kp3 ce;have mp:=mS;clear mS;refine Ze ?_;refine Ze ?_;refine Zz ?_;refine ZS ?_;refine ZN kb fun wn kb mS=> ?_;replace kp3:=mS.at_ne kp3 ce;have mp2:=mp.trans mS;have vv:=(HC.out.1.set0 (u:= .slice (some ⟨p23,0,none⟩) n2 n2)).same1;rw[vv]at kb;obtain⟨w1,rfl⟩:∃w1:We,w1=wn:=⟨_,rfl⟩;have HM:Hid (Mod (fun i=>i=lb∨i=p23) w w1):=Hi (((((pj.out.mono (fun _ _ h=>h.elim)).trans (gx.out.mono (fun _ _ e=> .inr e))).then0 tm.out).then0 uj.out).trans (mp2.mono (fun _ _ e=> .inl e)));obtain⟨Ct,Dg⟩:∃Ct,Ct=C.setIfInBounds o (.slice (some ⟨p23,0,none⟩) n2 n2):=⟨_,rfl⟩;have vm:Hid (A0 Ct o (.slice (some ⟨p23,0,none⟩) n2 n2) m):=Hi (by rw[Dg];exact HC.out.1.set0);rw[←Dg]at kb;have Xg:=Hi Dg;clear Dg vv mp mp2 mS s0 s1 s2 g2 c2 c0 g0 g1 c1 jw;obtain⟨L,hL⟩:∃L,n2=L:=⟨_,rfl⟩;obtain⟨b,hb⟩:∃b,p23=b:=⟨_,rfl⟩;obtain⟨k,hk⟩:∃k,m=k:=⟨_,rfl⟩;have HL:Hid (m+(k+1)=L):=Hi (by have:=Cy.out;omega);have Ol:L≤2001:=by have:=Cy.out;omega
  have HN:Hid (b≠lb):=Hi (by rw[←hb];exact ce);have Yb:=Hi hb;have HLB:=Hi hL;have kl:w1.heap[b]? =some (.cells (vs++List.replicate (k+1) (Value.slice none 0 0)).toArray 53 (0,0)):=by
   rw[←hb,←hk];exact kp3
  rw[hb,hL]at vm;clear hb hL hk kp3 ce;simp only[Act.put];obtain⟨s0,s1,s2⟩:o<Ct.size∧o+1<Ct.size∧o+2<Ct.size:=⟨(aZf.1 vm.out.c0).1,(aZf.1 vm.out.c1).1,(aZf.1 vm.out.c2).1⟩;have g2:∀h:o+2<Ct.size,Ct[o+2]= .int .i64 (m:Int):=fun h=>aU vm.out.c2 h;have c2:=vm.out.c2;obtain⟨m1n,pg⟩:∃m1n,m+1=m1n:=⟨_,rfl⟩;have qg:=Hi pg;have ew:IntKind.i64.wrap ((m:Int)+1)=(m1n:Int):=(IntWalk.i64_in _ (by omega)).trans (by omega);clear pg;go_upto_region 5 with fail;have Lkb:=aA kb;refine ZP0 [0,0,0,1,0,0,0,5] ?_
  iterate 7 first|refine Zv ?_|refine Zd ?_
  refine Zi fun wE hr=> ?_;replace kb:=hr.mod.at0 kb;have mE:=hr.mod;refine ZS ?_;refine ZN kb fun w5 kb mS=> ?_;have m5:Mod (fun i=>i=lb) w1 w5:=(mE.mono (T:=fun i=>i=lb) (fun _ _ h=>h.elim)).trans mS;clear hr mE mS s0 s1 s2 g2 c2 ew;simp only[Act.put];have oh:=Hi (vm.out.set2 (n:=m1n));obtain⟨C5,Hz⟩:∃C5,C5=Ct.setIfInBounds (o+2) (.int .i64 (m1n:Int)):=⟨_,rfl⟩;rw[←Hz]at oh kb;have Hk:=Hi Hz;clear Hz;replace kl:=m5.at_ne kl HN.out;obtain⟨X,hX⟩:∃X,X=(vs++List.replicate (k+1) (Value.slice none 0 0)).toArray:=⟨_,rfl⟩;rw[←hX]at kl;have Yk:Hid (X.setIfInBounds m (.slice ax nx cx)=(vs++[Value.slice ax nx cx]++List.replicate k (Value.slice none 0 0)).toArray):=Hi (by rw[hX,←HC.out.2.1];exact vL vs k _ _);have hXs:X.size=L:=by rw[hX];simp;have:=HL.out;have:=HC.out.2.1;omega
  have wh:m<L:=by have:=HL.out;omega
  clear hX;obtain⟨s0,s1,s2⟩:o<C5.size∧o+1<C5.size∧o+2<C5.size:=⟨(aZf.1 oh.out.c0).1,(aZf.1 oh.out.c1).1,(aZf.1 oh.out.c2).1⟩;have g2:∀h:o+2<C5.size,C5[o+2]= .int .i64 (m1n:Int):=fun h=>aU oh.out.c2 h;have g0:∀h:o<C5.size,C5[o]= .slice (some ⟨b,0,none⟩) L L:=fun h=>aU oh.out.c0 h;have c2:=oh.out.c2;have c0:=oh.out.c0;have ew:IntKind.i64.wrap ((m1n:Int)-1)=(m:Int):=(IntWalk.i64_in _ (by have:=qg.out;omega)).trans (by have:=qg.out;omega);have jw:lb≠b:=fun e=>HN.out e.symm;go_upto_region 6 with fail;have Lkb:=aA kb;have Lkl:=aA kl;refine ZR (fun _ _ v=>v= .int .i64 (m:Int)) [0,0,0,1,0,0,0,0,1,0,2,0,0,5] ?_
  iterate 10 first|refine Zv ?_|refine Zd ?_
  (refine Zc ?_ (s:=by intro wq ae;have kbq:=ae.at kb (fun h=>h);exact(O1 wq kbq oh.out.c0 oh.out.c1 wh (by omega)).mono (fun e w' h=>⟨_,h.1,rfl,h.2⟩));rintro _ rfl;try simp only[zL])
  iterate 2 refine Zv ?_
  refine Zi fun wE hr=> ?_;replace kb:=hr.mod.at0 kb;replace kl:=hr.mod.at0 kl;have mE:=hr.mod;refine ZS ?_;refine ZN kl fun w6 kl mS=> ?_;replace kb:=mS.at_ne kb (by omega);have m6:Mod (fun i=>i=b) w5 w6:=(mE.mono (T:=fun i=>i=b) (fun _ _ h=>h.elim)).trans mS;clear hr mE mS s0 s1 s2 g2 g0 c2 c0 ew;simp only[Act.put];replace kb:=kb;have om:Hid (Mod (fun i=>i=lb∨T i) w w6):=Hi (((HM.out.trans (m5.mono (fun _ _ e=> .inl e))).trans (m6.mono (fun i _ e=> .inr (by rw[e,←Yb.out])))).mono (fun i hi e=>e.imp id (fun e=>by have:=HG.out;omega)));go_wp2_with fail;go_end0;refine⟨rfl,⟨.slice (some ⟨b,0,none⟩) L L,m+1⟩,rfl,?_,⟨by simp[HC.out.2.1],.inr ⟨b,k,by rw[show m+1+k=L by have:=HL.out;omega],.inr ⟨by rw[←Yb.out];have:=HG.out;omega,aA kl⟩,by have:=HL.out;show m+1+k≤2001;omega,?_⟩⟩,om.out⟩
  ·dsimp only;rw[←Yb.out,←HLB.out,←Xg.out,qg.out,←Hk.out];exact kb
  ·rw[←Yk.out];exact kl
end
theorem VB:∃j,Tryz.prog.info? 244=some j∧j.size≠0:=by
 obtain⟨j,h1,h2⟩:∃j,(Tryz.prog.info? 244)=some j∧j.size=6:=by
  cases h:Tryz.prog.info? 244 with
  |none=>
   have:(Tryz.prog.info? 244).map (·.size)=some 6:=by kernel_rfl
   rw[h]at this;cases this
  |some j=>
   have:(Tryz.prog.info? 244).map (·.size)=some 6:=by kernel_rfl
   rw[h]at this;exact⟨j,rfl,by simpa using this⟩
 exact⟨j,h1,by omega⟩
def lW (w:We) (y:Nat):Prop:=∃cs,w.heap[y]? =some (.cells cs 244 (0,0))
theorem G7 {w:We} {a b:Nat} (ha:lW w a) (hb:lW w b):(binOp .eql 238 (ptrV a) (ptrV b)).run Tryz.prog w= .ok (.bool (decide (a=b))) w:=by
 obtain⟨j,hj,hs⟩:=VB;obtain⟨ca,ha⟩:=ha;obtain⟨cb,hb⟩:=hb;by_cases h:a=b
 ·subst h;rw[Dt rfl];exact run_eql_ptr_same w _ Tryz.underlying238 hj
 ·rw[Df h];exact run_eql_ptr_other w Tryz.underlying238 hj hs (fun e=>h (by cases e;rfl)) ha hb
abbrev VU (B:Nat):Value:= .func (.func 110) #[] #[.pointer (some ⟨B,0,none⟩)]
theorem pop1_c (y b B:Nat) (w:We) (hy:lW w y) (hb:lW w b) (h:w.heap[B]? =some (.cells #[ptrV b] 238 (0,0))):Calls Tryz.prog 110 #[ptrV y,.pointer (some ⟨B,0,none⟩)] w fun e w'=>e= .returned (.bool (decide (y=b)))∧w'=w:=by
 have he:=G7 hy hb;clear hy hb;go_enter Tryz.func110,Tryz.ntmps110;go_wp2_with fail;go_ret;exact⟨rfl,rfl⟩
theorem IX {w:We} {v:Wg} {L:Wd} (hO:aE pc 1 238 w 0 v L) (ag:L.length≤1000000) (b B:Nat) (kB:w.heap[B]? =some (.cells #[ptrV b] 238 (0,0))) (hb:lW w b) (hn:∀y∈L,lW w y):
  Calls Tryz.prog 145 #[v,VU B] w fun e w'=>w'=w∧((e= .returned (.int .i64 (-1))∧b∉L)∨∃i:Nat,L[i]? =some b∧b∉L.take i∧e= .returned (.int .i64 (i:Int))):=by
 have ed:∀(i y:Nat),L[i]? =some y→∃g cap cur,v= .slice (some ⟨g,0,none⟩) L.length cap∧w.heap[g]? =some (.cells cur 238 (0,0))∧cur[i]? =some (ptrV y):=fun i y hy=>by
  have hL:L≠[]:=fun e=>by rw[e]at hy;cases hy
  obtain⟨g,cap,cur,e,_,kg,_,_,hc,_⟩:=iN hO hL;exact⟨g,cap,cur,e,kg,hc i y hy⟩
 obtain⟨a,c,rfl,_⟩:=hO.at fN;have HC:=Hi ed;have Ld:=Hi (Ai hb hn);clear ed hO hb hn;go_enter Tryz.func145,Tryz.ntmps145;go_wp2_with fail;go_loopw [8] (fun s8 ws=>∃i:Nat,i≤L.length∧s8= .int .i64 i∧Hid (b∉L.take i)∧ws=w) (fun s8 _=>L.length-(intOf s8).toNat)
 case atStart=>exact⟨0,aYf _,rfl,Hi (by simp),rfl⟩
 case round=>
  obtain⟨i,hi,rfl,HN,rfl⟩:=hrel;by_cases hlt:i<L.length
  ·obtain⟨y,hy⟩:∃y,L[i]? =some y:=⟨_,aZb hlt⟩;obtain⟨g,cap,cur,e,kg,Lz⟩:=HC.out i y hy;cases e;have HY:=Hi hy;clear hy;go_wp2_with fail;go_at_call 110;refine(pop1_c y b B _ (Ld.out.2 y (aZi HY.out)) Ld.out.1 kB).mono ?_;rintro e w2 ⟨rfl,rfl⟩;by_cases tj:y=b
   ·have hd:=Dt tj;have HB:=Hi tj;clear tj;go_wp2_with fail;go_ret;exact⟨rfl,.inr ⟨i,by rw[HY.out,HB.out],HN.out,rfl⟩⟩
   ·have hd:=Df tj;have HB:=Hi tj;clear tj;go_wp2_with fail;go_roundw
    case rel=>
     refine⟨i+1,by omega,by go_num,Hi ?_,by first|rfl|trivial⟩;rw[aYa,HY.out];intro h;rcases aZh.1 h with h|h
     ·exact HN.out h
     ·simp at h;exact HB.out h.symm
    case measure=>simp[intOf];omega
  ·obtain rfl:i=L.length:=by omega
   go_wp2_with fail;go_ret;refine⟨rfl,.inl ⟨rfl,?_⟩⟩;have:=HN.out;rwa[aY5]at this
theorem WO (w:We):(zeroValue 238).run Tryz.prog w= .ok (.pointer none) w:=by kernel_rfl
theorem DQ {w:We} {g o n cap:Nat} {cur:Wa} (hg:w.heap[g]? =some (.cells cur 238 (0,0))) (hn:0<n) (dh:o+n≤cur.size) (ty:Wh):∃cur' w',(Builtin.clear_ #[236] ty #[.slice (some ⟨g,o,none⟩) n cap]).run Tryz.prog w= .ok (.tuple #[]) w'∧w'.heap[g]? =some (.cells cur' 238 (0,0))∧cur'.size=cur.size∧(∀i,i<o→cur'[i]? =cur[i]?)∧Mod (fun i=>i=g) w w':=by
 have hz:(Builtin.zeroCells (Value.pointer none).cells n).toList=List.replicate n (.pointer none):=by
  unfold Builtin.zeroCells;apply List.ext_getElem
  ·simp[Value.cells]
  ·intro i h1 h2;simp[Value.cells,Nat.mod_one]
 have iu:=run_storeCells_at Tryz.prog g o 238 (List.replicate n (.pointer none)) 0 cur w hg (by simpa using dh) (fun v hv=>by
  rw[aXy hv];rfl)
 refine⟨(cur.toList.take o++List.replicate n (Value.pointer none)++cur.toList.drop (o+n)).toArray,w.setRow g (cur.toList.take o++List.replicate n (Value.pointer none)++cur.toList.drop (o+n)).toArray,?_,setRow_heap w g cur _ _ _ hg,?_,fun i hi=> ?_,?_⟩
 ·obtain⟨m,rfl⟩:∃m,n=m+1:=⟨n-1,by omega⟩;unfold Builtin.clear_;simp[run_underlying Tryz.underlying236,WO,Result.andThen,hz,iu]
 ·simp only[aYs,aZg,aZ4,List.length_drop,aZ9,aYd];omega
 ·simp only[zA,aZw];rw[aZt (by simp;omega),aY7,if_pos (by omega)];simp
 ·refine⟨rfl,rfl,rfl,?_,fun i hi aw=> ?_⟩
  ·simp[World.setRow]
  ·simp only[World.setRow];rw[aX9,if_neg (fun e=>aw e.symm)]
theorem RQ {w:We} {g cap:Nat} {cur:Wa} {L:Wd} (hg:w.heap[g]? =some (.cells cur 238 (0,0))) (hc:L.length≤cap) (hm:cap≤maxLen) (hs:cap=cur.size) (h:∀(i b:Nat),L[i]? =some b→cur[i]? =some (ptrV b)):aE pc 1 238 w 0 (.slice (some ⟨g,0,none⟩) L.length cap) L:=by
 refine⟨?_,.inr ⟨g,cap,cur,rfl,aYf _,hg,hc,hm,by omega,?_⟩⟩
 ·rw[bU];simp
 ·rw[bU,aYp];apply aXm;intro i;rw[aY7,aZv];by_cases hi:i<L.length
  ·rw[if_pos hi,aZb hi];have:=h i _ (aZb hi);simpa using this
  ·rw[if_neg hi,aY1 (by omega)];rfl
theorem DV {w:We} {v:Wg} {L:Wd} (hO:aE pc 1 238 w 0 v L) (ag:L.length≤1000000) (b B:Nat) (kB:w.heap[B]? =some (.cells #[ptrV b] 238 (0,0))) (hB:v.ownBlock≠some B) (hb:lW w b) (hn:∀y∈L,lW w y):
  Calls Tryz.prog 109 #[v,VU B] w fun e w'=>∃v',e= .returned v'∧aE pc 1 238 w' 0 v' (L.filter fun y=>decide (y≠b))∧Mod (fun i=>v.ownBlock=some i) w w'∧v'.ownBlock=v.ownBlock:=by
 have ry:=IX hO ag b B kB hb hn;by_cases zt:b∈L
 ·have hL:L≠[]:=fun e=>by rw[e]at zt;cases zt
  obtain⟨g,cap,cur,rfl,_,kg,qm,fz,bx,au⟩:=iN hO hL;have hgB:g≠B:=fun e=>hB (by rw[e];rfl);have Ld:=Hi (Ai hb (Ai hn zt));have HCu:=Hi bx;have HO:=Hi hO;have hmx:cap≤maxLen:=by
   rcases hO.2 with⟨h,_⟩|⟨g',cap',cur',h,_,_,_,h2,_⟩
   ·cases h
   ·cases h;exact h2
  have HMX:=Hi hmx;have HI:=Hi ry;have Xj:=Hi fz;have HBK:=Hi au;clear fz ry hb hn bx au hO hL hB hmx zt;go_enter Tryz.func109,Tryz.ntmps109;go_wp2_with fail;go_at_call 145;refine HI.out.mono ?_;rintro e w2 ⟨rfl,⟨rfl,h⟩|⟨i0,h1,h2,rfl⟩⟩
  ·exact absurd Ld.out.2.2 h
  have ir:=(aZa.1 h1).1;have HX:=Hi (Ai h1 h2);clear h1 h2;have hdm:((i0:Int)== -1)=false:=by
   rw[beq_eq_false_iff_ne];omega
  go_wp2_with fail;go_loopw [5,6] (fun s5 s6 ws=>∃(j i:Nat) (cur':Wa),s5= .int .i64 i∧s6= .int .i64 j∧i<j∧j≤L.length∧Hid (((L.take j).filter fun y=>decide (y≠b)).length=i)∧ws.heap[g]? =some (.cells cur' 238 (0,0))∧Hid (cur'.size=cur.size)∧
   Hid (∀(m y:Nat),((L.take j).filter fun y=>decide (y≠b))[m]? =some y→cur'[m]? =some (ptrV y))∧Hid (∀(m y:Nat),j≤m→L[m]? =some y→cur'[m]? =some (ptrV y))∧Mod (fun i=>i=g) w2 ws) (fun _ s6 _=>L.length-(intOf s6).toNat)
  case atStart=>
   have hf:(L.take (i0+1)).filter (fun y=>decide (y≠b))=L.take i0:=by
    rw[aYa,HX.out.1,aZ6];have wm:(L.take i0).filter (fun y=>decide (y≠b))=L.take i0:=aX1.2 (fun y hy=>Dt (fun e:y=b=>HX.out.2 (e▸hy)));rw[wm];simp
   refine⟨i0+1,i0,cur,rfl,by go_num,by omega,by omega,Hi (by rw[hf,aZ4];omega),kg,Hi rfl,Hi (fun m y h=> ?_),Hi (fun m y _ h=>HCu.out m y h),Mod.refl _ _⟩;rw[hf,aY7]at h;split at h
   ·exact HCu.out m y h
   ·cases h
  case round=>
   obtain⟨j,i,cur',rfl,rfl,ig,hj,HF,kg',HS,HA,HR,hm⟩:=hrel;have kB':=hm.at_ne kB (Ne.symm hgB);by_cases hlt:j<L.length
   ·obtain⟨y,hy⟩:∃y,L[j]? =some y:=⟨_,aZb hlt⟩;have Lz:=HR.out j y (aZq _) hy;have HY:=Hi hy;have fu:i<cur'.size:=by
     have:=HS.out;have:=Xj.out;omega
    have Ly:∃u,cur'[i]? =some u:=⟨_,aYe fu⟩;obtain⟨u,hu⟩:=Ly;clear hy;have Ft:∀z,lW w2 z→lW wr z:=fun z ⟨cs,h⟩=>⟨cs,hm.at_ne h (aB h kg (aM (by decide)))⟩;have HIS:=Hi (Ai (Ft y (Ld.out.2.1 y (aZi HY.out))) (Ft b Ld.out.1));clear Ft;go_wp2_with fail;go_at_call 110;refine(pop1_c y b B _ HIS.out.1 HIS.out.2 kB').mono ?_;rintro e w3 ⟨rfl,rfl⟩;by_cases tj:y=b
    ·have hd:=Dt tj;have HB:=Hi tj;clear tj;go_wp2_with fail;have hf:(L.take (j+1)).filter (fun y=>decide (y≠b))=(L.take j).filter (fun y=>decide (y≠b)):=by
      rw[aYa,HY.out,aZ6,HB.out];simp
     have Mu:=Hi hf;clear hf;go_roundw
     case rel=>exact⟨j+1,i,cur',rfl,by go_num,by omega,by omega,Hi (by rw[Mu.out];exact HF.out),kg',HS,Hi (by rw[Mu.out];exact HA.out),Hi (fun m z h1 h2=>HR.out m z (by omega) h2),hm⟩
     case measure=>simp[intOf];omega
    ·have hd:=Df tj;have HB:=Hi tj;clear tj;go_wp2_with fail;have hf:(L.take (j+1)).filter (fun y=>decide (y≠b))=(L.take j).filter (fun y=>decide (y≠b))++[y]:=by
      rw[aYa,HY.out,aZ6];simp[HB.out]
     have Mu:=Hi hf;have kg2:(w3.setCell ⟨g,i,none⟩ (ptrV y)).heap[g]? =some (.cells (cur'.setIfInBounds i (ptrV y)) 238 (0,0)):=by
      rw[setCell_blk kg',aF _ _ (aA kg')]
     have de:Mod (fun i=>i=g) w2 (w3.setCell ⟨g,i,none⟩ (ptrV y)):=hm.setCell _ (fun _=>rfl);have HK:=Hi (Ai kg2 de);clear hf kg2 de;go_roundw
     case rel=>
      refine⟨j+1,i+1,cur'.setIfInBounds i (ptrV y),by go_num,by go_num,by omega,by omega,Hi (by rw[Mu.out,aZg,HF.out];rfl),HK.out.1,Hi (by rw[aWj];exact HS.out),Hi (fun m z h=> ?_),Hi (fun m z h1 h2=> ?_),HK.out.2⟩
      ·rw[Mu.out]at h;rw[aZ2];by_cases hmi:i=m
       ·rw[if_pos hmi,if_pos fu];rw[aZ3 (by rw[HF.out];omega),HF.out,←hmi,aXn]at h;simp at h;rw[h]
       ·rw[if_neg hmi];have Az:m<i:=by
         have:=(aZa.1 h).1;rw[aZg,HF.out]at this;simp at this;omega
        rw[aZt (by rw[HF.out];exact Az)]at h;exact HA.out m z h
      ·rw[aZ2,if_neg (by omega)];exact HR.out m z (by omega) h2
     case measure=>simp[intOf];omega
   ·obtain rfl:j=L.length:=by omega
    have hF:=HF.out;have hA:=HA.out;rw[aY5]at hF hA;have Hn:=Hi (Ai hF hA);have hs:L.length≤cur'.size:=by have:=HS.out;have:=Xj.out;omega
    have hd:=N3 fN (g:=g) (o:=0) (cap:=cap) (len:=L.length) (k:=i) (by omega) qm;have ht:=CP fN (g:=g) (o:=0) (cap:=cap) (len:=L.length) (k:=i) (by omega);rw[if_neg (by omega)]at hd;simp only[aXe,aYp]at hd;obtain⟨cur2,w4,dg,kg4,Ry,hc4,m4⟩:=DQ (o:=i) (n:=L.length-i) (cap:=cap-i) kg' (by omega) (by omega) 0;have Xf:=Hi (Ai Ry (Ai hc4 m4));clear hF hA Ry hc4 m4;go_wp2_with fail;go_ret;have Ax:=hm.then Xf.out.2.2 (fun i _ e=>e);refine⟨_,rfl,?_,Ax.mono (fun i _ e=>by rw[e];rfl),rfl⟩;rw[←Hn.out.1];refine RQ kg4 (by have:=Hn.out.1;omega) HMX.out (by rw[Xf.out.1,HS.out,←Xj.out]) (fun m z h=> ?_);have Az:m<i:=by
     have h1:=(aZa.1 h).1;have h2:=Hn.out.1;omega
    rw[Xf.out.2.1 m Az];exact Hn.out.2 m z h
 ·have wm:L.filter (fun y=>decide (y≠b))=L:=aX1.2 (fun y hy=>Dt (fun e:y=b=>zt (e▸hy)));obtain⟨a,c,rfl,_⟩:=hO.at fN;have HI:=Hi ry;have HO:=Hi (Ai hO wm);have HB:=Hi zt;clear ry hO wm zt hn hb hB;go_enter Tryz.func109,Tryz.ntmps109;go_wp2_with fail;go_at_call 145;refine HI.out.mono ?_;rintro e w2 ⟨rfl,⟨rfl,h⟩|⟨i0,h1,h2,rfl⟩⟩
  ·go_wp2_with fail;go_ret;exact⟨_,rfl,by rw[HO.out.2];exact HO.out.1,Mod.refl _ _,rfl⟩
  ·exact absurd (aZi h1) HB.out
section
attribute [local go_sem↓] kG uW vS
attribute [local go_sem] jH kO vJ vI CI vK lM
section
variable {P:Wl} {ops:Array Oper} {Q:Exit→Act→We→Prop} {S:We→Prop} {C:Wn→Wa→Wg→Prop} {w0:We} {κ:Nat→Nat}
theorem TD.eqP {i:Nat} {r:Wd} {a:Act} {B:Bx} {o:Oper} {T T2:Wh} {x y:Wm} {pa pb:Wb} {v:Wg} (hS:S w0) (ho:ops[i]? =some o) (hk:κ i=1) (hw:Region.wanted o (yielded ops a.tmps)=true)
  (aj:o.op= .binOp .eql T x y T2) (hx:a.eval x= .pointer pa) (hy:a.eval y= .pointer pb) (hr:∀w,S w→(binOp .eql T (.pointer pa) (.pointer pb)).run P w= .ok v w) (h:TD P ops Q S C w0 κ r (a.put o.dst v) B):TD P ops Q S C w0 κ (i::r) a B:=
 TD.val1 hS ho hk hw (fun w hs=>by simp[execOp,aj,hx,hy,eqGuard,hr w hs,Result.andThen]) h
end
theorem MF {w:We} {o:Option Nat} {b:Nat} (ho:∀c,o=some c→lW w c) (hb:lW w b):(binOp .eql 238 (AE o) (ptrV b)).run Tryz.prog w= .ok (.bool (decide (o=some b))) w:=by
 cases o with
 |none=>go_simp;try rfl
 |some c=>
  rw[show decide ((some c:Option Nat)=some b)=decide (c=b)from by simp];exact G7 (ho c rfl) hb
theorem FY (w:We):(Instr.alloc 238 true (.tuple #[])).run Tryz.prog w= .ok (.pointer (some ⟨w.heap.size,0,none⟩)) (w.alloc (.cells #[.pointer none] 238)):=aY (z:= .pointer none) (fun w=>by kernel_rfl) w
theorem y0 {l:Wd} {i y:Nat} (h:l[i]? =some y):(l.take i).count y<l.count y:=by
 have hi:=(aZa.1 h).1
 conv=>rhs;rw[←aY9 i l]
 rw[List.count_append,aXr hi]
 have:l[i]=y:=(aZa.1 h).2;rw[this,List.count_cons_self];omega
theorem RU {g q:Nat} {CX CY:List Cn} {x:Cn} {T:Nat→Prop} {w:We} (hA:AY g q (CX++x::CY) T w) (hT:∀i,T i→i<w.heap.size) (id:Wi) (dx:x.id=id):Calls Tryz.prog 71 #[ptrV g,.int .i64 id.toInt] w fun e w'=>
  (e= .returned (.int .i64 23)∧(∃y∈CX,pT y x)∧Mod (fun _=>False) w w')∨(e= .returned (.int .i64 0)∧(∀y∈CX,¬pT y x)∧AY g q (CX++CY) T w'∧Mod T w w'):=by
 obtain⟨tag,nb,sb,L,N,S,nd,sp,H,I,hC,hO⟩:=hA;obtain⟨X,Y0,rfl,rfl,hY⟩:=List.map_eq_append_iff.1 hC.symm;obtain⟨p,Y,rfl,rfl,rfl⟩:=List.map_eq_cons_iff.1 hY;clear hC hY;obtain⟨es,c0,kb,M⟩:=H.kn;have kh:=H.c;have Ml:p∈X++p::Y:=by simp
 have tf:lkp id N=some p.a:=dJ M.nodup (I.N.mem_iff.2 (aZj.2 ⟨p,Ml,by rw[←dx];rfl⟩));have cd:∀wq,Mod (fun _=>False) w wq→(Instr.lookup 179 (.map (some nb)) (.int .i64 id.toInt) false).run Tryz.prog wq= .ok (ptrV p.a) wq:=fun wq hq=>by
  have h1:=M.lookup IT Tryz.underlying179 (z:= .pointer none) (fun w=>by kernel_rfl) wq (hq.at0 kb) id false;rw[tf]at h1;exact h1
 have HL:=Hi cd;have ua:=H.nodes p.a (aZj.2 ⟨p,Ml,rfl⟩);have kp:=ua.c;have Tn:=I.wts X p Y rfl;have hkn:=I.kn p Ml;by_cases h0:d7 X p.ks=[]
 ·rw[h0]at Tn;have Kr:(nd p.a).wt=0:=Tn;have HW:=Hi Kr;have HH:=Hi H;have HI:=Hi I;have HM:=Hi M;have H0:=Hi h0;have HO:=Hi (Ai hO hT);have HN:=Hi ua;have HD:=Hi dx;have ho:=ua.o;obtain⟨ad,c1,e1,-,-,-⟩:=ho.at fN;have ed:∀(i y:Nat),(nd p.a).nx[i]? =some y→∃g cap cur,(nd p.a).nv= .slice (some ⟨g,0,none⟩) (nd p.a).nx.length cap∧w.heap[g]? =some (.cells cur 238 (0,0))∧cur[i]? =some (ptrV y)∧(nd p.a).nv.ownBlock=some g:=fun i y hy=>by
   have hL:(nd p.a).nx≠[]:=fun e=>by rw[e]at hy;cases hy
   obtain⟨g,cap,cur,e,_,kg,_,_,hc,_⟩:=iN ho hL;exact⟨g,cap,cur,e,kg,hc i y hy,by rw[e];rfl⟩
  have HC:=Hi ed;have Gl:=I.nxl p Ml;have hpub:=I.pub;generalize oz:(nd p.a).nx.length=ln at *;have Qd:ln≤1000000000:=by omega
  have Lb:=Hi oz;have HE:=Hi e1;replace kp:w.heap[p.a]? =some (.cells #[.int .i64 (nd p.a).id.toInt,.int .i64 (nd p.a).ch.toInt,.int .i64 ((nd p.a).pt:Int),.int .i64 0,.slice ad ln c1,.map (some (nd p.a).kb)] 244 (0,0)):=by
   unfold LJ at kp;rw[e1,Kr]at kp;exact kp
  clear H I hO hT M cd tf dx ua Tn Kr ho e1 ed Gl hpub oz hkn Ml h0;go_enter Tryz.func71,Tryz.ntmps71;go_wp2_with fail;go_at_call 103;refine(there_cG kh).mono ?_;rintro e w2 ⟨rfl,rfl⟩;have As:=HL.out;go_upto_region 3 with fail;have Lkh:=aA kh;have Lkp:=aA kp;refine ZP0 [0,0,0,1,0,1,3,4] ?_
  iterate 5 first|refine Zv ?_|refine Zd ?_
  refine ZK As ?_;refine Za FY fun p5 ip=> ?_;refine Zt ?_;refine TD.nil (fun w3 hr=> ?_);replace kh:=hr.q kh;replace kp:=hr.q kp;obtain⟨gp5,kp5⟩:=hr.b p5;have m3:=hr.mod;have ip:w2.heap.size≤p5:=gp5;clear hr As;have pj:=Hi m3;have qc:dX tag w3 g nb sb q ((X++p::Y).map An.a) N S nd sp:=HH.out.mod m3 (fun _ _ h=>h);have HG3:=Hi qc;have yz:tag p5=none:=by
   cases e:tag p5 with
   |none=>rfl
   |some z=>
    have:=HO.out.2 p5 (HO.out.1 p5 (by rw[e];simp));omega
  have H5:=Hi yz;clear qc m3 yz;go_wp2_with fail;go_loopw [34] (fun s34 ws=>∃(i:Nat) (nd1:Nat→Nr),i≤ln∧s34= .int .i64 i∧Hid (dX tag ws g nb sb q ((X++p::Y).map An.a) N S nd1 sp)∧Hid (∀c∈X++p::Y,nd1 c.a= {nd c.a with wt:=(nd c.a).wt-((nd p.a).nx.take i).count c.a})∧Hid (Mod (fun j=>∃c,tag j=some (c,0)) w3 ws)) (fun s34 _=>ln-(intOf s34).toNat)
  case atStart=>exact⟨0,nd,aYf _,rfl,HG3,Hi (fun c _=>by simp),Hi (Mod.refl _ _)⟩
  case round=>
   obtain⟨i,nd1,hi,rfl,HG,Ng,jr⟩:=hrel;by_cases hlt:i<ln
   ·obtain⟨y,hy⟩:∃y,(nd p.a).nx[i]? =some y:=⟨_,aZb (by rw[Lb.out];exact hlt)⟩;obtain⟨gg,cap,cur,e,kgg,Lz,Jo⟩:=HC.out i y hy;rw[HE.out]at e;cases e;have Tw:tag gg=some (p.a,2):=HN.out.tn gg Jo;have kg3:=jr.out.at (pj.out.at0 kgg) (fun⟨c,e⟩=>by
     rw[Tw]at e;cases e)
    obtain⟨xx,Kv,rfl⟩:=HI.out.nxm p (by simp) y (aZi hy);have nf:=HG.out.nodes xx.a (aZj.2 ⟨xx,Kv,rfl⟩);obtain⟨X',Y',ni⟩:=aXf Kv;have iq:((nd p.a).nx.take i).count xx.a<(nd xx.a).wt:=by
     have h1:=y0 hy;rw[HI.out.nxs X' xx Y' ni p (by simp)]at h1;have h2:=HI.out.wts X' xx Y' ni;have h3:=aWg (a:=p) (l:=d7 X' xx.ks);omega
    have Ij:(nd xx.a).wt≤1000000000:=by
     have h2:=HI.out.wts X' xx Y' ni;have h3:=mV X' xx.ks;have h4:=HI.out.kl xx Kv;have h5:=HI.out.Llen;have h6:=HI.out.pub;have h7:X'.length≤(X++p::Y).length:=by rw[ni];simp
     have h8:xx.ks.length*(X'.length+1)≤1000*901:=Nat.mul_le_mul h4 (by omega);omega
    have xm:=MP nf (by rw[Ng.out xx Kv];dsimp only;omega) (by rw[Ng.out xx Kv];dsimp only;omega);have Fj:=Hi xm;have HY:=Hi (Ai hy Kv);clear hy Kv xm iq Ij ni nf Jo Tw kgg;go_wp2_with fail;go_at_call 108;refine Fj.out.mono ?_;rintro e w4 ⟨rfl,k4,m4⟩;have nf:=HG.out.nodes xx.a (aZj.2 ⟨xx,HY.out.2,rfl⟩);have Cd:dX tag w4 g nb sb q ((X++p::Y).map An.a) N S (fR nd1 xx.a {nd1 xx.a with wt:=(nd1 xx.a).wt-1}) sp:=by
     refine HG.out.node m4 (fun j b r e h=> ?_) (fun _ _=>rfl) ?_
     ·rw[h,nf.ta]at e;cases e;exact⟨rfl,by omega⟩
     ·obtain⟨es',cl',hk,M'⟩:=nf.k;refine⟨k4,nf.o.mod m4 (fun g hg e=> ?_),⟨es',cl',m4.at hk (fun e=> ?_),M'⟩,nf.ta,nf.tk,nf.tn⟩
      ·have h1:=nf.tn g hg;rw[e,nf.ta]at h1;cases h1
      ·have h1:=nf.tk;rw[e,nf.ta]at h1;cases h1
    have Qs:∀c∈X++p::Y,fR nd1 xx.a {nd1 xx.a with wt:=(nd1 xx.a).wt-1} c.a= {nd c.a with wt:=(nd c.a).wt-((nd p.a).nx.take (i+1)).count c.a}:=fun c hc=>by
     rw[aYa,HY.out.1,Option.toList_some,List.count_append,List.count_singleton];by_cases e:c.a=xx.a
     ·rw[e,upd_same,Ng.out xx HY.out.2];simp[Nat.sub_sub]
     ·rw[dK _ _ e,Ng.out c hc]
      have:¬xx.a=c.a:=fun h=>e h.symm;simp[this]
    have HG4:=Hi Cd;have HN4:=Hi Qs;have gx:Hid (Mod (fun j=>∃c,tag j=some (c,0)) w3 w4):=Hi (jr.out.then m4 (fun j _ e=>⟨xx.a,by rw[e];exact nf.ta⟩));clear Cd Qs nf m4 k4;go_wp2_with fail;go_roundw
    case rel=>exact⟨i+1,_,by omega,by go_num,HG4,HN4,gx⟩
    case measure=>simp[intOf];omega
   ·obtain rfl:i=ln:=by omega
    have El:∀c∈X++p::Y,nd1 c.a= {nd c.a with wt:=(nd c.a).wt-(nd p.a).nx.count c.a}:=fun c hc=>by
     rw[Ng.out c hc,←Lb.out,aY5]
    have Xy:=Hi El;have k5:wr.heap[p5]? =some (.cells #[ptrV p.a] 238 (0,0)):=jr.out.at kp5 (fun⟨c,e⟩=>by
     rw[H5.out]at e;cases e)
    have ua:=HG.out.nodes p.a (aZj.2 ⟨p,by simp,rfl⟩);have kpa:=ua.c;unfold LJ at kpa;rw[El p (by simp)]at kpa;dsimp only at kpa;obtain⟨es1,cl1,kmb,Nv⟩:=ua.k;rw[El p (by simp)]at kmb Nv;dsimp only at kmb Nv;rw[(HI.out.nds p (by simp)).2.2.2]at Nv;have Un:=Hi Nv;have Mn:=run_range_map (P:=Tryz.prog) wr 161 107 3 (nd p.a).kb es1 cl1 Tryz.underlying161 kmb;have Fa:tag (nd p.a).kb=some (p.a,1):=HN.out.tk;have Yi:=Hi Fa;clear ua El Nv Fa;generalize(nd p.a).kb=kb2 at *;go_wp2_with fail;obtain⟨w6,e6,r,Wu,kr,m6⟩:∃w6,wr.alloc (.mapIter (some kb2) cl1 #[] cl1)=w6∧∃r,wr.heap.size=r∧w6.heap[r]? =some (.mapIter (some kb2) cl1 #[] cl1)∧Mod (fun _=>False) wr w6:=⟨_,rfl,_,rfl,heap_alloc_new _ _,(Mod.refl _ _).alloc _⟩;rw[e6,Wu];have L5:=aA k5;have htr:tag r=none:=by
     cases e:tag r with
     |none=>rfl
     |some z=>
      have h1:=HO.out.2 r (HO.out.1 r (by rw[e];simp));have h2:=jr.out.size;have h3:=pj.out.size;omega
    have Ut:=Hi htr;have Yg:Hid (w2.heap.size≤r):=Hi (by
     have h2:=jr.out.size;have h3:=pj.out.size;omega)
    have HG6:Hid (dX tag w6 g nb sb q ((X++p::Y).map An.a) N S nd1 sp):=Hi (HG.out.mod m6 (fun _ _ h=>h));have uj:Hid (Mod T w2 w6):=Hi ((((pj.out.mono (fun _ _ h=>h.elim)).then jr.out (fun j hj ⟨c,e⟩=>HO.out.1 j (by rw[e];simp))).then0 m6));have k56:=m6.at0 k5;have kmb6:=m6.at0 kmb;have n5r:p5≠r:=by omega
    have dm:=dG.start Un.out kr;clear Mn htr k5 kmb kpa kr m6 L5 e6 Wu jr HG;go_loopw [49] (fun s49 ws=>∃(D rem:List (aN×Bool)) (sp1:Nat→Sr),Hid (dX tag ws g nb sb q ((X++p::Y).map An.a) N S nd1 sp1)∧Hid (∀k s,lkp k S=some s→((∃h,(k,h)∈D)→IF p.a (sp s) (sp1 s))∧((∀h,(k,h)∉D)→sp1 s=sp s))∧Hid ((D++rem).Perm p.ks)∧dG ws r kb2 kv bv es1 cl1 rem∧ws.heap[kb2]? =some (.map es1 cl1)∧ws.heap[p5]? =some (.cells #[ptrV p.a] 238 (0,0))∧Hid (Mod T w2 ws)) (fun _ ws=>leftN ws r kb2)
    case atStart=>exact⟨[],p.ks,sp,HG6,Hi (fun k s _=>⟨fun⟨h,hh⟩=>(by cases hh),fun _=>rfl⟩),Hi (by simp),dm,kmb6,k56,uj⟩
    case round=>
     clear dm kmb6 k56;obtain⟨D,rem,sp1,Mx,Hw,xc,dm,kmb,k5,HMr⟩:=hrel;have rz:=dm.leftN kmb;have Fl:=Hi rz;clear rz;have kg:=Mx.out.c;rcases dm.next (P:=Tryz.prog) Un.out kmb 0 with⟨rfl,bi⟩|⟨z,rem',w7,it,af,bi,kr3,m3,kb3,fh⟩
     ·obtain⟨es3,cl3,knb,Nw⟩:=Mx.out.kn;have Xw:=Hi Nw;have ng:g≠nb:=aB kg knb (by simp);clear Nw dm kmb Fl k5;go_upto_region 21 with fail;have Lkg:=aA kg;have Lknb:=aA knb;refine ZP0 [0,0,0,1,0,5] ?_
      iterate 5 first|refine Zv ?_|refine Zd ?_
      refine Zi fun wE hr=> ?_;replace kg:=hr.mod.at0 kg;replace knb:=hr.mod.at0 knb;have mE:=hr.mod;obtain⟨es22,Jz,Mknb⟩:=Xw.out.delete IT Tryz.underlying179 wE knb id;refine ZD (Jz) ?_;refine ZN knb fun w9 knb mS=> ?_;(try simp only[Array.setIfInBounds,zL]at knb);replace kg:=mS.at_ne kg (by omega);have m9:Mod (fun i=>i=nb) wr w9:=(mE.mono (fun _ _ h=>h.elim)).then mS (fun _ _ h=>h);have Nc:=Hi Mknb;clear mE mS hr Mknb;go_wp2_with fail;go_ret;have Dq:T nb:=HO.out.1 nb (by rw[Mx.out.tnb];simp);have hP:OJ p S sp sp1:=fun k s hs=>by
       have h1:=Hw.out k s hs;have hp:=xc.out;rw[aYx]at hp;exact⟨fun⟨h,hh⟩=>h1.1 ⟨h,hp.mem_iff.2 hh⟩,fun hh=>h1.2 (fun h h2=>hh h (hp.mem_iff.1 h2))⟩
      have dx:p.id=id:=HD.out;have hI:=HI.out.pop HM.out.nodup H0.out (fun c hc=>Xy.out c (u4 hc)) hP;rw[dx]at hI;refine .inr ⟨rfl,?_,⟨tag,nb,sb,X++Y,del id N,S,nd1,sp1,?_,hI,by rw[List.map_append],HO.out.1⟩,HMr.out.then m9 (fun j hj e=>by rw[e];exact Dq)⟩
      ·intro y hy
       first
       |exact(fQ (HI.out.kn p (by simp))).1 H0.out y hy
       |(obtain⟨z,hz,rfl⟩:=aZj.1 hy;exact(fQ (HI.out.kn p (by simp))).1 H0.out z hz)
      ·refine(Mx.out.ids m9 ⟨_,_,knb,Nc.out⟩).fewer (fun a ha=> ?_);obtain⟨c,hc,rfl⟩:=aZj.1 ha;exact aZj.2 ⟨c,u4 hc,rfl⟩
     ·obtain⟨k,h⟩:=z;obtain⟨hv,jv⟩:∃hv:Int,bv h= .int .i64 hv:=⟨_,rfl⟩;dsimp only at bi fh;rw[jv]at bi;simp only[jv]at fh;have oe:=xR xc.out af;have ag:rem'.length<rem.length:=by rw[af.length_eq];simp
      have Qv:tag r=none:=Ut.out;have vq:dX tag w7 g nb sb q ((X++p::Y).map An.a) N S nd1 sp1:=Mx.out.mod m3 (fun j hj e=>hj (by rw[e];exact Qv));have hM7:Mod T w2 w7:=HMr.out.then m3 (fun j hj e=>by
       have h1:=Yg.out;omega)
      have kg7:=vq.c;have k57:=m3.at_ne k5 n5r;obtain⟨es2,cl2,ksb,Ln⟩:=vq.ks;have io:(k,h)∈p.ks:=oe.mem_iff.1 (by simp);have tf:∃s,lkp k S=some s:=by
       cases e:lkp k S with
       |some s=>exact⟨s,rfl⟩
       |none=>
        exfalso;have h1:=(HI.out.sps k).2 e;have h2:=BW (HI.out.kn p (by simp)) io;dsimp only at h2;cases h with
        |true=>
         have h3:=gU (k:=k) (show p∈X++p::Y by simp) h2;rw[h1]at h3;exact h3 rfl
        |false=>
         have h3:=spotOf_has_reader (k:=k) (show p∈X++p::Y by simp) h2;rw[h1]at h3;rcases h3 with h3|h3
         ·exact h3 rfl
         ·cases h3
      obtain⟨s,Wo⟩:=tf;have cd:∀wq,Mod (fun _=>False) w7 wq→(Instr.lookup 180 (.map (some sb)) (.agg (kc k)) false).run Tryz.prog wq= .ok (ptrV s) wq:=fun wq hq=>by
       have h1:=Ln.lookup keyT Tryz.underlying180 (z:= .pointer none) (fun w=>by kernel_rfl) wq (hq.at0 ksb) k false;rw[Wo]at h1;exact h1
      have ml:=Hi cd;have Ms:=Hi fh;have HP:=Hi (Ai oe ag);have Mv:=Hi vq;have Cw:=Hi hM7;have La:=Hi Wo;have xe:∀wq,Mod (fun _=>False) w7 wq→(Instr.entry (.pointer (some ⟨r,0,none⟩))).run Tryz.prog wq= .ok (.tuple #[.agg (kc k),.int .i64 hv]) wq:=fun wq hm=>(fh wq (hm.at0 kr3) (hm.at0 kb3)).1;have Hl:=Hi xe;have Ha:(Instr.next (.pointer (some ⟨r,0,none⟩)) false 0).run Tryz.prog wr= .ok (.tuple #[.bool true,.agg (kc k),.int .i64 hv]) w7:=bi;clear cd fh vq oe ag Ln xe bi dm kmb k5 kg m3 af jv io Wo Qv hM7;go_upto_region 16 with fail;have jm:=Hl.out;have Lkg7:=aA kg7;have Lk57:=aA k57;have Lkr3:=aA kr3;have Lkb3:=aA kb3;have Lksb:=aA ksb;refine ZP0 [1,0,3,4] ?_;refine ZE jm ?_;refine Zv ?_;refine Za FX fun p9 qv=> ?_;refine Zt ?_;refine TD.nil (fun w8 hr=> ?_);replace kg7:=hr.q kg7;replace k57:=hr.q k57;replace kr3:=hr.q kr3;replace kb3:=hr.q kb3;replace ksb:=hr.q ksb;obtain⟨gp9,kp9⟩:=hr.b p9;have m8:=hr.mod;clear hr jm;go_upto_region 17 with fail;have cd:∀wq,Mod (fun _=>False) w8 wq→(Instr.lookup 180 (.map (some sb)) (.agg (kc k)) false).run Tryz.prog wq= .ok (ptrV s) wq:=fun wq hq=>ml.out wq (m8.then0 hq);have Lkg7:=aA kg7;have Lk57:=aA k57;have Lkr3:=aA kr3;have Lkb3:=aA kb3;have Lkp9:=aA kp9;refine ZP [0,0,0,1,1,1,0] ?_
      iterate 5 first|refine Zv ?_|refine Zd ?_
      refine ZK cd ?_;refine Zv ?_;refine TD.nil (fun w9 hr=> ?_);replace kg7:=hr.q kg7;replace k57:=hr.q k57;replace kr3:=hr.q kr3;replace kb3:=hr.q kb3;replace kp9:=hr.q kp9;have m9:=m8.then0 hr.mod;have Xu:=Hi m9;have Ia:dX tag w9 g nb sb q ((X++p::Y).map An.a) N S nd1 sp1:=Mv.out.mod m9 (fun _ _ h=>h);clear hr cd m8 m9;have HG9:=Hi Ia;have Ez:=Ia.spots (k,s) (cP La.out);have ksp:=Ez.c;unfold W2 at ksp;have So:=Ez.o;obtain⟨ad2,c2,e2,-,-,-⟩:=So.at fN;have Jl:∀b,(k,b)∉D:=xS HP.out.1 (HI.out.kn p (by simp));have Ey:wJ (sp1 s) (spotOf k (X++p::Y)):=by
       rw[(Hw.out k s La.out).2 Jl];exact((HI.out.sps k).1 s La.out)
      have Ft:∀wq,Mod (fun _=>False) w9 wq→∀c∈X++p::Y,lW wq c.a:=fun wq hq c hc=>⟨_,hq.at0 (Ia.nodes c.a (aZj.2 ⟨c,hc,rfl⟩)).c⟩;have Pd:∀wq,Mod (fun _=>False) w9 wq→(binOp .eql 238 (AE (sp1 s).wr) (ptrV p.a)).run Tryz.prog wq= .ok (.bool (decide ((sp1 s).wr=some p.a))) wq:=fun wq hq=>MF (fun c hc=>by
       rw[Ey.1]at hc;cases e:(spotOf k (X++p::Y)).1 with
       |none=>rw[e]at hc;cases hc
       |some x=>
        rw[e]at hc;cases hc;exact Ft wq hq x (spotOf_writer e).1) (Ft wq hq p (by simp))
      have HSS:=Hi (Ai Ey Jl);have HZ:=Hi Ez;have HIs:=Hi Ft;have Fc:(sp1 s).rs.length≤1000:=by
       have h1:=congrArg List.length Ey.2;rw[aZs]at h1;have h2:=mT k (X++p::Y);have h3:=HI.out.Llen;have h4:=HI.out.pub;omega
      have qz:=Hi Fc;have Hl:=Hi e2;rw[e2]at ksp;clear Ez So Jl Ey Ft Fc e2 Ia;generalize hwq:(sp1 s).wr=wo at *;have HWO:=Hi hwq;clear hwq;go_upto_region 18 with fail;have Lksp:=aA ksp;have Lk57:=aA k57;have Lkr3:=aA kr3;have Lkb3:=aA kb3;refine ZP [0,0,0,1,1,1] ?_
      iterate 5 first|refine Zv ?_|refine Zd ?_
      (refine TD.eqP (v:= ?v39) (pa:= ?p39) (pb:= ?q39) (Mod.refl _ _) (by simp only[zK];rfl) rfl (by rfl) rfl ?hx39 ?hz39 (fun wq ae=> ?y39) ?n39;(case hx39=>simp only[zM];try rfl);(case hz39=>simp only[zM];try rfl);(case y39=>(rw[Pd wq ae];(try with_reducible rfl)));try simp only[zL]);refine TD.nil (fun w10 hr=> ?_);replace ksp:=hr.q ksp;replace k57:=hr.q k57;replace kr3:=hr.q kr3;replace kb3:=hr.q kb3;have Hr:=Hi hr.mod;clear hr Pd
      go_upto_if 63 with fail
      go_cut []from 61 to 66 (fun wx=>∃wo':Option Nat,Hid (wo'=if wo=some p.a then none else wo)∧wx.heap[s]? =some (.cells #[AE wo',.slice ad2 (sp1 s).rs.length c2] 248 (0,0))∧wx.heap[r]? =some it∧wx.heap[kb2]? =some (.map es1 cl1)∧wx.heap[p5]? =some (.cells #[ptrV p.a] 238 (0,0))∧Hid (Mod (fun i=>i=s) w9 wx))
      case first=>
       by_cases Fd:wo=some p.a
       ·have hd:=Dt Fd;have Yn:=Hi Fd;have Qi:Mod (fun i=>i=s) w9 (w10.setCell ⟨s,0,none⟩ (.pointer none)):=(Hr.out.mono (fun _ _ h=>h.elim)).setCell _ (fun _=>rfl);have k11:(w10.setCell ⟨s,0,none⟩ (.pointer none)).heap[s]? =some (.cells #[AE none,.slice ad2 (sp1 s).rs.length c2] 248 (0,0)):=by
         rw[setCell_blk ksp,aF _ _ (aA ksp)];rfl
        have ms:Mod (fun i=>i=s) w10 (w10.setCell ⟨s,0,none⟩ (.pointer none)):=(Mod.refl _ _).setCell _ (fun _=>rfl);have Co:r≠s:=fun e=>by
         have h1:=HZ.out.ta;rw[←e,Ut.out]at h1;cases h1
        have Ao:kb2≠s:=fun e=>by
         have h1:=HZ.out.ta;rw[←e,Yi.out]at h1;cases h1
        have Nq:p5≠s:=fun e=>by
         have h1:=HZ.out.ta;rw[←e,H5.out]at h1;cases h1
        have ay:=Hi (Ai k11 (Ai (ms.at_ne kr3 Co) (Ai (ms.at_ne kb3 Ao) (Ai (ms.at_ne k57 Nq) Qi))));clear Fd k11 ms Qi Co Ao Nq;go_wp2_with fail;go_meet;exact⟨none,Hi (by rw[if_pos Yn.out]),ay.out.1,ay.out.2.1,ay.out.2.2.1,ay.out.2.2.2.1,Hi ay.out.2.2.2.2⟩
       ·have hd:=Df Fd;have Yn:=Hi Fd;clear Fd;go_wp2_with fail;go_meet;exact⟨wo,Hi (by rw[if_neg Yn.out]),ksp,kr3,kb3,k57,Hi (Hr.out.mono (fun _ _ h=>h.elim))⟩
      case rest=>
       clear ksp kr3 kb3 k57 Hr;obtain⟨wo',Ym,ksp,kr3,kb3,k57,Xv⟩:=hcut;have hO:aE pc 1 238 w9 0 (.slice ad2 (sp1 s).rs.length c2) (sp1 s).rs:=by
        have h:=HZ.out.o;rw[Hl.out]at h;exact h
       have St:=HZ.out.tr;rw[Hl.out]at St;have nTs:¬(Value.slice ad2 (sp1 s).rs.length c2).ownBlock=some s:=fun e=>by
        have h1:=St _ e;rw[HZ.out.ta]at h1;cases h1
       have hOx:=hO.mod Xv.out (fun b hb e=>nTs (e▸hb));have nT5:(Value.slice ad2 (sp1 s).rs.length c2).ownBlock≠some p5:=fun e=>by
        have h1:=St _ e;rw[H5.out]at h1;cases h1
       have Yx:∀c∈X++p::Y,lW wc c.a:=fun c hc=>by
        obtain⟨cs,hk⟩:=HIs.out w9 (Mod.refl _ _) c hc;exact⟨cs,Xv.out.at_ne hk (fun e=>by
         have h1:=HZ.out.c;rw[←e,hk]at h1;cases h1)⟩
       have Pc:=DV hOx (by have:=qz.out;omega) p.a p5 k57 nT5 (Yx p (by simp)) (fun y hy=>by
        rw[HSS.out.1.2]at hy;obtain⟨c,hc,rfl⟩:=aZj.1 hy;exact Yx c (dN hc).1)
       have Xl:=Hi Pc;have Lg:=Hi (Ai St (Ai nTs nT5));clear Pc hO St nTs nT5 hOx Yx;go_wp2_with fail;go_at_call 109;refine Xl.out.mono ?_;rintro e w12 ⟨v',rfl,hO',m12,Jo⟩;obtain⟨ad3,c3,rfl,-,-,-⟩:=hO'.at fN;generalize hl3:((sp1 s).rs.filter fun y=>decide (y≠p.a)).length=l3 at *;have Wy:∀g,(Value.slice ad3 l3 c3).ownBlock=some g→tag g=some (s,4):=fun g hg=>Lg.out.1 g (by rw[←Jo];exact hg);have sf:∀j o,tag j=o→o≠some (s,4)→¬(Value.slice ad2 (sp1 s).rs.length c2).ownBlock=some j:=fun j o e aw h=>aw (by rw[←e];exact Lg.out.1 _ h);have kr12:=m12.at kr3 (sf _ _ Ut.out (by simp));have kb12:=m12.at kb3 (sf _ _ Yi.out (by simp));have k512:=m12.at k57 (sf _ _ H5.out (by simp));have ks12:=m12.at ksp (sf _ _ HZ.out.ta (by simp));have Xz:=Hi (Ai hO' (Ai Wy hl3));have Xs:=Hi m12;have HNO:=Hi sf;clear hO' Wy m12 Jo sf hl3 kr3 kb3 k57 ksp;go_wp2_with fail;have ms:Mod (fun i=>i=s) w12 (w12.setCell ⟨s,1,none⟩ (.slice ad3 l3 c3)):=(Mod.refl _ _).setCell _ (fun _=>rfl);have ksf:(w12.setCell ⟨s,1,none⟩ (.slice ad3 l3 c3)).heap[s]? =some (.cells #[AE wo',.slice ad3 l3 c3] 248 (0,0)):=by
        rw[setCell_blk ks12,aF _ _ (aA ks12)];rfl
       generalize w12.setCell ⟨s,1,none⟩ (.slice ad3 l3 c3)=wf at *;have Co:r≠s:=fun e=>by
        have h1:=HZ.out.ta;rw[←e,Ut.out]at h1;cases h1
       have Ao:kb2≠s:=fun e=>by
        have h1:=HZ.out.ta;rw[←e,Yi.out]at h1;cases h1
       have Nq:p5≠s:=fun e=>by
        have h1:=HZ.out.ta;rw[←e,H5.out]at h1;cases h1
       have krf:=ms.at_ne kr12 Co;have kbf:=ms.at_ne kb12 Ao;have k5f:=ms.at_ne k512 Nq;have hmf:Mod (fun i=>i=s∨(Value.slice ad2 (sp1 s).rs.length c2).ownBlock=some i) w9 wf:=((Xv.out.mono (fun _ _ e=> .inl e)).then (Xs.out.mono (fun _ _ e=> .inr e)) (fun _ _ e=>e)).then (ms.mono (fun _ _ e=> .inl e)) (fun _ _ e=>e);have hTs:T s:=HO.out.1 s (by rw[HZ.out.ta];simp);have hof:=Xz.out.1.mod ms (fun g hg e=>by
        have h1:=Xz.out.2.1 g hg;rw[e,HZ.out.ta]at h1;cases h1)
       have Vg:dX tag wf g nb sb q ((X++p::Y).map An.a) N S nd1 (fR sp1 s ⟨wo',.slice ad3 l3 c3,(sp1 s).rs.filter fun y=>decide (y≠p.a)⟩):=by
        refine HG9.out.spot hmf (fun i c r' e h=> ?_) (fun _ _=>rfl) ⟨ksf,hof,HZ.out.ta,Xz.out.2.1⟩;rcases h with h|h
        ·rw[h,HZ.out.ta]at e;cases e;exact⟨rfl,by omega,by omega⟩
        ·rw[Lg.out.1 i h]at e;cases e;exact⟨rfl,by omega,by omega⟩
       have hMf:Mod T w2 wf:=(Cw.out.then0 Xu.out).then hmf (fun i hi h=>by
        rcases h with h|h
        ·rw[h];exact hTs
        ·exact HO.out.1 i (by rw[Lg.out.1 i h];simp))
       have Oc:∀k' s',lkp k' S=some s'→((∃h',(k',h')∈D++[(k,h)])→IF p.a (sp s') (fR sp1 s ⟨wo',.slice ad3 l3 c3,(sp1 s).rs.filter fun y=>decide (y≠p.a)⟩ s'))∧((∀h',(k',h')∉D++[(k,h)])→fR sp1 s ⟨wo',.slice ad3 l3 c3,(sp1 s).rs.filter fun y=>decide (y≠p.a)⟩ s'=sp s'):=fun k' s' fd=>by
        have wj:sp1 s=sp s:=(Hw.out k s La.out).2 HSS.out.2;by_cases e:k'=k
        ·subst e;obtain rfl:s'=s:=by
          have:=La.out;rw[fd]at this;exact aZz this
         rw[upd_same];refine⟨fun _=>⟨?_,?_⟩,fun hn=>absurd (by simp) (hn h)⟩
         ·show wo'=_;rw[Ym.out,←HWO.out,wj]
         ·show List.filter _ (sp1 s').rs=_;rw[wj]
        ·have aw:s'≠s:=fun e2=>e (uY HI.out.sn fd (e2▸La.out));rw[dK _ _ aw];have h1:=Hw.out k' s' fd;refine⟨fun⟨h',hh⟩=>h1.1 ⟨h',?_⟩,fun hn=>h1.2 (fun h' hh=>hn h' (aZl _ hh))⟩;rcases aZh.1 hh with hh|hh
         ·exact hh
         ·simp at hh;exact absurd hh.1 e
       have om:=Hi (Ai Vg (Ai Oc hMf));have Mz:=Hi (Ms.out wf krf kbf).2;clear Vg Oc hMf hof hmf hTs krf ms ksf Co Ao Nq kr12 kb12 k512 ks12;have de:=(Mz.out).leftN kbf;have qc:=Fl.out;have Ax:=HP.out.2;have Xx:Hid (leftN wf r kb2<leftN wr r kb2):=Hi (by rw[de,qc];exact Ax);clear de qc Ax;go_roundw
       case rel=>exact⟨D++[(k,h)],rem',_,Hi om.out.1,Hi om.out.2.1,Hi HP.out.1,Mz.out,kbf,k5f,Hi om.out.2.2⟩
       case measure=>exact Xx.out
 ·have Fd:0<(nd p.a).wt:=by
   rw[Tn];exact List.length_pos_iff.2 h0
  have hd:decide ((0:Int)<((nd p.a).wt:Int))=true:=Dt (by omega);have cm:decide (0<(nd p.a).wt)=true:=Dt Fd;have HB:=Hi (show∃y∈X.map An.cn,pT y p.cn from by
   refine Classical.byContradiction fun hn=>h0 ((fQ hkn).2 fun y hy hh=>hn ⟨y.cn,aZj.2 ⟨y,hy,rfl⟩,hh⟩))
  clear H I hO M cd tf dx ua Tn hkn Ml h0 Fd;go_enter Tryz.func71,Tryz.ntmps71;go_wp2_with fail;go_at_call 103;refine(there_cG kh).mono ?_;rintro e w2 ⟨rfl,rfl⟩;have As:=HL.out;go_upto_region 3 with fail;have Lkh:=aA kh;have Lkp:=aA kp;refine ZP0 [0,0,0,1,0,1,3,4] ?_
  iterate 5 first|refine Zv ?_|refine Zd ?_
  refine ZK As ?_;refine Za FY fun p5 ip=> ?_;refine Zt ?_;refine TD.nil (fun w3 hr=> ?_);replace kh:=hr.q kh;replace kp:=hr.q kp;obtain⟨gp5,kp5⟩:=hr.b p5;have m3:=hr.mod;clear hr As;go_wp2_with fail;go_ret;exact .inl ⟨rfl,HB.out,m3⟩
end
section
attribute [local go_sem] lM
def dQ (a b:List aT):Bool:=a.any fun r=>b.any fun s=>decide (r.k=s.k)&&(r.w||s.w)
theorem GR {a b:List aT}:dQ a b=true↔∃r∈a,∃s∈b,r.k=s.k∧(r.w=true∨s.w=true):=by
 simp[dQ]
theorem zX (l:List aT):((howL l).map Prod.fst).Nodup:=by
 induction l using bB with
 |h0=>simp[howL]
 |h1 l r ih=>rw[iH];exact fT ih _ _
theorem iI {l:List aT} {k:aN} {b:Bool}:lkp k (howL l)=some b↔(∃r∈l,r.k=k)∧(b=true↔∃r∈l,r.k=k∧r.w=true):=by
 induction l using bB generalizing b with
 |h0=>simp[howL,lkp]
 |h1 l r ih=>
  rw[iH];unfold D8;rw[gQ];by_cases hk:k=r.k
  ·subst hk;rw[if_pos rfl];have hc:(lkp r.k (howL l)).getD false=true↔∃x∈l,x.k=r.k∧x.w=true:=by
    cases e:lkp r.k (howL l)with
    |none=>
     simp only[Option.getD_none,aZr,false_iff];rintro⟨x,hx,h1,h2⟩;have:=(ih (b:=true)).2 ⟨⟨x,hx,h1⟩,by simp;exact⟨x,hx,h1,h2⟩⟩;rw[e]at this;cases this
    |some v=>
     rw[zE];exact(ih.1 e).2
   constructor
   ·intro h;cases h;refine⟨⟨r,by simp,rfl⟩,?_⟩;rw[aY4,hc];constructor
    ·rintro(⟨x,hx,h⟩|h)
     ·exact⟨x,aZl _ hx,h⟩
     ·exact⟨r,by simp,rfl,h⟩
    ·rintro⟨x,hx,h1,h2⟩;rcases aZh.1 hx with hx|hx
     ·exact .inl ⟨x,hx,h1,h2⟩
     ·simp at hx;subst hx;exact .inr h2
   ·rintro⟨_,h⟩;congr 1;rw[aXw,aY4,hc,h];constructor
    ·rintro(⟨x,hx,h⟩|h)
     ·exact⟨x,aZl _ hx,h⟩
     ·exact⟨r,by simp,rfl,h⟩
    ·rintro⟨x,hx,h1,h2⟩;rcases aZh.1 hx with hx|hx
     ·exact .inl ⟨x,hx,h1,h2⟩
     ·simp at hx;subst hx;exact .inr h2
  ·rw[if_neg hk,ih];have h1:∀p:aT→Prop,(∃x∈l++[r],x.k=k∧p x)↔∃x∈l,x.k=k∧p x:=fun p=>by
    constructor
    ·rintro⟨x,hx,h1,h2⟩;rcases aZh.1 hx with hx|hx
     ·exact⟨x,hx,h1,h2⟩
     ·simp at hx;subst hx;exact absurd h1.symm hk
    ·rintro⟨x,hx,h⟩;exact⟨x,aZl _ hx,h⟩
   have h2:=h1 (fun _=>True);simp only[and_true]at h2;rw[h2,h1 (fun x=>x.w=true)]
theorem qH {a b:List aT}:dQ a b=true↔∃k x y,lkp k (howL a)=some x∧lkp k (howL b)=some y∧(x=true∨y=true):=by
 rw[GR];have hex:∀(l:List aT) (k:aN),(∃r∈l,r.k=k)→∃v,lkp k (howL l)=some v:=fun l k h=>by
  cases e:lkp k (howL l)with
  |some v=>exact⟨v,rfl⟩
  |none=>
   by_cases hw:∃r∈l,r.k=k∧r.w=true
   ·have:=(iI (b:=true)).2 ⟨h,by simp;exact hw⟩;rw[e]at this;cases this
   ·have:=(iI (b:=false)).2 ⟨h,by simp only[aZr,false_iff];exact hw⟩;rw[e]at this;cases this
 constructor
 ·rintro⟨r,hr,s,hs,hk,hw⟩;obtain⟨x,hx⟩:=hex a r.k ⟨r,hr,rfl⟩;obtain⟨y,hy⟩:=hex b r.k ⟨s,hs,hk.symm⟩;refine⟨r.k,x,y,hx,hy,hw.imp (fun h=> ?_) (fun h=> ?_)⟩
  ·exact(iI.1 hx).2.2 ⟨r,hr,rfl,h⟩
  ·exact(iI.1 hy).2.2 ⟨s,hs,hk.symm,h⟩
 ·rintro⟨k,x,y,hx,hy,h⟩;obtain⟨⟨r,hr,yg⟩,hxw⟩:=iI.1 hx;obtain⟨⟨s,hs,hsk⟩,hyw⟩:=iI.1 hy;rcases h with h|h
  ·obtain⟨r,hr,yg,hw⟩:=hxw.1 h;exact⟨r,hr,s,hs,yg.trans hsk.symm,.inl hw⟩
  ·obtain⟨s,hs,hsk,hw⟩:=hyw.1 h;exact⟨r,hr,s,hs,yg.trans hsk.symm,.inr hw⟩
structure Rn where
 id:Wi
 ch:Wi
 l:List aT
def Rn.cn (x:Rn):Cn:=⟨x.id,x.ch,fun k=>lkp k (howL x.l)⟩
theorem kL {x y:Rn}:pT x.cn y.cn↔dQ x.l y.l=true:=by
 rw[qH];unfold pT jP Rn.cn;constructor
 ·rintro⟨k,h⟩;dsimp only at h;cases e1:lkp k (howL x.l)with
  |none=>rw[e1]at h;exact h.elim
  |some a=>
   cases e2:lkp k (howL y.l)with
   |none=>rw[e1,e2]at h;exact h.elim
   |some b=>
    rw[e1,e2]at h;exact⟨k,a,b,e1,e2,h⟩
 ·rintro⟨k,a,b,h1,h2,h3⟩;refine⟨k,?_⟩;dsimp only;rw[h1,h2];exact h3
theorem D7 {a b:List aT}:uN (fun k=>lkp k (howL a)) (howL b)=dQ a b:=by
 rw[aXw,qH];unfold uN;rw[aYv];constructor
 ·rintro⟨p,hp,h⟩;have h2:=dJ (zX b) hp;dsimp only at h;cases e:lkp p.1 (howL a)with
  |none=>rw[e]at h;cases h
  |some x=>
   rw[e]at h;exact⟨p.1,x,p.2,e,h2,by simpa using h⟩
 ·rintro⟨k,x,y,h1,h2,h3⟩;refine⟨(k,y),cP h2,?_⟩;dsimp only;rw[h1];simpa using h3
def eF (K:List Rn) (id:Wi) (l:List aT):Wi:=((K.filter fun x=>dQ x.l l).getLast?.map Rn.ch).getD id
theorem yV (K:List Rn) (id:Wi) (l:List aT):eW (K.map Rn.cn) id (howL l)=eF K id l:=by
 unfold eW eF;rw[List.filter_map,List.getLast?_map,Option.map_map]
 have:((fun x=>uN x.how (howL l))∘Rn.cn)=fun x:Rn=>dQ x.l l:=by
  funext x;exact D7
 rw[this];rfl
def gT (pre:List Rn):List Rn→Wc
 |[]=>[]
 |x::r=>(if pre.any (fun y=>dQ y.l x.l)then []else [x.id])++gT (pre++[x]) r
def readyR (K:List Rn):Wc:=gT [] K
theorem kX:∀(K pre:List Rn),readyFrom (pre.map Rn.cn) (K.map Rn.cn)=gT pre K
 |[],_=>rfl
 |x::r,pre=>by
  have ih:=kX r (pre++[x]);rw[List.map_append]at ih;show _++readyFrom (pre.map Rn.cn++[x].map Rn.cn) _=_++gT _ _;rw[ih];congr 1;by_cases h:pre.any (fun y=>dQ y.l x.l)=true
  ·rw[if_pos h,if_pos];obtain⟨y,hy,hh⟩:=aYv.1 h;exact⟨y.cn,aZj.2 ⟨y,hy,rfl⟩,kL.2 hh⟩
  ·rw[if_neg h,if_neg]
   ·rfl
   ·rintro⟨z,hz,hh⟩;obtain⟨y,hy,rfl⟩:=aZj.1 hz;exact h (aYv.2 ⟨y,hy,kL.1 hh⟩)
theorem AI (K:List Rn):readyC (K.map Rn.cn)=readyR K:=kX K []
def r9 (g q:Nat) (K:List Rn) (T:Nat→Prop) (w:We):Prop:=AY g q (K.map Rn.cn) T w∧∀i,T i→i<w.heap.size
theorem r9.mod {g q:Nat} {K:List Rn} {T:Nat→Prop} {w w':We} (h:r9 g q K T w) {M:Nat→Prop} (hm:Mod M w w') (hM:∀i,T i→¬M i):r9 g q K T w':=
 ⟨(AY.good g q _).cl T w w' h.1 (hm.mono (fun i _ hi hT=>hM i hT hi)),fun i hi=>aZd (h.2 i hi) hm.size⟩
theorem r9.mod0 {g q:Nat} {K:List Rn} {T:Nat→Prop} {w w':We} (h:r9 g q K T w) (hm:Mod (fun _=>False) w w'):r9 g q K T w':=h.mod hm (fun _ _ h=>h)
theorem RD (w:We):Calls Tryz.prog 30 #[] w fun e w'=>∃g,e= .returned (ptrV g)∧∃T,r9 g 0 [] T w'∧Mod (fun _=>False) w w'∧∀i,T i→w.heap.size≤i:=
 (RE w).mono fun e w' ⟨g,h1,T,h2,h3,h4⟩=>⟨g,h1,T,⟨h2,fun i hi=>(h4 i hi).2⟩,h3,fun i hi=>(h4 i hi).1⟩
theorem RX {g q:Nat} {K:List Rn} {T:Nat→Prop} {w:We} (hA:r9 g q K T w) (hq:q<900) (id:Wi) (a:Wb) (l:List aT) (c:Nat) (hl:aV w a l) (bw:l.length≤800) (hd:l≠[]→∀b o,a=some ⟨b,o,none⟩→¬T b) (dx:∀x∈K,x.id≠id):
  Calls Tryz.prog 102 #[ptrV g,.int .i64 id.toInt,.slice a l.length c] w fun e w'=>e= .returned (.int .i64 0)∧∃T',r9 g (q+1) (K++[⟨id,eF K id l,l⟩]) T' w'∧Mod T w w'∧∀i,T' i→T i∨w.heap.size≤i:=by
 refine(VX hA.1 hA.2 hq id a l c hl bw hd (fun x hx=>by
  obtain⟨y,hy,rfl⟩:=aZj.1 hx;exact dx y hy)).mono ?_
 rintro e w' ⟨rfl,T',h1,h2,h3,h4⟩;rw[yV]at h1;exact⟨rfl,T',⟨by rw[List.map_append];exact h1,h4⟩,h2,h3⟩
theorem RS {g q:Nat} {X Y:List Rn} {x:Rn} {T:Nat→Prop} {w:We} (hA:r9 g q (X++x::Y) T w):Calls Tryz.prog 71 #[ptrV g,.int .i64 x.id.toInt] w fun e w'=>
  (X.any (fun y=>dQ y.l x.l)=true∧e= .returned (.int .i64 23)∧Mod (fun _=>False) w w')∨(X.any (fun y=>dQ y.l x.l)=false∧e= .returned (.int .i64 0)∧r9 g q (X++Y) T w'∧Mod T w w'):=by
 have h:=hA.1;rw[List.map_append,aZo]at h;refine(RU h hA.2 x.id rfl).mono ?_;rintro e w' (⟨rfl,⟨y,hy,hh⟩,hm⟩|⟨rfl,hn,hG,hm⟩)
 ·obtain⟨z,hz,rfl⟩:=aZj.1 hy;exact .inl ⟨aYv.2 ⟨z,hz,kL.1 hh⟩,rfl,hm⟩
 ·refine .inr ⟨?_,rfl,⟨by rw[List.map_append];exact hG,fun i hi=>aZd (hA.2 i hi) hm.size⟩,hm⟩;rw[aWl];intro z hz hh;exact hn z.cn (aZj.2 ⟨z,hz,rfl⟩) (kL.2 hh)
theorem J1 {g q:Nat} {K:List Rn} {T:Nat→Prop} {w:We} (hA:r9 g q K T w):Calls Tryz.prog 69 #[ptrV g] w fun e w'=>
  ∃a,e= .returned (.slice a (readyR K).length (readyR K).length)∧aS ic 1 w' a (readyR K)∧Fz w' a∧(∀x,a=some x→w.heap.size≤x.block)∧Mod (fun _=>False) w w':=by
 have h:=J2 hA.1;rw[AI]at h;exact h
theorem lenR_c {g q:Nat} {K:List Rn} {T:Nat→Prop} {w:We} (hA:r9 g q K T w):Calls Tryz.prog 98 #[ptrV g] w fun e w'=>e= .returned (.int .i64 (K.length:Int))∧w'=w:=by
 have h:=Q2 hA.1;rw[aZs]at h;exact h
theorem r9.ids {g q:Nat} {K:List Rn} {T:Nat→Prop} {w:We} (hA:r9 g q K T w):(K.map Rn.id).Nodup:=by
 obtain⟨tag,nb,sb,L,N,S,nd,sp,H,I,hC,hO⟩:=hA.1;obtain⟨es,c,kb,M⟩:=H.kn;have h:=I.ids M.nodup;have e:K.map Rn.id=L.map An.id:=by
  have:=congrArg (List.map Cn.id) hC;rw[aX0,aX0]at this;exact this
 rw[e];exact h
theorem r9.qb {g q:Nat} {K:List Rn} {T:Nat→Prop} {w:We} (hA:r9 g q K T w):q≤900∧K.length≤q:=by
 obtain⟨tag,nb,sb,L,N,S,nd,sp,H,I,hC,hO⟩:=hA.1;have e:=congrArg List.length hC;rw[aZs,aZs]at e;exact⟨I.pub,by rw[e];exact I.Llen⟩
theorem JE {K:List Rn} (h:(K.map Rn.id).Nodup) {x y:Rn} (hx:x∈K) (hy:y∈K) (e:x.id=y.id):x=y:=by
 induction K with
 |nil=>cases hx
 |cons z r ih=>
  rw[aZo,aYc]at h;rcases aZc.1 hx with e1|hx<;>rcases aZc.1 hy with e2|hy
  ·rw[e1,e2]
  ·exact absurd (aZj.2 ⟨y,hy,by rw[←e,e1]⟩) h.1
  ·exact absurd (aZj.2 ⟨x,hx,by rw[e,e2]⟩) h.1
  ·exact ih h.2 hx hy
theorem GI {g q:Nat} {K:List Rn} {T:Nat→Prop} {w:We} (hA:r9 g q K T w) (x:Rn) (hx:x∈K):Calls Tryz.prog 70 #[ptrV g,.int .i64 x.id.toInt] w fun e w'=>e= .returned (.tuple #[.int .i64 x.ch.toInt,.int .i64 0])∧w'=w:=by
 refine(MC hA.1 x.id).mono ?_;rintro e w' ⟨rfl,h⟩;rcases h with⟨_,h⟩|⟨z,hz,h1,h2⟩
 ·exact absurd rfl (h x.cn (aZj.2 ⟨x,hx,rfl⟩))
 ·obtain⟨y,hy,rfl⟩:=aZj.1 hz;obtain rfl:y=x:=JE hA.ids hy hx h1;exact⟨h2,rfl⟩
end
section
attribute [local go_sem] kc_size
section
variable {α:Type} {f:α→Wa} {n B:Nat} {P:Wl} {T E:Wh}
theorem i5 (hs:∀x,(f x).size=n):∀ {l:List α} {q j:Nat} {x y:α} {v:Wg},l[q]? =some x→j<n→(f x).setIfInBounds j v=f y→cellsOf f (l.set q y)=(cellsOf f l).set (q*n+j) v
 |[],q,j,x,y,v,h,_,_=>by cases h
 |a::r,0,j,x,y,v,h,hj,hy=>by
  cases h;rw[aWy,aXe];show(f y).toList++cellsOf f r=((f a).toList++cellsOf f r).set j v;rw[List.set_append_left _ _ (by rw[aYd,hs];exact hj),←hy,Array.toList_setIfInBounds]
 |a::r,q+1,j,x,y,v,h,hj,hy=>by
  have ih:=i5 hs (l:=r) (q:=q) (v:=v) (by simpa using h) hj hy;show(f a).toList++cellsOf f (r.set q y)=((f a).toList++cellsOf f r).set _ v;rw[aX8 _ _ (by rw[aYd,hs,aWh];omega),ih,aYd,hs,show(q+1)*n+j-n=q*n+j by rw[aWh];omega]
end
theorem I5 {α:Type} {f:α→Wa} {k:Nat} (hs:∀x,(f x).size=k) (hk:0<k) (x:α) (n:Nat):madeCells (f x) (n*k)=(cellsOf f (List.replicate n x)).toArray:=by
 apply aY8;intro i;by_cases hi:i<n*k
 ·have hq:i/k<n:=Nat.div_lt_of_lt_mul (by rw[aWo];exact hi);have hg:=fE hs (List.replicate n x) (i/k) x (by rw[aY3,if_pos hq]);have hr:=aWt i hk;have h1:(cellsOf f (List.replicate n x))[i/k*k+i % k]? =(f x).toList[i % k]? :=by
   rw[←hg,aXx hr,List.getElem?_drop]
  have e:i/k*k+i % k=i:=by rw[aWo];exact aWu i k
  rw[e]at h1;have h1:(cellsOf f (List.replicate n x)).toArray[i]? =(f x).toList[i % k]? :=by rw[zA];exact h1
  rw[h1];unfold madeCells;have h2:i % k<(f x).size:=by rw[hs];exact hr
  simp[hi,hs];rw[getElem!_pos (f x) (i % k) h2,aYe h2]
 ·have ag:(cellsOf f (List.replicate n x)).length=n*k:=by rw[fF hs,aZ9]
  rw[aXh (by rw[size_madeCells];omega),aXh (by rw[aYs,ag];omega)]
end
section
section
variable {P:Wl} {ops:Array Oper} {Q:Exit→Act→We→Prop} {T0:Nat→Prop} {w0:We} {κ:Nat→Nat} {υ:Nat→List Tmp}
def uT (kx ko:Nat):Bool:=kx==0&&(ko==0||ko==6)
def JJ (ops:Array Oper) (κ:Nat→Nat) (x o:Nat):Bool:=
 (!(x==o)&&(cU ops x).testBit o)||match ops[x]?,ops[o]? with
  |some ox,some oo=>ox.apart ops oo&&uT (κ x) (κ o)
  |_,_=>false
def gY (ops:Array Oper) (κ:Nat→Nat):Wd→Bool
 |[]=>true
 |x::r=>r.all (fun o=>JJ ops κ x o)&&gY ops κ r
theorem mN {κ:Nat→Nat} {i:Nat} {post:Wd}:∀ {pre:Wd},gY ops κ (pre++i::post)=true→(∀x∈pre,JJ ops κ x i=true)∧gY ops κ (pre++post)=true
 |[],h=>by
  simp only[aYq,gY,aZy]at h;exact⟨fun _ hx=>(aZe hx).elim,h.2⟩
 |x::pre,h=>by
  simp only[aYg,gY,aZy,aYh]at h;obtain⟨h1,h2⟩:=mN h.2;refine⟨fun y hy=> ?_,?_⟩
  ·rcases aZc.1 hy with rfl|hy
   ·exact h.1 i (by simp)
   ·exact h1 y hy
  ·simp only[aYg,gY,aZy,aYh];refine⟨fun y hy=>h.1 y ?_,h2⟩;rcases aZh.1 hy with hy|hy
   ·exact aZl _ hy
   ·exact aYi _ (aZp _ hy)
theorem TE.front6 (hsel:∀(j:Nat) (p:Oper) cs b,ops[j]? =some p→p.op≠ .select cs b) (hQ:∀c a d v w,Q (.panic c) (Act.put a d v) w→Q (.panic c) a w)
  {o:Nat} {oo:Oper} (ho:ops[o]? =some oo) {post:Wd} {w:We}:∀(pre:Wd) (a:Act),
   (∀x∈pre,∃ox,ops[x]? =some ox∧ox.apart ops oo=true∧uT (κ x) (κ o)=true)→
   TE P ops Q κ (pre++o::post) a w→TE P ops Q κ (o::(pre++post)) a w
 |[],_,_,h=>h
 |x::pre,a,hp,h=>by
  obtain⟨ox,hx,az,hk⟩:=hp x (by simp);have kx0:κ x=0:=by
   simp only[uT,aZy,beq_iff_eq]at hk;exact hk.1
  obtain⟨h1,h2,h3⟩:=Oper.apart_spec az;have qt:∀y∈pre,∃oy,ops[y]? =some oy∧oy.apart ops oo=true∧uT (κ y) (κ o)=true:=fun y hy=>hp y (aZp _ hy);cases h with
  |eff R _ hk=>omega
  |val rj hy ht=>
   rw[hx]at rj;cases rj;rename_i v;have hf:=TE.front6 hsel hQ ho pre _ qt ht;cases hf with
   |eff R ho' cu hR hT=>
    exact .eff _ ho cu (wpOp_putIf ho az (fun cs b=>hsel x ox cs b hx) (fun cs b=>hsel o oo cs b ho) (fun c a w=>hQ c a _ _ w) hy hR) (fun a' w' hh=> .val hx hh.1 (hT _ _ hh.2))
   |val ho' ti uf=>
    rw[ho]at ho';cases ho';rename_i u;have eo:=execOp_put (ops:=ops) oo (fun cs b=>hsel o oo cs b ho) a ox.dst v h1;have wo:=wanted_put (ops:=ops) oo a ox.dst v h1;have ex:=execOp_put (ops:=ops) ox (fun cs b=>hsel x ox cs b hx) a oo.dst u h3;have wx:=wanted_put (ops:=ops) ox a oo.dst u h3;refine .val ho (ti.of_same eo.symm wo.symm) (.val hx (hy.of_same ex wx) ?_);rw[←Act.put_comm a v u h2];exact uf
theorem TE.sound6 (hQ:∀c a d v w,Q (.panic c) (Act.put a d v) w→Q (.panic c) a w) (hsel:∀(j:Nat) (p:Oper) cs b,ops[j]? =some p→p.op≠ .select cs b)
  (au:∀i o,ops[i]? =some o→∀e∈o.after,Region.binds .any e=true→e.on<i):
  ∀(fuel:Nat) (l:Wd) (listed:Array Bool) (a:Act) (w:We),l.length=fuel→l.Nodup→(∀i∈l,i<ops.size)→gY ops κ l=true→cA ops listed l→TE P ops Q κ l a w→wpAny P .any ops Q fuel listed a w:=by
 intro fuel
 induction fuel with
 |zero=>
  intro l listed a w hl hn hlt hp hL h;obtain rfl:l=[]:=aY2.1 hl;refine⟨?_,?_⟩
  ·rw[aWq];intro i hi;have:=(hL.mem i).2 (mem_ready.1 hi).1;cases this
  ·cases h with|nil h=>exact h
 |succ fuel ih=>
  intro l listed a w hl hn hlt hp hL h;refine⟨fun et=> ?_,fun i hi=> ?_⟩
  ·exfalso
   match l,hl with
   |i::l',_=>exact cF au hL hlt i i (by simp) (aZq _) et
  ·obtain⟨vj,o,ho,bm⟩:=mem_ready.1 hi;obtain⟨pre,post,rfl⟩:=aXf ((hL.mem i).2 vj);obtain⟨h1,h2⟩:=mN hp;have hf:=TE.front6 hsel hQ ho pre a (fun x hx=>by
    have:=h1 x hx;unfold JJ at this;have qf:ops[x]? =some (ops[x]'(hlt x (by simp[hx]))):=aYe _;rw[qf,ho]at this;simp only[aY4,aZy]at this;rcases this with bo|ak
    ·obtain⟨_,bo⟩:=(bN bo.2).resolve_left (fun e=>by have:=bo.1;simp[e]at this);have jj:=bS hL.closed _ x i o ho bm bo;have ec:=aX ((hL.mem x).1 (by simp[hx]));rw[jj]at ec;cases ec
    ·exact⟨_,qf,ak.1,ak.2⟩) h
   have gk:(pre++post).length=fuel:=by simp at hl⊢;omega
   have ii:(pre++post).Nodup:=hn.sublist (aYy (aYk _ _) _);have cg:∀j∈pre++post,j<ops.size:=fun j hj=>hlt j (by
    rcases aZh.1 hj with hj|hj
    ·exact aZl _ hj
    ·exact aYi _ (aZp _ hj))
   cases hf with
   |val ho' hy ht=>
    rw[ho]at ho';cases ho';exact YieldsIf.wpOp ho hy trivial (ih (pre++post) _ _ _ gk ii cg h2 (hL.next hn ho bm) ht)
   |eff R ho' hk hR hT=>exact wpOp_mono (fun a' w' hh=>ih (pre++post) _ _ _ gk ii cg h2 (hL.next hn ho bm) (hT a' w' hh)) hR
theorem TG.soundE6 (hQ:∀c a d v w,Q (.panic c) (Act.put a d v) w→Q (.panic c) a w) (hsel:∀(j:Nat) (p:Oper) cs b,ops[j]? =some p→p.op≠ .select cs b)
  (au:∀i o,ops[i]? =some o→∀e∈o.after,Region.binds .any e=true→e.on<i) {rest:Wd} (hrest:gY ops κ rest=true):
  ∀(fuel:Nat) (l:Wd) (listed:Array Bool) (a:Act) (B:Bx) (K:aK) (w:We),l.length=fuel→(l++rest).Nodup→(∀i∈l++rest,i<ops.size)→cN ops κ υ l=true→
   (∀x∈l,∀y∈rest,x≠y∧(cU ops x).testBit y=true)→cA ops listed (l++rest)→bX K→
   RG T0 w0 B K w→TG P ops (fun _ a w=>TE P ops Q κ rest a w) T0 w0 κ υ l a B K→wpAny P .any ops Q (rest.length+fuel) listed a w:=by
 intro fuel
 induction fuel with
 |zero=>
  intro l listed a B K w hl hn hlt hp hb hL hK hR h;obtain rfl:l=[]:=aY2.1 hl;have Sx:TE P ops Q κ rest a w:=by
   cases h with|nil h=>exact h w hR
  exact TE.sound6 hQ hsel au _ rest listed a w rfl (by simpa using hn) (by simpa using hlt) hrest (by simpa using hL) Sx
 |succ fuel ih=>
  intro l listed a B K w hl hn hlt hp hb hL hK hR h;refine⟨fun et=> ?_,fun i hi=> ?_⟩
  ·exfalso
   match l,hl with
   |i::l',_=>exact cF au hL hlt i i (by simp) (aZq _) et
  ·obtain⟨vj,o,ho,bm⟩:=mem_ready.1 hi;have jx:i∈l:=by
    rcases aZh.1 ((hL.mem i).2 vj)with io|io
    ·exact io
    ·exfalso;clear h
     match l,hl with
     |x::l',_=>
      have Cr:=hb x (by simp) i io;obtain⟨_,bo⟩:=(bN Cr.2).resolve_left (fun e=>Cr.1 e.symm);have jj:=bS hL.closed _ x i o ho bm bo;have ec:=aX ((hL.mem x).1 (by simp));rw[jj]at ec;cases ec
   obtain⟨pre,post,rfl⟩:=aXf jx;obtain⟨h1,h2⟩:=dW hp;have hf:=TG.front hsel ho pre a B K hK ⟨w,hR⟩ (fun x hx=>by
    have:=h1 x hx;unfold kK at this;have qf:ops[x]? =some (ops[x]'(hlt x (by simp[hx]))):=aYe _;rw[qf,ho]at this;simp only[aY4,aZy]at this;rcases this with bo|ak
    ·obtain⟨_,bo⟩:=(bN bo.2).resolve_left (fun e=>by have:=bo.1;simp[e]at this);have jj:=bS hL.closed _ x i o ho bm bo;have ec:=aX ((hL.mem x).1 (by simp[hx]));rw[jj]at ec;cases ec
    ·exact⟨_,qf,ak.1,ak.2⟩) h
   have gk:(pre++post).length=fuel:=by simp at hl⊢;omega
   have bd:((pre++post)++rest).Sublist ((pre++i::post)++rest):=List.Sublist.append_right (aYy (aYk _ _) _) _;have ii:((pre++post)++rest).Nodup:=hn.sublist bd;have cg:∀j∈(pre++post)++rest,j<ops.size:=fun j hj=>hlt j (bd.subset hj);have el:∀x∈pre++post,∀y∈rest,x≠y∧(cU ops x).testBit y=true:=fun x hx=>hb x ((aYy (aYk i post) pre).subset hx);have gz:cA ops (listed.setIfInBounds i true) ((pre++post)++rest):=by
    have:=cA.next (pre:=pre) (post:=post++rest) (i:=i) (by simpa using hL) (by simpa using hn) ho bm;simpa using this
   rcases hf.kinds with ko|ko|ko|ko
   ·obtain⟨v,hy,ht⟩:=hf.inv_val ko ho;obtain⟨T,fg⟩:=hR;exact YieldsIf.wpOp ho hy fg.mod (ih _ _ _ _ _ _ gk ii cg h2 el gz hK ⟨T,fg⟩ ht)
   ·obtain⟨hw,d,T,z,V,hd,hr,ht⟩:=hf.inv_alloc ko ho;obtain⟨U,fg⟩:=hR;have zl:RG T0 w0 (B.set w.heap.size ⟨z,T,d⟩) K (w.alloc (LB.o ⟨z,T,d⟩)):=⟨U,fg.alloc hK z T d⟩;unfold wpOp;simp only[ho,hw,if_true];refine .inl ?_;unfold Oper.wp;rw[hr.2 w];exact ih _ _ _ _ _ _ gk ii cg h2 el gz hK zl (ht _ fg.none ⟨_,zl⟩)
   ·obtain⟨hw,hd,d,T,y,p,b,aj,du,Ch,bu,hr,ht⟩:=hf.inv_store ko ho;obtain⟨U,fg⟩:=hR;unfold wpOp;simp only[ho,hw,if_true];refine .inl ?_;unfold Oper.wp;rw[hr w (fg.box p b Ch).2.2];simp only[Oper.upon,hd];exact ih _ _ _ _ _ _ gk ii cg h2 el gz hK ⟨U,fg.store hK Ch _⟩ ht
   ·obtain⟨hw,K',hE,ht⟩:=hf.inv_eff ko ho;obtain⟨U,fg⟩:=hR;exact(hE.step fg).wp ho hw fun v w' hv=>ih _ _ _ _ _ _ gk ii cg h2 el gz (hE.cl v) hv (ht v ⟨w',hv⟩)
def ZO (ops:Array Oper) (κ:Nat→Nat) (υ:Nat→List Tmp) (l rest:Wd):Bool:=
 Region.noSelect ops&&((List.range ops.size).all fun i=>match ops[i]? with|none=>false|some o=>o.after.all fun e=> !Region.binds .any e||decide (e.on<i))&&
 (decide (rest.length+l.length=ops.size)&&((l++rest).all (fun i=>decide (i<ops.size))&&((List.range ops.size).all fun i=>(l++rest).contains i)))&&
 (decide (l++rest).Nodup&&cN ops κ υ l&&gY ops κ rest&&l.all (fun x=>rest.all fun y=> !(x==y)&&(cU ops x).testBit y))
def BP (ops:Array Oper) (listed:Array Bool) (i:Nat):Bool:=
 Region.noSelect ops&&(Region.ready .any ops listed).contains i&&match ops[i]? with
  |none=>false
  |some oi=>(List.range ops.size).all fun j=>match ops[j]? with
   |none=>true
   |some oj=>decide (j=i)||listed.getD j true||oj.after.any (fun e=>Region.binds .any e&&decide (e.on=i))||oi.apart ops oj
theorem gH {fuel:Nat} {listed:Array Bool} {a:Act} {w:We} {i:Nat} {oi:Oper} {v:Wg} (hi:ops[i]? =some oi) (ak:BP ops listed i=true) (hQ:∀c a d v w,Q (.panic c) (Act.put a d v) w→Q (.panic c) a w)
  (hw:Region.wanted oi (yielded ops a.tmps)=true) (hy:∀w,(execOp a.eval oi).run P w= .ok (.value v) w) (h:wpAny P .any ops Q fuel (listed.setIfInBounds i true) (a.put oi.dst v) w):wpAny P .any ops Q (fuel+1) listed a w:=by
 simp only[BP,hi,aZy]at ak;obtain⟨⟨h1,h2⟩,h3⟩:=ak;refine wpAny_first hi (Region.noSelect_spec h1) (fun c a w=>hQ c a _ _ w) fuel listed a w (fun j oj hj aw hl hb=> ?_) (List.contains_iff_mem.1 h2) (.inl ⟨hw,hy⟩) h;have hjs:j<ops.size:=(aZf.1 hj).1;have:=aYh.1 h3 j (aYu.2 hjs);rw[hj]at this;simp only[aY4,decide_eq_true_eq]at this;rcases this with((h|h)|h)|h
 ·exact absurd h aw
 ·rw[h]at hl;cases hl
 ·obtain⟨e,he,cq⟩:=Array.any_eq_true'.1 h;simp only[aZy,decide_eq_true_eq]at cq;exact absurd cq.2 (hb e he cq.1)
 ·exact h
def OM (ops:Array Oper) (κ:Nat→Nat) (υ:Nat→List Tmp) (listed:Array Bool) (l rest:Wd):Bool:=
 Region.noSelect ops&&((List.range ops.size).all fun i=>match ops[i]? with|none=>false|some o=>o.after.all fun e=> !Region.binds .any e||decide (e.on<i))&&
 (decide (listed.size=ops.size)&&((l++rest).all (fun i=>decide (i<ops.size))&&((List.range ops.size).all fun i=>(l++rest).contains i== !listed.getD i true)))&&
 ((List.range ops.size).all fun i=> !listed.getD i false||match ops[i]? with|none=>true|some o=>o.after.all fun e=> !Region.binds .any e||listed.getD e.on false)&&
 (decide (l++rest).Nodup&&cN ops κ υ l&&gY ops κ rest&&l.all (fun x=>rest.all fun y=> !(x==y)&&(cU ops x).testBit y))
theorem y9 (hQ:∀c a d v w,Q (.panic c) (Act.put a d v) w→Q (.panic c) a w) {a:Act} {w1:We} {K:aK} {listed:Array Bool} (l rest:Wd) (ak:OM ops κ υ listed l rest=true) (hK:bX K) (hR:RG T0 w0 Bx.nil K w1)
  (h:TG P ops (fun _ a w=>TE P ops Q κ rest a w) T0 w0 κ υ l a Bx.nil K):wpAny P .any ops Q (rest.length+l.length) listed a w1:=by
 simp only[OM,aZy,aYh,decide_eq_true_eq]at ak;obtain⟨⟨⟨⟨h1,h2⟩,h3,h4,h5⟩,hc⟩,⟨⟨ct,h6⟩,h7⟩,h8⟩:=ak;have au:∀i o,ops[i]? =some o→∀e∈o.after,Region.binds .any e=true→e.on<i:=fun i o ho e he hb=>by
  have:=h2 i (aYu.2 (aZf.1 ho).1);rw[ho]at this;have:=aZ5.1 this e he;simpa[hb] using this
 refine TG.soundE6 hQ (Region.noSelect_spec h1) au h7 _ l _ a _ _ _ rfl ct h4 h6 (fun x hx y hy=> ?_) ?_ hK hR h
 ·have:=h8 x hx y hy;exact⟨by simpa using this.1,this.2⟩
 ·refine⟨h3,fun i=> ?_,fun i o hi ho e he hb=> ?_⟩
  ·by_cases hi:i<ops.size
   ·have:=h5 i (aYu.2 hi);rw[beq_iff_eq]at this;constructor
    ·intro hm;rw[List.contains_iff_mem.2 hm]at this;simpa using this.symm
    ·intro hm;rw[hm]at this;exact List.contains_iff_mem.1 (by simpa using this)
   ·constructor
    ·intro hm;exact absurd (h4 i hm) hi
    ·intro hm
     have:listed.getD i true=true:=by simp[h3,hi]
     rw[this]at hm;cases hm
  ·have:=hc i (aYu.2 (aZf.1 ho).1);rw[hi,ho]at this;simp only[Bool.not_true,Bool.false_or]at this;have:=aZ5.1 this e he;simpa[hb] using this
theorem vM {K:aK} {w:We} (hK:bX K) (hk:K T0 w) (hlt:∀i,T0 i→i<w.heap.size):RG T0 w Bx.nil K {w with drawn:=w.drawn+1}:=
 ⟨T0,hK T0 w w.drew hk (Mod.refl _ w).drew,hlt,fun _ _ h=>h,(Mod.refl _ w).drew,fun _ _ hh=>by cases hh⟩
end
end
section
attribute [local go_sem↓] nB jX mX YJ YU YK YV
attribute [local go_sem] bI dZ eT VZ V1 V4 O2 O3 O4 V0 V3 V5 R1 R2 R3 kS
structure eL (w:We) (x:cT):Prop where
 b:aS uc 1 w x.b.a x.b.l
 sg:aS sgc 64 w x.sg.a x.sg.l
 ks:aS kc 32 w x.ks.a x.ks.l
 ins:aS inr 3 w x.ins.a x.ins.l
 insB:∀y∈x.ins.l,aS uc 1 w y.a.a y.a.l∧aS uc 1 w y.d.a y.d.l
 lks:aS lor 34 w x.lks.a x.lks.l
 lksB:∀y∈x.lks.l,aS uc 1 w y.w.a y.w.l∧aS uc 1 w y.r.a y.r.l
 ro:aS rcr 34 w x.ro.a x.ro.l
structure iU (x:AZ):Prop where
 b:x.b.length≤1000000
 sg:x.sg.length≤1000000
 ks:x.ks.length≤1000000
 ins:x.ins.length≤1000000
 insB:∀y∈x.ins,y.a.length≤1000000∧y.d.length≤1000000
 lks:x.lks.length≤1000000
 lksB:∀y∈x.lks,y.w.length≤1000000∧y.r.length≤1000000
 ro:x.ro.length≤1000000
abbrev FH (S:Nat→Prop) (a:Option Addr):Prop:=∀g o,a=some ⟨g,o,none⟩→S g
structure jR (S:Nat→Prop) (x:cT):Prop where
 b:FH S x.b.a
 sg:FH S x.sg.a
 ks:FH S x.ks.a
 ins:FH S x.ins.a
 insB:∀y∈x.ins.l,FH S y.a.a∧FH S y.d.a
 lks:FH S x.lks.a
 lksB:∀y∈x.lks.l,FH S y.w.a∧FH S y.r.a
 ro:FH S x.ro.a
theorem jR.mono {S T:Nat→Prop} {x:cT} (h:jR S x) (hT:∀i,S i→T i):jR T x:=
 ⟨fun g o e=>hT g (h.b g o e),fun g o e=>hT g (h.sg g o e),fun g o e=>hT g (h.ks g o e),fun g o e=>hT g (h.ins g o e),fun y hy=>⟨fun g o e=>hT g ((h.insB y hy).1 g o e),fun g o e=>hT g ((h.insB y hy).2 g o e)⟩,
  fun g o e=>hT g (h.lks g o e),fun y hy=>⟨fun g o e=>hT g ((h.lksB y hy).1 g o e),fun g o e=>hT g ((h.lksB y hy).2 g o e)⟩,fun g o e=>hT g (h.ro g o e)⟩
theorem eL.mod {w w':We} {x:cT} {S T:Nat→Prop} (h:eL w x) (hm:Mod S w w') (hi:jR T x) (hT:∀i,T i→¬S i):eL w' x:=
 ⟨h.b.mod hm (fun g o e=>hT g (hi.b g o e)),h.sg.mod hm (fun g o e=>hT g (hi.sg g o e)),h.ks.mod hm (fun g o e=>hT g (hi.ks g o e)),h.ins.mod hm (fun g o e=>hT g (hi.ins g o e)),
  fun y hy=>⟨(h.insB y hy).1.mod hm (fun g o e=>hT g ((hi.insB y hy).1 g o e)),(h.insB y hy).2.mod hm (fun g o e=>hT g ((hi.insB y hy).2 g o e))⟩,h.lks.mod hm (fun g o e=>hT g (hi.lks g o e)),
  fun y hy=>⟨(h.lksB y hy).1.mod hm (fun g o e=>hT g ((hi.lksB y hy).1 g o e)),(h.lksB y hy).2.mod hm (fun g o e=>hT g ((hi.lksB y hy).2 g o e))⟩,h.ro.mod hm (fun g o e=>hT g (hi.ro g o e))⟩
theorem eL.mod0 {w w':We} {x:cT} (h:eL w x) (hm:Mod (fun _=>False) w w'):eL w' x:=
 ⟨h.b.mod0 hm,h.sg.mod0 hm,h.ks.mod0 hm,h.ins.mod0 hm,fun y hy=>⟨(h.insB y hy).1.mod0 hm,(h.insB y hy).2.mod0 hm⟩,h.lks.mod0 hm,fun y hy=>⟨(h.lksB y hy).1.mod0 hm,(h.lksB y hy).2.mod0 hm⟩,h.ro.mod0 hm⟩
def oV {α:Type} (f:α→Wa) (n:Nat) (E:Wh) (b:Nat) (l:List α) (v:Wg):aK:=fun T w=>aZ f n E b w v l∧∀g,v.ownBlock=some g→T g
theorem eI {α:Type} (f:α→Wa) (n:Nat) (E:Wh) (b:Nat) (l:List α) (v:Wg):aH (oV f n E b l v) where
 cl:=fun T w w' h hm=>⟨h.1.mod hm (fun g hg hn=>hn (h.2 g hg)),h.2⟩
 gr:=fun T T' w hT h=>⟨h.1,fun g hg=>hT g (h.2 g hg)⟩
theorem sD {α:Type} {f:α→Wa} {n:Nat} {E:Wh} {b:Nat} {l:List α} {v:Wg} {T:Nat→Prop} {w w':We} (h:aZ f n E w.heap.size w' v l) (hb:b≤w.heap.size):oV f n E b l v (Grow T w w') w':=
 ⟨h.base hb,fun g hg=> .inr (h.lt g hg)⟩
theorem tH {α:Type} {f:α→Wa} {n i o1 o2:Nat} {cur:Wa} {l:List α} (hs:∀x,(f x).size=n) (bk:∀(j:Nat) y,l[j]? =some y→cur.extract (j*n) (j*n+n)=f y∧j*n+n≤cur.size) {x x':α} (hx:l[i]? =some x) (h1:o1<n) (h2:o2<n) {u v:Wg} (rj:((f x).setIfInBounds o1 u).setIfInBounds o2 v=f x'):
  ∀(j:Nat) y,(l.set i x')[j]? =some y→((cur.setIfInBounds (i*n+o1) u).setIfInBounds (i*n+o2) v).extract (j*n) (j*n+n)=f y∧j*n+n≤((cur.setIfInBounds (i*n+o1) u).setIfInBounds (i*n+o2) v).size:=by
 intro j y hy;have hi:=(aZa.1 hx).1;obtain⟨he,dh⟩:=bk i x hx;simp only[aWj];by_cases hj:j=i
 ·subst hj;rw[List.getElem?_set_self hi]at hy;cases hy;refine⟨?_,dh⟩;rw[←rj,←he];apply aY8;intro t;by_cases ht:t<n
  ·simp only[aYl,aZ2,Array.size_extract,aWj];have e1:(j*n+o1=j*n+t)↔o1=t:=by omega
   have e2:(j*n+o2=j*n+t)↔o2=t:=by omega
   have e3:min (j*n+n) cur.size-j*n=n:=by omega
   simp only[e1,e2,e3,ht,if_true,h1,h2];have e4:j*n+t<cur.size:=by omega
   have e5:j*n+o1<cur.size:=by omega
   have e6:j*n+o2<cur.size:=by omega
   simp only[e4,e5,e6,if_true]
  ·rw[aXh (by simp;omega),aXh (by simp;omega)]
 ·rw[aZ0 (fun e=>hj e.symm)]at hy;obtain⟨he2,Ar⟩:=bk j y hy;refine⟨?_,Ar⟩;rw[←he2];apply aY8;intro t;by_cases ht:t<n
  ·simp only[aYl,aZ2,aWj];have q:¬(i*n+o1=j*n+t)∧¬(i*n+o2=j*n+t):=by
    rcases aYt j i with h|h
    ·have:(j+1)*n≤i*n:=aXu _ h;rw[aWh,Nat.one_mul]at this;omega
    ·have:(i+1)*n≤j*n:=aXu _ (by omega);rw[aWh,Nat.one_mul]at this;omega
   rw[if_neg q.2,if_neg q.1]
  ·rw[aXh (by simp;omega),aXh (by simp;omega)]
theorem xJ (x:oU):(inr x).size=3:=rfl
theorem VD (x:oU):(inr x)[1]? =some (.slice x.a.a x.a.l.length x.a.c):=rfl
theorem VF (x:oU):(inr x)[2]? =some (.slice x.d.a x.d.l.length x.d.c):=rfl
theorem MU (x:oU):(inr x).extract 0 3=inr x:=rfl
theorem MV (x:oU):(inr x).all (·.oneCell') 0 3=true:=by simp[inr,Value.oneCell']
theorem mK (x:o8):(lor x).size=34:=kM _ _
theorem Q4 (x:o8):(lor x)[32]? =some (.slice x.w.a x.w.l.length x.w.c):=qZ _ _ 0
theorem Q5 (x:o8):(lor x)[33]? =some (.slice x.r.a x.r.l.length x.r.c):=qZ _ _ 1
theorem NA (x:o8):(lor x).all (·.oneCell') 0 34=true:=jU (mK x) (rA _ _ rfl)
theorem VE (x:oU) (h:1<(inr x).size):(inr x)[1]= .slice x.a.a x.a.l.length x.a.c:=rfl
theorem VG (x:oU) (h:2<(inr x).size):(inr x)[2]= .slice x.d.a x.d.l.length x.d.c:=rfl
theorem VO (x:o8) (h:32<(lor x).size):(lor x)[32]= .slice x.w.a x.w.l.length x.w.c:=aU (Q4 x) h
theorem VP (x:o8) (h:33<(lor x).size):(lor x)[33]= .slice x.r.a x.r.l.length x.r.c:=aU (Q5 x) h
theorem K8:W4.size=3:=rfl
theorem K9:WN.size=34:=mK _
attribute [local go_sem] xJ VD VF MU MV mK Q4 Q5 NA VE VG VO VP K8 K9
theorem kx_set (k:aN) (xs:List Wg) (j:Nat) (v:Wg):(kx k xs).setIfInBounds (32+j) v=kx k (xs.set j v):=by
 apply aZ1.1;unfold kx;rw[Array.toList_setIfInBounds,aWi,aWi,aX8 _ _ (by simp)];simp
def EI (q:Nat) (w:We) (y z:oU):Prop:=y.con=z.con∧aZ uc 1 5 q w (.slice y.a.a y.a.l.length y.a.c) y.a.l∧aZ uc 1 5 q w (.slice y.d.a y.d.l.length y.d.c) y.d.l
def EL (q:Nat) (w:We) (y z:o8):Prop:=y.con=z.con∧aZ uc 1 5 q w (.slice y.w.a y.w.l.length y.w.c) y.w.l∧aZ uc 1 5 q w (.slice y.r.a y.r.l.length y.r.c) y.r.l
theorem aZ.ty {α:Type} {f:α→Wa} {n:Nat} {E:Wh} {base:Nat} {w:We} {v:Wg} {l:List α} (h:aZ f n E base w v l) {g:Nat} (hg:v.ownBlock=some g):∃cur,w.heap[g]? =some (.cells cur E (0,0)):=by
 rcases h with⟨rfl,_⟩|⟨g',cur,rfl,_,h2,_⟩
 ·cases hg
 ·cases hg;exact⟨cur,h2⟩
theorem aZ.other {α β:Type} {f:α→Wa} {n:Nat} {E:Wh} {base:Nat} {w w':We} {v:Wg} {l:List α} (h:aZ f n E base w v l) {f':β→Wa} {n':Nat} {E':Wh} {b':Nat} {v':Wg} {l':List β} (h':aZ f' n' E' b' w v' l') (hE:E≠E') (hm:Mod (fun b=>v'.ownBlock=some b) w w'):aZ f n E base w' v l:=by
 refine h.mod hm (fun g hg e=> ?_);obtain⟨c1,k1⟩:=h.ty hg;obtain⟨c2,k2⟩:=h'.ty e;rw[k1]at k2;injection k2 with k2
 injection k2 with _ k2
 exact hE k2
theorem EI.mod {q:Nat} {w w':We} {y z:oU} (h:EI q w y z) {S:Nat→Prop} (hm:Mod S w w') (hS:∀g cur,w.heap[g]? =some (.cells cur 5 (0,0))→¬S g):EI q w' y z:=
 ⟨h.1,h.2.1.mod hm (fun g hg=>by obtain⟨c,k⟩:=h.2.1.ty hg;exact hS g c k),h.2.2.mod hm (fun g hg=>by obtain⟨c,k⟩:=h.2.2.ty hg;exact hS g c k)⟩
theorem EL.mod {q:Nat} {w w':We} {y z:o8} (h:EL q w y z) {S:Nat→Prop} (hm:Mod S w w') (hS:∀g cur,w.heap[g]? =some (.cells cur 5 (0,0))→¬S g):EL q w' y z:=
 ⟨h.1,h.2.1.mod hm (fun g hg=>by obtain⟨c,k⟩:=h.2.1.ty hg;exact hS g c k),h.2.2.mod hm (fun g hg=>by obtain⟨c,k⟩:=h.2.2.ty hg;exact hS g c k)⟩
theorem MW (z:oU) (u v:Sl Wk):((inr z).setIfInBounds 1 (.slice u.a u.l.length u.c)).setIfInBounds 2 (.slice v.a v.l.length v.c)=inr ⟨z.p,u,v⟩:=rfl
theorem NB (z:o8) (u v:Sl Wk):((lor z).setIfInBounds 32 (.slice u.a u.l.length u.c)).setIfInBounds 33 (.slice v.a v.l.length v.c)=lor ⟨z.t,u,v⟩:=
 (congrArg (fun xs:Wa=>xs.setIfInBounds (32+1) (.slice v.a v.l.length v.c)) (kx_set z.t _ 0 _)).trans (kx_set z.t _ 1 _)
structure WU (q:Nat) (w:We) (v:Wg) (l0 L:List oU) (i:Nat):Prop where
 len:L.length=l0.length
 rows:aZ inr 3 106 q w v L
 done:∀(j:Nat) y z,j<i→L[j]? =some y→l0[j]? =some z→EI q w y z
 rest:∀j:Nat,i≤j→L[j]? =l0[j]?
structure WV (q:Nat) (w:We) (v:Wg) (l0 L:List o8) (i:Nat):Prop where
 len:L.length=l0.length
 rows:aZ lor 34 109 q w v L
 done:∀(j:Nat) y z,j<i→L[j]? =some y→l0[j]? =some z→EL q w y z
 rest:∀j:Nat,i≤j→L[j]? =l0[j]?
theorem aZ.ok {α:Type} {f:α→Wa} {n m c:Nat} {E:Wh} {b:Nat} {w:We} {a:Wb} {l:List α} (h:aZ f n E b w (.slice a m c) l):aS f n w a l∧FH (fun g=>b≤g∧g<w.heap.size) a:=by
 obtain⟨a',e,h1,h2⟩:=h.at;injection e with e _ _
 subst e;exact⟨h1,h2⟩
theorem aZ.norm {α:Type} {f:α→Wa} {n m c:Nat} {E:Wh} {b:Nat} {w:We} {a:Wb} {l:List α} (h:aZ f n E b w (.slice a m c) l):aZ f n E b w (.slice a l.length l.length) l:=by
 obtain⟨a',e,_,_⟩:=h.at;injection e with e1 e2 e3
 rw[e2,e3]at h;exact h
structure dS (base:Nat) (w:We) (x:cT):Prop where
 b:aZ uc 1 5 base w (.slice x.b.a x.b.l.length x.b.l.length) x.b.l
 sg:aZ sgc 64 92 base w (.slice x.sg.a x.sg.l.length x.sg.l.length) x.sg.l
 ks:aZ kc 32 107 base w (.slice x.ks.a x.ks.l.length x.ks.l.length) x.ks.l
 ins:aZ inr 3 106 base w (.slice x.ins.a x.ins.l.length x.ins.l.length) x.ins.l
 insB:∀y∈x.ins.l,aZ uc 1 5 base w (.slice y.a.a y.a.l.length y.a.l.length) y.a.l∧aZ uc 1 5 base w (.slice y.d.a y.d.l.length y.d.l.length) y.d.l
 lks:aZ lor 34 109 base w (.slice x.lks.a x.lks.l.length x.lks.l.length) x.lks.l
 lksB:∀y∈x.lks.l,aZ uc 1 5 base w (.slice y.w.a y.w.l.length y.w.l.length) y.w.l∧aZ uc 1 5 base w (.slice y.r.a y.r.l.length y.r.l.length) y.r.l
 ro:aZ rcr 34 178 base w (.slice x.ro.a x.ro.l.length x.ro.l.length) x.ro.l
theorem dS.ok {base:Nat} {w:We} {x:cT} (h:dS base w x):eL w x:=
 ⟨h.b.ok.1,h.sg.ok.1,h.ks.ok.1,h.ins.ok.1,fun y hy=>⟨(h.insB y hy).1.ok.1,(h.insB y hy).2.ok.1⟩,h.lks.ok.1,fun y hy=>⟨(h.lksB y hy).1.ok.1,(h.lksB y hy).2.ok.1⟩,h.ro.ok.1⟩
theorem dS.inn {base:Nat} {w:We} {x:cT} (h:dS base w x):jR (fun g=>base≤g∧g<w.heap.size) x:=
 ⟨h.b.ok.2,h.sg.ok.2,h.ks.ok.2,h.ins.ok.2,fun y hy=>⟨(h.insB y hy).1.ok.2,(h.insB y hy).2.ok.2⟩,h.lks.ok.2,fun y hy=>⟨(h.lksB y hy).1.ok.2,(h.lksB y hy).2.ok.2⟩,h.ro.ok.2⟩
theorem aZ.offT {α:Type} {f:α→Wa} {n:Nat} {E:Wh} {base:Nat} {w w':We} {v:Wg} {l:List α} (h:aZ f n E base w v l) {p:Nat} {C:Wa} {T':Wh} (hb:w.heap[p]? =some (.cells C T' (0,0))) (hE:E≠T') (hm:Mod (fun i=>i=p) w w'):aZ f n E base w' v l:=by
 refine h.mod hm (fun g hg e=> ?_);subst e;obtain⟨c,k⟩:=h.ty hg;rw[hb]at k;injection k with k
 injection k with _ k
 exact hE k.symm
theorem tD {α β γ:Type} {L:List α} {l:List β} {f:α→γ} {g:β→γ} (hl:L.length=l.length) (h:∀(j:Nat) y z,L[j]? =some y→l[j]? =some z→f y=g z):L.map f=l.map g:=by
 apply aXm;intro j;rw[aZv,aZv];by_cases hj:j<L.length
 ·have h1:=aZb hj;have h2:=aZb (l:=l) (i:=j) (by omega);rw[h1,h2];exact congrArg some (h j _ _ h1 h2)
 ·rw[aY1 (by omega),aY1 (by omega)];rfl
theorem MQ {w:We} {x:cT} (hx:eL w x) (hs:iU x.con):Calls Tryz.prog 48 #[.agg (b9 x)] w fun e w'=>∃y:cT,e= .returned (.agg (b9 y))∧y.con=x.con∧dS w.heap.size w' y∧Mod (fun _=>False) w w':=by
 have HX:=Hi (Ai hx hs);have HB0:Hid (∃q,q=w.heap.size):=Hi ⟨_,rfl⟩;clear hx hs;go_enter Tryz.func48,Tryz.ntmps48;go_upto_region 0 with fail;refine ZP0 [3,3] ?_;refine Zb fun p1 fx=> ?_;refine Za alRdy fun p2 ce=> ?_;obtain⟨ne_p2_p1,ce⟩:=Bx.set_none ce;refine TD.nil (fun w1 hr=> ?_);obtain⟨gp1,kp1⟩:=hr.b p1;obtain⟨gp2,kp2⟩:=hr.b p2;have m1:=hr.mod;clear hr;go_upto_region 1 with fail;have Lkp1:=aA kp1;have Lkp2:=aA kp2;refine iR (T0:=fun _=>False) (K:=fun _ _=>True) (κ:=fun i=>[0,0,6,0,0,6,0,6,0,6].getD i 0) (υ:=fun _=>[]) [0,1,2,3,4,5,6] [7,8,9] (by kernel_rfl) (by kernel_rfl) (aH.true).cl (trivial) (fun _ h=>h.elim) ?_;have gK:=aH.true;refine Zg ?_;refine Zh ?_;(refine ZJ (oV uc 1 5 w.heap.size x.b.l) (eI uc 1 5 w.heap.size x.b.l) gK ?_ (s:=fun T wq kq ltq ae ub=>by exact(rG (c:=x.b.c) (HX.out.1.b.mod0 (m1.then0 ae)) HX.out.2.b).mono (fun e w' h=>by obtain⟨v,h1,h2,h3⟩:=h;exact⟨v,h1,h3,sD h2 (m1.then0 ae).size⟩));rintro v5 ⟨wI,TI,hI⟩;replace gK:=gK.and ((eI uc 1 5 w.heap.size x.b.l) v5);skip;(try clear hI TI wI);try simp only[zL]);refine Zg ?_;refine Zh ?_;(refine ZJ (oV rcr 34 178 w.heap.size x.ro.l) (eI rcr 34 178 w.heap.size x.ro.l) gK ?_ (s:=fun T wq kq ltq ae ub=>by exact(RO (c:=x.ro.c) (HX.out.1.ro.mod0 (m1.then0 ae)) HX.out.2.ro).mono (fun e w' h=>by obtain⟨v,h1,h2,h3⟩:=h;exact⟨v,h1,h3,sD h2 (m1.then0 ae).size⟩));rintro v8 ⟨wI,TI,hI⟩;replace gK:=gK.and ((eI rcr 34 178 w.heap.size x.ro.l) v8);skip;(try clear hI TI wI);try simp only[zL]);refine Zg ?_;refine TG.nil (fun w2 ⟨TR,hr⟩=> ?_);replace kp1:=hr.q kp1;replace kp2:=hr.q kp2;clear gK;obtain⟨⟨_,Lo,Of⟩,Nx,yp⟩:=hr.k;have fx:∀g,TR g→g≠p1:=fun g hg e=>(hr.old g (e▸Lkp1) hg).elim;have ce:∀g,TR g→g≠p2:=fun g hg e=>(hr.old g (e▸Lkp2) hg).elim;have m2:=m1.then0 hr.mod;obtain⟨a5,e5,_⟩:=Lo.at;obtain⟨a8,e8,_⟩:=Nx.at;subst e5;subst e8;have qd:p2≠p1:=ne_p2_p1;have HN:=Hi (Ai Lo (Ai Of (Ai Nx (Ai yp (Ai fx ce)))));clear hr Lo Of Nx yp fx ce;generalize Qd:x.b.l.length=lb at *;generalize hlr:x.ro.l.length=lr at *;refine Zz ?_;refine ZS ?_;refine ZM kp1 fun wn kp1 mS=> ?_;have kp2:=mS.at_ne kp2 qd;have mp:=mS;clear mS;refine Ze ?_;refine Zz ?_;refine ZS ?_;refine ZN kp1 fun wn kp1 mS=> ?_;have kp2:=mS.at_ne kp2 qd;have mp2:=mp.trans mS;have m3:=m2.thenB mp2 (.inl gp1);have Cz:Hid (aZ uc 1 5 w.heap.size wn (.slice a5 lb lb) x.b.l∧aZ rcr 34 178 w.heap.size wn (.slice a8 lr lr) x.ro.l):=Hi ⟨HN.out.1.mod mp2 (fun g hg=>HN.out.2.2.2.2.1 g (HN.out.2.1 g hg)),HN.out.2.2.1.mod mp2 (fun g hg=>HN.out.2.2.2.2.1 g (HN.out.2.2.2.1 g hg))⟩;have Nb:=Hi (Ai Qd hlr);obtain⟨y1,Ff⟩:∃y1:cT,y1= {x with b:=⟨a5,x.b.l,lb⟩,ro:=⟨a8,x.ro.l,lr⟩}:=⟨_,rfl⟩;replace kp1:wn.heap[p1]? =some (.cells (b9 y1) 46 (0,0)):=by
  rw[V6 x.b.l Qd,SC x.ro.l hlr]at kp1;rw[Ff];exact kp1
 have hysg:y1.sg=x.sg:=by rw[Ff]
 have hyks:y1.ks=x.ks:=by rw[Ff]
 have hyin:y1.ins=x.ins:=by rw[Ff]
 have hylk:y1.lks=x.lks:=by rw[Ff]
 have HY1:=Hi Ff;clear Ff;obtain⟨w3,rfl⟩:∃w3:We,w3=wn:=⟨_,rfl⟩;clear mS mp mp2 HN m2 Qd hlr;have Uq:=Hi kp1;go_upto_region 3 with fail;have Lkp1:=aA kp1;have Lkp2:=aA kp2;refine wp_region_any (by kernel_rfl) ?_;change wpAny _ .any _ _ 34 _ _ _;(refine gH (i:=0) (v:= ?v13) (by simp only[zK];rfl) (by kernel_rfl) (fun _ _ d _ _ h=>by cases d<;>first|exact h|exact absurd h (hP _ _ _)) ?hw13 (fun w1=> ?y13) ?n13;(case hw13=>rfl);(case y13=>go_simp;try with_reducible rfl);try simp only[zL]);(refine gH (i:=1) (v:= ?v14) (by simp only[zK];rfl) (by kernel_rfl) (fun _ _ d _ _ h=>by cases d<;>first|exact h|exact absurd h (hP _ _ _)) ?hw14 (fun w1=> ?y14) ?n14;(case hw14=>rfl);(case y14=>go_simp;try with_reducible rfl);try simp only[zL]);(refine gH (i:=2) (v:= ?v15) (by simp only[zK];rfl) (by kernel_rfl) (fun _ _ d _ _ h=>by cases d<;>first|exact h|exact absurd h (hP _ _ _)) ?hw15 (fun w1=> ?y15) ?n15;(case hw15=>rfl);(case y15=>go_simp;try with_reducible rfl);try simp only[zL]);refine y9 (T0:=fun _=>False) (K:=fun _ _=>True) (κ:=fun i=>[0,0,0,0,0,0,6,0,0,0,0,6,0,0,0,0,6,0,0,0,0,6,0,0,6,0,0,6,0,0,6,0,0,6].getD i 0) (υ:=fun _=>[]) (fun _ _ d _ _ h=>by cases d<;>first|exact h|exact absurd h (hP _ _ _)) [3,4,5,6,7,8,9,10,11,12,13,14,15,16,17,18,19,20,21,22,23] [24,25,26,27,28,29,30,31,32,33] (by kernel_rfl) (aH.true).cl (vM (aH.true).cl (trivial) (fun _ h=>h.elim)) ?_;have gK:=aH.true
 iterate 2 refine Zg ?_
 refine Zh ?_;(refine ZJ (oV sgc 64 92 w.heap.size x.sg.l) (eI sgc 64 92 w.heap.size x.sg.l) gK ?_ (s:=fun T wq kq ltq ae ub=>by exact(RP (c:=x.sg.c) (HX.out.1.sg.mod0 (m3.then0 ae)) HX.out.2.sg).mono (fun e w' h=>by obtain⟨v,h1,h2,h3⟩:=h;exact⟨v,h1,h3,sD h2 (m3.then0 ae).size⟩));rintro v19 ⟨wI,TI,hI⟩;replace gK:=gK.and ((eI sgc 64 92 w.heap.size x.sg.l) v19);skip;(try clear hI TI wI);try simp only[zL])
 iterate 3 refine Zg ?_
 refine Zh ?_;(refine ZJ (oV kc 32 107 w.heap.size x.ks.l) (eI kc 32 107 w.heap.size x.ks.l) gK ?_ (s:=fun T wq kq ltq ae ub=>by exact(RM (c:=x.ks.c) (HX.out.1.ks.mod0 (m3.then0 ae)) HX.out.2.ks).mono (fun e w' h=>by obtain⟨v,h1,h2,h3⟩:=h;exact⟨v,h1,h3,sD h2 (m3.then0 ae).size⟩));rintro v24 ⟨wI,TI,hI⟩;replace gK:=gK.and ((eI kc 32 107 w.heap.size x.ks.l) v24);skip;(try clear hI TI wI);try simp only[zL])
 iterate 3 refine Zg ?_
 refine Zh ?_;(refine ZJ (oV inr 3 106 w.heap.size x.ins.l) (eI inr 3 106 w.heap.size x.ins.l) gK ?_ (s:=fun T wq kq ltq ae ub=>by exact(RL (c:=x.ins.c) (HX.out.1.ins.mod0 (m3.then0 ae)) (by have:=HX.out.2.ins;simpa[cT.con] using this)).mono (fun e w' h=>by obtain⟨v,h1,h2,h3⟩:=h;exact⟨v,h1,h3,sD h2 (m3.then0 ae).size⟩));rintro v29 ⟨wI,TI,hI⟩;replace gK:=gK.and ((eI inr 3 106 w.heap.size x.ins.l) v29);skip;(try clear hI TI wI);try simp only[zL])
 iterate 3 refine Zg ?_
 refine Zh ?_;(refine ZJ (oV lor 34 109 w.heap.size x.lks.l) (eI lor 34 109 w.heap.size x.lks.l) gK ?_ (s:=fun T wq kq ltq ae ub=>by exact(RN (c:=x.lks.c) (HX.out.1.lks.mod0 (m3.then0 ae)) (by have:=HX.out.2.lks;simpa[cT.con] using this)).mono (fun e w' h=>by obtain⟨v,h1,h2,h3⟩:=h;exact⟨v,h1,h3,sD h2 (m3.then0 ae).size⟩));rintro v34 ⟨wI,TI,hI⟩;replace gK:=gK.and ((eI lor 34 109 w.heap.size x.lks.l) v34);skip;(try clear hI TI wI);try simp only[zL])
 iterate 2 refine Zg ?_
 refine TG.nil (fun w4 ⟨TR,hr⟩=> ?_);replace kp1:=hr.q kp1;replace kp2:=hr.q kp2;clear gK;obtain⟨⟨⟨⟨_,Ic,Oe⟩,hN21,hT21⟩,hN26,hT26⟩,hN31,hT31⟩:=hr.k;have fx:∀g,TR g→g≠p1:=fun g hg e=>(hr.old g (e▸Lkp1) hg).elim;have hrm:=hr.mod;have m4:=m3.then0 hr.mod;obtain⟨a16,e16,_⟩:=Ic.at;obtain⟨a21,e21,_⟩:=hN21.at;obtain⟨a26,e26,_⟩:=hN26.at;obtain⟨a31,e31,_⟩:=hN31.at;subst e16;subst e21;subst e26;subst e31;have HN:=Hi (Ai Ic (Ai Oe (Ai hN21 (Ai hT21 (Ai hN26 (Ai hT26 (Ai hN31 (Ai hT31 (Ai fx hrm)))))))));clear hr Ic Oe hN21 hT21 hN26 hT26 hN31 hT31 fx hrm;generalize Jc:x.sg.l.length=l16 at *;generalize Jd:x.ks.l.length=l21 at *;generalize Ap:x.ins.l.length=l26 at *;generalize Aq:x.lks.l.length=l31 at *;refine Zz ?_;refine ZS ?_;refine ZM kp1 fun wn kp1 mS=> ?_;have kp2:=mS.at_ne kp2 qd;have mp:=mS;clear mS;refine Ze ?_;refine Ze ?_;refine Zz ?_;refine ZS ?_;refine ZM kp1 fun wn kp1 mS=> ?_;have kp2:=mS.at_ne kp2 qd;have mp:=mp.trans mS;clear mS;refine Ze ?_;refine Ze ?_;refine Zz ?_;refine ZS ?_;refine ZM kp1 fun wn kp1 mS=> ?_;have kp2:=mS.at_ne kp2 qd;have mp:=mp.trans mS;clear mS;refine Ze ?_;refine Ze ?_;refine Zz ?_;refine ZS ?_;refine ZN kp1 fun wn kp1 mS=> ?_;have kp2:=mS.at_ne kp2 qd;have mp:=mp.trans mS;clear mS;have m5:=m4.thenB mp (.inl gp1);obtain⟨y2,ti⟩:∃y2:cT,y2= {y1 with sg:=⟨a16,x.sg.l,l16⟩,ks:=⟨a21,x.ks.l,l21⟩,ins:=⟨a26,x.ins.l,l26⟩,lks:=⟨a31,x.lks.l,l31⟩}:=⟨_,rfl⟩;replace kp1:wn.heap[p1]? =some (.cells (b9 y2) 46 (0,0)):=by
  rw[SD x.sg.l Jc,SB x.ks.l Jd,NW x.ins.l Ap,NX x.lks.l Aq]at kp1;rw[ti];exact kp1
 have hins:y2.ins=⟨a26,x.ins.l,l26⟩:=by rw[ti]
 have hlks:y2.lks=⟨a31,x.lks.l,l31⟩:=by rw[ti]
 have HF:Hid (aZ uc 1 5 w.heap.size wn (.slice a5 lb lb) x.b.l∧aZ rcr 34 178 w.heap.size wn (.slice a8 lr lr) x.ro.l∧aZ sgc 64 92 w.heap.size wn (.slice a16 l16 l16) x.sg.l∧aZ kc 32 107 w.heap.size wn (.slice a21 l21 l21) x.ks.l∧aZ lor 34 109 w.heap.size wn (.slice a31 l31 l31) x.lks.l):=Hi (by
  obtain⟨q1,q2,q3,q4,q5,q6,q7,q8,q9,q10⟩:=HN.out;have iz:∀g,g<w3.heap.size→g≠p1→wn.heap[g]? =w3.heap[g]? :=fun g hg aw=>(mp.block g (aZd hg q10.size) aw).trans (q10.block g hg (fun h=>h));have dz:∀ {α:Type} {f:α→Wa} {n:Nat} {E:Wh} {v:Wg} {l:List α},E≠46→aZ f n E w.heap.size w3 v l→aZ f n E w.heap.size wn v l:=fun{α f n E v l} hE h=>by
   refine((h.mod0 q10).mod mp (fun g hg e=> ?_));obtain⟨c,kc⟩:=(h.mod0 q10).ty hg;subst e;have:=q10.at0 Uq.out;rw[this]at kc;injection kc with kc
   injection kc with _ kc
   exact hE kc.symm
  exact⟨dz (by decide) Cz.out.1,dz (by decide) Cz.out.2,q1.mod mp (fun g hg=>q9 g (q2 g hg)),q3.mod mp (fun g hg=>q9 g (q4 g hg)),q7.mod mp (fun g hg=>q9 g (q8 g hg))⟩)
 have Ui:Hid (WU w.heap.size wn (.slice a26 l26 l26) x.ins.l x.ins.l 0):=Hi (by
  obtain⟨q1,q2,q3,q4,q5,q6,q7,q8,q9,q10⟩:=HN.out;exact⟨rfl,q5.mod mp (fun g hg=>q9 g (q6 g hg)),fun j y z hj=>by omega,fun _ _=>rfl⟩)
 have Ux:=Hi ti;have cr:=Hi (Ai Jc (Ai Jd (Ai Ap Aq)));obtain⟨w5,rfl⟩:∃w5:We,w5=wn:=⟨_,rfl⟩;have hB26:l26≤1000000:=by have:=HX.out.2.ins;rw[←Ap];simpa[cT.con] using this
 have hB31:l31≤1000000:=by have:=HX.out.2.lks;rw[←Aq];simpa[cT.con] using this
 clear HN mp m4 ti Jc Jd hysg hyks hyin hylk Cz;go_wp2_with fail;go_loopw [53,4,5] (fun s53 s4 s5 ws=>∃(i:Nat) (L:List oU),i≤l26∧s53= .int .i64 (i:Int)∧Hid (WU w.heap.size ws (.slice a26 l26 l26) x.ins.l L i)∧Mod (fun b=>(Value.slice a26 l26 l26).ownBlock=some b) w5 ws∧Mod (fun _=>False) w ws∧ws.heap[p1]? =some (.cells (b9 y2) 46 (0,0))∧ws.heap[p2]? =some (.cells LA 46 (0,0))) (fun s53 _ _ _=>l26-(intOf s53).toNat)
 case atStart=>exact⟨0,x.ins.l,by omega,rfl,Ui,Mod.refl _ _,m5,kp1,kp2⟩
 case round=>
  obtain⟨i,L,hi,rfl,HP,wh,qa,kp1,kp2⟩:=hrel;by_cases hlt:i<l26
  ·obtain⟨z,hz⟩:∃z,x.ins.l[i]? =some z:=⟨_,aZb (by have:=cr.out;omega)⟩;have um:L[i]? =some z:=by rw[HP.out.rest i (aZq _),hz]
   have fp:L.length=l26:=by rw[HP.out.len];have:=cr.out;omega
   obtain⟨g,cur,hv,Ae,kg,bk⟩:∃g cur,Value.slice a26 l26 l26= .slice (some ⟨g,0,none⟩) l26 l26∧w.heap.size≤g∧wr.heap[g]? =some (.cells cur 106 (0,0))∧∀(j:Nat) y,L[j]? =some y→cur.extract (j*3) (j*3+3)=inr y∧j*3+3≤cur.size:=by
    rcases HP.out.rows with⟨_,h⟩|⟨g,cur,h1,h2,h3,h4⟩
    ·rw[h]at um;cases um
    ·rw[fp]at h1;exact⟨g,cur,h1,h2,h3,h4⟩
   injection hv with hv _ _
   obtain⟨he,dh⟩:=bk i z um;have Af:g≠p1:=aB kg kp1 (aM (by decide));have Ag:g≠p2:=aB kg kp2 (aM (by decide));have Ub:z∈x.ins.l:=aZi hz;have vl:=HX.out.1.insB z Ub;have Fg:z.a.l.length≤1000000∧z.d.l.length≤1000000:=HX.out.2.insB z.con (by show _∈x.ins.l.map _;exact aZj.2 ⟨z,Ub,rfl⟩);have nh:cur[i*3+1]? =some (.slice z.a.a z.a.l.length z.a.c):=jV he (j:=1) (VD z);have pp:cur[i*3+2]? =some (.slice z.d.a z.d.l.length z.d.c):=jV he (j:=2) (VF z);have HZ:=Hi (Ai hz (Ai um (Ai fp (Ai Ae (Ai bk (Ai vl (Ai Fg hv)))))));obtain⟨wa,rfl⟩:∃wa:We,wa=wr:=⟨_,rfl⟩;have Qg:=cr.out;clear bk vl Fg hz um fp;go_upto_region 6 with fail;have Lkp1:=aA kp1;have Lkp2:=aA kp2;have Lkg:=aA kg;refine ZP0 [0,0,1,3,0,4] ?_
   iterate 3 first|refine Zv ?_|refine Zd ?_
   refine Za XI fun p5 ip=> ?_;refine Zv ?_;refine Zt ?_;refine TD.nil (fun w6 hr=> ?_);replace kp1:=hr.q kp1;replace kp2:=hr.q kp2;replace kg:=hr.q kg;obtain⟨gp5,kp5⟩:=hr.b p5;have mA:=hr.mod;clear hr;go_upto_region 7 with fail;have kgA:=kg;have Lkp1:=aA kp1;have Lkp2:=aA kp2;have Lkg:=aA kg;have Lkp5:=aA kp5;refine wp_region_any (by kernel_rfl) ?_;change wpAny _ .any _ _ 22 _ _ _;(refine gH (i:=9) (v:= ?v53) (by simp only[zK];rfl) (by kernel_rfl) (fun _ _ d _ _ h=>by cases d<;>first|exact h|exact absurd h (hP _ _ _)) ?hw53 (fun w1=> ?y53) ?n53;(case hw53=>rfl);(case y53=>go_simp;try with_reducible rfl);try simp only[zL]);refine y9 (T0:=fun _=>False) (K:=fun _ _=>True) (κ:=fun i=>[0,0,0,0,0,0,0,0,0,0,0,0,6,0,0,6,0,0,6,0,0,6].getD i 0) (υ:=fun _=>[]) (fun _ _ d _ _ h=>by cases d<;>first|exact h|exact absurd h (hP _ _ _)) [0,1,2,3,4,5,6,7,8,10,11,12,13,14,15,16,17] [18,19,20,21] (by kernel_rfl) (aH.true).cl (vM (aH.true).cl (trivial) (fun _ h=>h.elim)) ?_;have gK:=aH.true
   iterate 11 first|refine Zg ?_|refine Zh ?_
   (refine ZJ (oV uc 1 5 w.heap.size z.a.l) (eI uc 1 5 w.heap.size z.a.l) gK ?_ (s:=fun T wq kq ltq ae ub=>by exact(rG (c:=z.a.c) (HZ.out.2.2.2.2.2.1.1.mod0 ((qa.then0 mA).then0 ae)) HZ.out.2.2.2.2.2.2.1.1).mono (fun e w' h=>by obtain⟨v,h1,h2,h3⟩:=h;exact⟨v,h1,h3,sD h2 ((qa.then0 mA).then0 ae).size⟩));rintro v65 ⟨wI,TI,hI⟩;replace gK:=gK.and ((eI uc 1 5 w.heap.size z.a.l) v65);skip;(try clear hI TI wI);try simp only[zL]);refine Zg ?_;refine Zh ?_;(refine ZJ (oV uc 1 5 w.heap.size z.d.l) (eI uc 1 5 w.heap.size z.d.l) gK ?_ (s:=fun T wq kq ltq ae ub=>by exact(rG (c:=z.d.c) (HZ.out.2.2.2.2.2.1.2.mod0 ((qa.then0 mA).then0 ae)) HZ.out.2.2.2.2.2.2.1.2).mono (fun e w' h=>by obtain⟨v,h1,h2,h3⟩:=h;exact⟨v,h1,h3,sD h2 ((qa.then0 mA).then0 ae).size⟩));rintro v68 ⟨wI,TI,hI⟩;replace gK:=gK.and ((eI uc 1 5 w.heap.size z.d.l) v68);skip;(try clear hI TI wI);try simp only[zL])
   iterate 2 refine Zg ?_
   refine TG.nil (fun w7 ⟨TR,hr⟩=> ?_);replace kp1:=hr.q kp1;replace kp2:=hr.q kp2;replace kg:=hr.q kg;replace kp5:=hr.q kp5;clear gK;obtain⟨⟨_,zj,xh⟩,zk,yq⟩:=hr.k;have vx:∀g',TR g'→g'≠g:=fun g' hg e=>(hr.old g (aA kgA) (e▸hg)).elim;have mB:=mA.then0 hr.mod;have kgB:=kg;obtain⟨aa,ea,_⟩:=zj.at;obtain⟨ab,eb,_⟩:=zk.at;subst ea;subst eb;have HN:=Hi (Ai zj (Ai xh (Ai zk (Ai yq vx))));clear hr zj xh zk yq vx;refine Zz ?_;refine ZS ?_;refine ZM kg fun wn kg mS=> ?_;replace kp1:=mS.at_ne kp1 (Ne.symm Af);replace kp2:=mS.at_ne kp2 (Ne.symm Ag);have mp:=mS;clear mS;refine Ze ?_;refine Ze ?_;refine Zz ?_;refine ZS ?_;refine ZN kg fun wn kg mS=> ?_;replace kp1:=mS.at_ne kp1 (Ne.symm Af);replace kp2:=mS.at_ne kp2 (Ne.symm Ag);have mq:=mp.trans mS;clear mS;have Yc:Hid (WU w.heap.size wn (.slice a26 l26 l26) x.ins.l (L.set i ⟨z.p,⟨aa,z.a.l,z.a.l.length⟩,⟨ab,z.d.l,z.d.l.length⟩⟩) (i+1)):=Hi (by
    obtain⟨hz,um,fp,Ae,bk,_,_,hv⟩:=HZ.out;obtain⟨zj,xh,zk,yq,vx⟩:=HN.out;have hiL:i<L.length:=by rw[fp];exact hlt
    refine⟨by rw[aZn];exact HP.out.len,.inr ⟨g,_,by rw[aZn,fp,hv],Ae,kg,?_⟩,fun j y z' hj hy Kx=> ?_,fun j hj=> ?_⟩
    ·exact tH xJ bk um (by omega) (by omega) (MW z ⟨aa,z.a.l,z.a.l.length⟩ ⟨ab,z.d.l,z.d.l.length⟩)
    ·by_cases hji:j=i
     ·subst hji;rw[List.getElem?_set_self hiL]at hy;rw[hz]at Kx;cases hy;cases Kx;exact⟨rfl,zj.mod mq (fun g' gj=>vx g' (xh g' gj)),zk.mod mq (fun g' gj=>vx g' (yq g' gj))⟩
     ·rw[aZ0 (fun e=>hji e.symm)]at hy;refine((HP.out.done j y z' (by omega) hy Kx).mod mB (fun _ _ _ h=>h)).mod mq (fun g' c k e=> ?_);subst e;rw[kgB]at k;injection k with k
      injection k with _ k
      exact absurd k (by decide)
    ·rw[aZ0 (by omega)];exact HP.out.rest j (by omega))
   have Qj:Mod (fun b=>(Value.slice a26 l26 l26).ownBlock=some b) w5 wn:=(wh.then0 mB).then mq (fun b _ e=>by
    subst e;rw[hv];rfl)
   have Av:Mod (fun _=>False) w wn:=(qa.then0 mB).thenB mq (.inl HZ.out.2.2.2.1);have HQ:=Hi (Ai hv (Ai kp1 (Ai kp2 (Ai Qj Av))));clear hv kp1 kp2 Qj Av;have Ek:l26-(i+1)<l26-i:=by omega
   have HIi:=Hi (show(i:Int)+1=((i+1:Nat):Int)by omega);have HMs:=Hi Ek;clear Ek;go_wp2_with fail;go_roundw
   case rel=>exact⟨i+1,_,hlt,by go_num,Yc,HQ.out.2.2.2.1,HQ.out.2.2.2.2,HQ.out.2.1,HQ.out.2.2.1⟩
   case measure=>simp[intOf];omega
  ·have yu:i=l26:=by omega
   have Rs:∀j:Nat,i=j→Hid (WU w.heap.size wr (.slice a26 l26 l26) x.ins.l L j):=fun j e=>by
    subst e;exact HP
   have Bz:=Rs _ yu;clear Rs;clear HP;have HG:Hid (aZ uc 1 5 w.heap.size wr (.slice a5 lb lb) x.b.l∧aZ rcr 34 178 w.heap.size wr (.slice a8 lr lr) x.ro.l∧aZ sgc 64 92 w.heap.size wr (.slice a16 l16 l16) x.sg.l∧aZ kc 32 107 w.heap.size wr (.slice a21 l21 l21) x.ks.l∧aZ lor 34 109 w.heap.size wr (.slice a31 l31 l31) x.lks.l):=Hi (by
    obtain⟨f1,f2,f3,f4,f5⟩:=HF.out;have h0:=Ui.out.rows;exact⟨f1.other h0 (by decide) wh,f2.other h0 (by decide) wh,f3.other h0 (by decide) wh,f4.other h0 (by decide) wh,f5.other h0 (by decide) wh⟩)
   have HJ0:Hid (WV w.heap.size wr (.slice a31 l31 l31) x.lks.l x.lks.l 0):=Hi ⟨rfl,HG.out.2.2.2.2,fun j y z hj=>by omega,fun _ _=>rfl⟩;have m5:=qa;obtain⟨LI,hLI⟩:∃LI,LI=L:=⟨_,rfl⟩;subst hLI;have Db:=Bz;clear Bz;obtain⟨wb,rfl⟩:∃wb:We,wb=wr:=⟨_,rfl⟩;clear qa wh;go_wp2_with fail;clear yu hi hlt;go_loopw [84,6,7] (fun s84 s6 s7 ws=>∃(i:Nat) (L:List o8),i≤l31∧s84= .int .i64 (i:Int)∧Hid (WV w.heap.size ws (.slice a31 l31 l31) x.lks.l L i)∧Mod (fun b=>(Value.slice a31 l31 l31).ownBlock=some b) wb ws∧Mod (fun _=>False) w ws∧ws.heap[p1]? =some (.cells (b9 y2) 46 (0,0))∧ws.heap[p2]? =some (.cells LA 46 (0,0))) (fun s84 _ _ _=>l31-(intOf s84).toNat)
   case atStart=>exact⟨0,x.lks.l,by omega,rfl,HJ0,Mod.refl _ _,m5,kp1,kp2⟩
   case round=>
    obtain⟨i,L,hi,rfl,HP,wh,qa,kp1,kp2⟩:=hrel;by_cases hlt:i<l31
    ·obtain⟨z,hz⟩:∃z,x.lks.l[i]? =some z:=⟨_,aZb (by have:=cr.out;omega)⟩;have um:L[i]? =some z:=by rw[HP.out.rest i (aZq _),hz]
     have fp:L.length=l31:=by rw[HP.out.len];have:=cr.out;omega
     obtain⟨g,cur,hv,Ae,kg,bk⟩:∃g cur,Value.slice a31 l31 l31= .slice (some ⟨g,0,none⟩) l31 l31∧w.heap.size≤g∧wr.heap[g]? =some (.cells cur 109 (0,0))∧∀(j:Nat) y,L[j]? =some y→cur.extract (j*34) (j*34+34)=lor y∧j*34+34≤cur.size:=by
      rcases HP.out.rows with⟨_,h⟩|⟨g,cur,h1,h2,h3,h4⟩
      ·rw[h]at um;cases um
      ·rw[fp]at h1;exact⟨g,cur,h1,h2,h3,h4⟩
     injection hv with hv _ _
     obtain⟨he,dh⟩:=bk i z um;have Af:g≠p1:=aB kg kp1 (aM (by decide));have Ag:g≠p2:=aB kg kp2 (aM (by decide));have Ub:z∈x.lks.l:=aZi hz;have vl:=HX.out.1.lksB z Ub;have Fg:z.w.l.length≤1000000∧z.r.l.length≤1000000:=HX.out.2.lksB z.con (by show _∈x.lks.l.map _;exact aZj.2 ⟨z,Ub,rfl⟩);have nh:cur[i*34+32]? =some (.slice z.w.a z.w.l.length z.w.c):=jV he (j:=32) (Q4 z);have pp:cur[i*34+33]? =some (.slice z.r.a z.r.l.length z.r.c):=jV he (j:=33) (Q5 z);have HZ:=Hi (Ai hz (Ai um (Ai fp (Ai Ae (Ai bk (Ai vl (Ai Fg hv)))))));obtain⟨wa,rfl⟩:∃wa:We,wa=wr:=⟨_,rfl⟩;have Qg:=cr.out;clear bk vl Fg hz um fp;go_upto_region 11 with fail;have Lkp1:=aA kp1;have Lkp2:=aA kp2;have Lkg:=aA kg;refine ZP0 [0,0,1,3,0,4] ?_
     iterate 3 first|refine Zv ?_|refine Zd ?_
     refine Za XJ fun p7 Gw=> ?_;refine Zv ?_;refine Zt ?_;refine TD.nil (fun w6 hr=> ?_);replace kp1:=hr.q kp1;replace kp2:=hr.q kp2;replace kg:=hr.q kg;obtain⟨gp7,kp7⟩:=hr.b p7;have mA:=hr.mod;clear hr;go_upto_region 12 with fail;have kgA:=kg;have Lkp1:=aA kp1;have Lkp2:=aA kp2;have Lkg:=aA kg;have Lkp7:=aA kp7;refine wp_region_any (by kernel_rfl) ?_;change wpAny _ .any _ _ 22 _ _ _;(refine gH (i:=9) (v:= ?v81) (by simp only[zK];rfl) (by kernel_rfl) (fun _ _ d _ _ h=>by cases d<;>first|exact h|exact absurd h (hP _ _ _)) ?hw81 (fun w1=> ?y81) ?n81;(case hw81=>rfl);(case y81=>go_simp;try with_reducible rfl);try simp only[zL]);refine y9 (T0:=fun _=>False) (K:=fun _ _=>True) (κ:=fun i=>[0,0,0,0,0,0,0,0,0,0,0,0,6,0,0,6,0,0,6,0,0,6].getD i 0) (υ:=fun _=>[]) (fun _ _ d _ _ h=>by cases d<;>first|exact h|exact absurd h (hP _ _ _)) [0,1,2,3,4,5,6,7,8,10,11,12,13,14,15,16,17] [18,19,20,21] (by kernel_rfl) (aH.true).cl (vM (aH.true).cl (trivial) (fun _ h=>h.elim)) ?_;have gK:=aH.true
     iterate 11 first|refine Zg ?_|refine Zh ?_
     (refine ZJ (oV uc 1 5 w.heap.size z.w.l) (eI uc 1 5 w.heap.size z.w.l) gK ?_ (s:=fun T wq kq ltq ae ub=>by exact(rG (c:=z.w.c) (HZ.out.2.2.2.2.2.1.1.mod0 ((qa.then0 mA).then0 ae)) HZ.out.2.2.2.2.2.2.1.1).mono (fun e w' h=>by obtain⟨v,h1,h2,h3⟩:=h;exact⟨v,h1,h3,sD h2 ((qa.then0 mA).then0 ae).size⟩));rintro v93 ⟨wI,TI,hI⟩;replace gK:=gK.and ((eI uc 1 5 w.heap.size z.w.l) v93);skip;(try clear hI TI wI);try simp only[zL]);refine Zg ?_;refine Zh ?_;(refine ZJ (oV uc 1 5 w.heap.size z.r.l) (eI uc 1 5 w.heap.size z.r.l) gK ?_ (s:=fun T wq kq ltq ae ub=>by exact(rG (c:=z.r.c) (HZ.out.2.2.2.2.2.1.2.mod0 ((qa.then0 mA).then0 ae)) HZ.out.2.2.2.2.2.2.1.2).mono (fun e w' h=>by obtain⟨v,h1,h2,h3⟩:=h;exact⟨v,h1,h3,sD h2 ((qa.then0 mA).then0 ae).size⟩));rintro v96 ⟨wI,TI,hI⟩;replace gK:=gK.and ((eI uc 1 5 w.heap.size z.r.l) v96);skip;(try clear hI TI wI);try simp only[zL])
     iterate 2 refine Zg ?_
     refine TG.nil (fun w7 ⟨TR,hr⟩=> ?_);replace kp1:=hr.q kp1;replace kp2:=hr.q kp2;replace kg:=hr.q kg;replace kp7:=hr.q kp7;clear gK;obtain⟨⟨_,zj,xh⟩,zk,yq⟩:=hr.k;have vx:∀g',TR g'→g'≠g:=fun g' hg e=>(hr.old g (aA kgA) (e▸hg)).elim;have mB:=mA.then0 hr.mod;have kgB:=kg;obtain⟨aa,ea,_⟩:=zj.at;obtain⟨ab,eb,_⟩:=zk.at;subst ea;subst eb;have HN:=Hi (Ai zj (Ai xh (Ai zk (Ai yq vx))));clear hr zj xh zk yq vx;refine Zz ?_;refine ZS ?_;refine ZM kg fun wn kg mS=> ?_;replace kp1:=mS.at_ne kp1 (Ne.symm Af);replace kp2:=mS.at_ne kp2 (Ne.symm Ag);have mp:=mS;clear mS;refine Ze ?_;refine Ze ?_;refine Zz ?_;refine ZS ?_;refine ZN kg fun wn kg mS=> ?_;replace kp1:=mS.at_ne kp1 (Ne.symm Af);replace kp2:=mS.at_ne kp2 (Ne.symm Ag);have mq:=mp.trans mS;clear mS;have Yc:Hid (WV w.heap.size wn (.slice a31 l31 l31) x.lks.l (L.set i ⟨z.t,⟨aa,z.w.l,z.w.l.length⟩,⟨ab,z.r.l,z.r.l.length⟩⟩) (i+1)):=Hi (by
      obtain⟨hz,um,fp,Ae,bk,_,_,hv⟩:=HZ.out;obtain⟨zj,xh,zk,yq,vx⟩:=HN.out;have hiL:i<L.length:=by rw[fp];exact hlt
      refine⟨by rw[aZn];exact HP.out.len,.inr ⟨g,_,by rw[aZn,fp,hv],Ae,kg,?_⟩,fun j y z' hj hy Kx=> ?_,fun j hj=> ?_⟩
      ·exact tH mK bk um (by omega) (by omega) (NB z ⟨aa,z.w.l,z.w.l.length⟩ ⟨ab,z.r.l,z.r.l.length⟩)
      ·by_cases hji:j=i
       ·subst hji;rw[List.getElem?_set_self hiL]at hy;rw[hz]at Kx;cases hy;cases Kx;exact⟨rfl,zj.mod mq (fun g' gj=>vx g' (xh g' gj)),zk.mod mq (fun g' gj=>vx g' (yq g' gj))⟩
       ·rw[aZ0 (fun e=>hji e.symm)]at hy;refine((HP.out.done j y z' (by omega) hy Kx).mod mB (fun _ _ _ h=>h)).mod mq (fun g' c k e=> ?_);subst e;rw[kgB]at k;injection k with k
        injection k with _ k
        exact absurd k (by decide)
      ·rw[aZ0 (by omega)];exact HP.out.rest j (by omega))
     have Qj:Mod (fun b=>(Value.slice a31 l31 l31).ownBlock=some b) wb wn:=(wh.then0 mB).then mq (fun b _ e=>by
      subst e;rw[hv];rfl)
     have Av:Mod (fun _=>False) w wn:=(qa.then0 mB).thenB mq (.inl HZ.out.2.2.2.1);have HQ:=Hi (Ai hv (Ai kp1 (Ai kp2 (Ai Qj Av))));clear hv kp1 kp2 Qj Av;have Ek:l31-(i+1)<l31-i:=by omega
     have HIi:=Hi (show(i:Int)+1=((i+1:Nat):Int)by omega);have HMs:=Hi Ek;clear Ek;go_wp2_with fail;go_roundw
     case rel=>exact⟨i+1,_,hlt,by go_num,Yc,HQ.out.2.2.2.1,HQ.out.2.2.2.2,HQ.out.2.1,HQ.out.2.2.1⟩
     case measure=>simp[intOf];omega
    ·have yu:i=l31:=by omega
     have Rs:∀j:Nat,i=j→Hid (WV w.heap.size wr (.slice a31 l31 l31) x.lks.l L j):=fun j e=>by
      subst e;exact HP
     have Bz:=Rs _ yu;clear Rs;clear HP;have Xp:Hid (∃C,wr.heap[p2]? =some (.cells C 46 (0,0))):=Hi ⟨_,kp2⟩;have HML:=Hi wh;go_upto_region 14 with fail;have Lkp1:=aA kp1;have Lkp2:=aA kp2;refine ZP0 [1,5] ?_;refine Zd ?_;refine Zi fun wE hr=> ?_;replace kp1:=hr.mod.at0 kp1;replace kp2:=hr.mod.at0 kp2;have mE:=hr.mod;refine ZS ?_;refine ZN kp2 fun w9 kp2 mS=> ?_;(try simp only[Array.setIfInBounds,zL]at kp2);replace kp1:=mS.at_ne kp1 (by omega);have m9:=(qa.then0 mE).thenB mS (.inl gp2);clear hr;go_wp2_with fail;have mp2:Mod (fun i=>i=p2) wr w9:=(mE.mono (fun _ _ h=>h.elim)).trans mS;have HK:Hid (∃C,wr.heap[p2]? =some (.cells C 46 (0,0))):=Xp;have ay:Hid (aZ uc 1 5 w.heap.size w9 (.slice a5 lb lb) x.b.l∧aZ sgc 64 92 w.heap.size w9 (.slice a16 l16 l16) x.sg.l∧aZ kc 32 107 w.heap.size w9 (.slice a21 l21 l21) x.ks.l∧aZ inr 3 106 w.heap.size w9 (.slice a26 l26 l26) LI∧
       (∀y∈LI,aZ uc 1 5 w.heap.size w9 (.slice y.a.a y.a.l.length y.a.c) y.a.l∧aZ uc 1 5 w.heap.size w9 (.slice y.d.a y.d.l.length y.d.c) y.d.l)∧aZ lor 34 109 w.heap.size w9 (.slice a31 l31 l31) L∧
       (∀y∈L,aZ uc 1 5 w.heap.size w9 (.slice y.w.a y.w.l.length y.w.c) y.w.l∧aZ uc 1 5 w.heap.size w9 (.slice y.r.a y.r.l.length y.r.c) y.r.l)∧aZ rcr 34 178 w.heap.size w9 (.slice a8 lr lr) x.ro.l):=Hi (by
      obtain⟨f1,f2,f3,f4,_⟩:=HG.out;obtain⟨C,kC⟩:=HK.out;have hJ:=HJ0.out.rows;have up:∀ {α:Type} {f:α→Wa} {n:Nat} {E:Wh} {v:Wg} {l:List α},E≠109→E≠46→aZ f n E w.heap.size wb v l→aZ f n E w.heap.size w9 v l:=fun{α f n E v l} h1 h2 h=>(h.other hJ h1 HML.out).offT kC h2 mp2;have up2:∀ {α:Type} {f:α→Wa} {n:Nat} {E:Wh} {v:Wg} {l:List α},E≠46→aZ f n E w.heap.size wr v l→aZ f n E w.heap.size w9 v l:=fun{α f n E v l} h2 h=>h.offT kC h2 mp2;have g26:∀y∈LI,EI w.heap.size wb y y:=fun y hy=>by
       obtain⟨j,hj⟩:=aZ8.1 hy;have tx:=(aZa.1 hj).1;have Ja:=aZb (l:=x.ins.l) (i:=j) (by rw[←Db.out.len];exact tx);obtain⟨_,q1,q2⟩:=Db.out.done j y _ (by rw[←Ap,←Db.out.len];exact tx) hj Ja;exact⟨rfl,q1,q2⟩
      have g31:∀y∈L,EL w.heap.size wr y y:=fun y hy=>by
       obtain⟨j,hj⟩:=aZ8.1 hy;have tx:=(aZa.1 hj).1;have Ja:=aZb (l:=x.lks.l) (i:=j) (by rw[←Bz.out.len];exact tx);obtain⟨_,q1,q2⟩:=Bz.out.done j y _ (by rw[←Aq,←Bz.out.len];exact tx) hj Ja;exact⟨rfl,q1,q2⟩
      exact⟨up (by decide) (by decide) f1,up (by decide) (by decide) f3,up (by decide) (by decide) f4,up (by decide) (by decide) Db.out.rows,fun y hy=>⟨up (by decide) (by decide) (g26 y hy).2.1,up (by decide) (by decide) (g26 y hy).2.2⟩,up2 (by decide) Bz.out.rows,
       fun y hy=>⟨up2 (by decide) (g31 y hy).2.1,up2 (by decide) (g31 y hy).2.2⟩,up (by decide) (by decide) f2⟩)
     obtain⟨y,hy⟩:∃y:cT,y=⟨⟨a5,x.b.l,lb⟩,⟨a16,x.sg.l,l16⟩,x.v0,x.h0,x.h1,x.h2,⟨a21,x.ks.l,l21⟩,x.rc,⟨a26,LI,l26⟩,⟨a31,L,l31⟩,⟨a8,x.ro.l,lr⟩,x.un,x.pr,x.bad,x.fee,x.cost,x.prio⟩:=⟨_,rfl⟩;have ud:b9 y2=b9 y:=by
      rw[hy,Ux.out,HY1.out];unfold b9 dF eV;simp only[Db.out.len,Bz.out.len]
     rw[ud]at kp2;refine bodyPost_ret (results_cell1 (v:= .agg (b9 y)) rfl rfl (by rw[jX];simp[kp2,dZ,bI])) rfl ⟨y,rfl,?_,?_,m9⟩
     ·rw[hy];unfold cT.con;simp only;rw[tD Db.out.len (fun j a b ha hb=>(Db.out.done j a b (by rw[←Ap];exact(aZa.1 hb).1) ha hb).1),tD Bz.out.len (fun j a b ha hb=>(Bz.out.done j a b (by rw[←Aq];exact(aZa.1 hb).1) ha hb).1)]
     ·have HE:=ay.out;obtain⟨e1,e2,e3,e4,e5,e6,e7,e8⟩:=HE;rw[hy];exact⟨e1.norm,e2.norm,e3.norm,e4.norm,fun y' ja=>⟨(e5 y' ja).1.norm,(e5 y' ja).2.norm⟩,e6.norm,fun y' ja=>⟨(e7 y' ja).1.norm,(e7 y' ja).2.norm⟩,e8.norm⟩
end
section
attribute [local go_sem] kc_size
theorem P0 (w:We):(Instr.buildSlice 53 0 #[]).run Tryz.prog w= .ok (.slice (some ⟨w.heap.size,0,none⟩) 0 0) (w.alloc (.cells #[] 3)):=by kernel_rfl
theorem G6 (w:We) (a:Wb) (n c:Nat):(binOp .eql 53 (.slice a n c) (.slice none 0 0)).run Tryz.prog w= .ok (.bool a.isNone) w:=by
 cases a<;>kernel_rfl
theorem yY {w:We} {a:Wb} {l:Wc} {c:Nat} (hl:aS ic 1 w a l) (ag:l.length≤1000000):Calls Tryz.prog 64 #[.slice a l.length c] w fun e w'=>∃v,e= .returned v∧aE ic 1 3 w' w.heap.size v l∧Mod (fun _=>False) w w':=by
 have he:=G6;cases a with
 |none=>
  obtain rfl:l=[]:=by
   rcases hl with h|⟨_,_,_,_,_,h,_⟩
   ·exact h
   ·cases h
  go_enter Tryz.func64,Tryz.ntmps64;go_wp2_with fail;go_ret;exact⟨_,rfl,aE.nil _ _,Mod.refl _ _⟩
 |some p=>
  have HL:=Hi hl;have ep:=P0;generalize bw:l.length=ll at *;have cr:=Hi bw;clear hl bw;go_enter Tryz.func64,Tryz.ntmps64;go_upto_region 3 with fail;refine ZP0 [3,0,5,0] ?_;refine Zy ep fun p5 ip=> ?_;refine Zv ?_;refine Zi fun w1 hr=> ?_;obtain⟨gp5,kp5⟩:=hr.b p5;have m1:=hr.mod;clear hr;obtain⟨v3,w6,az,im,m6,ju⟩:=aE.append gL (c:=c) (mM (f:=ic) (n:=1) gp5 kp5) (HL.out.mod0 m1) (by simp;have:=cr.out;omega) (by decide) m1.size 53;have mF:Mod (fun _=>False) w w6:=m1.then m6 (fun i hi e=>by
   have e2:p5=i:=aZz e;omega)
  rw[cr.out]at az;have HO:=Hi im;clear ju m6 im;refine ZA az ?_;refine Ze ?_;refine TE.nil ?_;go_wp2_with fail;go_ret;exact⟨_,rfl,HO.out,mF⟩
def WS (T:Nat→Prop) (cb:Nat) (w:We) (v:Wg) (b:Wc):Prop:=aZ ic 1 3 0 w v b∧∀g,v.ownBlock=some g→T g∧g≠cb
def sumB (q:List (Wc)):Nat:=(q.map List.length).sum
structure wC (n lb cb:Nat) (R:List Rg) (V:List (List Wg)) (Q:List (List (Wc))) (N:Wd) (T:Nat→Prop) (w:We):Prop where
 kl:w.heap[lb]? =some (.cells (cellsOf J3 R).toArray 174 (0,0))
 kc:w.heap[cb]? =some (.cells (N.map fun q:Nat=>Value.int .i64 (q:Int)).toArray 3 (0,0))
 nr:R.length=n
 nv:V.length=n
 nq:Q.length=n
 nn:N.length=n
 tl:T lb
 tc:T cb
 rg:∀(j:Nat) r vs,R[j]? =some r→V[j]? =some vs→wH T w r vs
 bt:∀(j:Nat) vs q,V[j]? =some vs→Q[j]? =some q→vs.length=q.length∧∀(i:Nat) v b,vs[i]? =some v→q[i]? =some b→WS T cb w v b
 ap:∀(i j:Nat) r s,i≠j→R[i]? =some r→R[j]? =some s→∀g,r.v.ownBlock=some g→s.v.ownBlock≠some g
def nE (p n:Nat) (Q:List (List (Wc))):aK:=fun T w=>∃lb cb R V T',w.heap[p]? =some (.cells #[.slice (some ⟨lb,0,none⟩) n n,.slice (some ⟨cb,0,none⟩) n n] 171 (0,0))∧T p∧wC n lb cb R V Q (Q.map sumB) T' w∧∀i,T' i→T i∧i≠p
theorem mO (r:Rg):(J3 r).size=3:=rfl
theorem wH.ty {T:Nat→Prop} {w:We} {r:Rg} {vs:List Wg} (h:wH T w r vs) {g:Nat} (hg:r.v.ownBlock=some g):∃cur,w.heap[g]? =some (.cells cur 53 (0,0)):=by
 rcases h.2 with⟨h1,_⟩|⟨b,k,h1,_,_,h2⟩
 ·rw[h1]at hg;cases hg
 ·rw[h1]at hg;cases hg;exact⟨_,h2⟩
theorem wH.mod {T S:Nat→Prop} {w w':We} {r:Rg} {vs:List Wg} (h:wH T w r vs) (hm:Mod S w w') (hS:∀g,r.v.ownBlock=some g→¬S g):wH T w' r vs:=by
 refine⟨h.1,h.2.imp id ?_⟩;rintro⟨b,k,h1,h2,h3,h4⟩;exact⟨b,k,h1,h2,h3,hm.at h4 (hS b (by rw[h1];rfl))⟩
theorem wH.mono {T T':Nat→Prop} {w:We} {r:Rg} {vs:List Wg} (h:wH T w r vs) (hT:∀i,T i→T' i):wH T' w r vs:=by
 refine⟨h.1,h.2.imp id ?_⟩;rintro⟨b,k,h1,h2,h3,h4⟩;exact⟨b,k,h1,hT b h2,h3,h4⟩
theorem wH.own {T:Nat→Prop} {w:We} {r:Rg} {vs:List Wg} (h:wH T w r vs) {g:Nat} (hg:r.v.ownBlock=some g):T g:=by
 rcases h.2 with⟨h1,_⟩|⟨b,k,h1,h3,_⟩
 ·rw[h1]at hg;cases hg
 ·rw[h1]at hg;cases hg;exact h3
theorem wC.good (n lb cb:Nat) (R:List Rg) (V:List (List Wg)) (Q:List (List (Wc))) (N:Wd):aH (wC n lb cb R V Q N) where
 cl:=fun T w w' h hm=>⟨hm.at h.kl (fun e=>e h.tl),hm.at h.kc (fun e=>e h.tc),h.nr,h.nv,h.nq,h.nn,h.tl,h.tc,fun j r vs h1 h2=>(h.rg j r vs h1 h2).mod hm (fun g hg e=>e ((h.rg j r vs h1 h2).own hg)),
  fun j vs q h1 h2=>⟨(h.bt j vs q h1 h2).1,fun i v b h3 h4=>by
   obtain⟨k1,k2⟩:=(h.bt j vs q h1 h2).2 i v b h3 h4;exact⟨k1.mod hm (fun g hg e=>e (k2 g hg).1),k2⟩⟩,h.ap⟩
 gr:=fun T T' w hT h=>⟨h.kl,h.kc,h.nr,h.nv,h.nq,h.nn,hT _ h.tl,hT _ h.tc,fun j r vs h1 h2=>(h.rg j r vs h1 h2).mono hT,
  fun j vs q h1 h2=>⟨(h.bt j vs q h1 h2).1,fun i v b h3 h4=>by
   obtain⟨k1,k2⟩:=(h.bt j vs q h1 h2).2 i v b h3 h4;exact⟨k1,fun g hg=>⟨hT g (k2 g hg).1,(k2 g hg).2⟩⟩⟩,h.ap⟩
theorem nE.good (p n:Nat) (Q:List (List (Wc))):aH (nE p n Q) where
 cl:=fun T w w' ⟨lb,cb,R,V,T',h1,h2,h3,h4⟩ hm=>⟨lb,cb,R,V,T',hm.at h1 (fun e=>e h2),h2,(wC.good _ _ _ _ _ _ _).cl _ _ _ h3 (hm.mono (fun i _ hn ht=>hn (h4 i ht).1)),h4⟩
 gr:=fun T T2 w hT ⟨lb,cb,R,V,T',h1,h2,h3,h4⟩=>⟨lb,cb,R,V,T',h1,hT _ h2,h3,fun i hi=>⟨hT _ (h4 i hi).1,(h4 i hi).2⟩⟩
theorem Q8 (n:Nat) (hn:n≤1000) (w:We):(Instr.makeSlice 169 (.int .i64 (n:Int)) (.int .i64 (n:Int))).run Tryz.prog w= .ok (.slice (some ⟨w.heap.size,0,none⟩) n n) (w.alloc (.cells (cellsOf J3 (List.replicate n ⟨.slice none 0 0,0⟩)).toArray 174)):=by
 obtain⟨i0,hi,cy,bj,bp⟩:=info_parts (show(Tryz.prog.info? 174).map (fun i=>(i.zero,i.size,i.bytes))=some (some (.agg #[.slice none 0 0,.int .i64 0,.int .i64 0]),3,40)by kernel_rfl);have:=run_make (P:=Tryz.prog) w 169 174 i0 _ Tryz.underlying169 hi cy .i64 .i64 (n:Int) (n:Int) (by omega) (by omega) (by rw[bp];omega) (by omega);rw[bj]at this;have hc:=I5 (f:=J3) mO (by omega) ⟨.slice none 0 0,0⟩ n;rw[←hc];simpa[Value.cells,J3] using this
theorem I9 (n:Nat) (hn:n≤100000) (w:We):(Instr.makeSlice 53 (.int .i64 (n:Int)) (.int .i64 (n:Int))).run Tryz.prog w= .ok (.slice (some ⟨w.heap.size,0,none⟩) n n) (w.alloc (.cells (List.replicate n (Value.int .i64 0)).toArray 3)):=by
 obtain⟨i0,hi,cy,bj,bp⟩:=info_parts (show(Tryz.prog.info? 3).map (fun i=>(i.zero,i.size,i.bytes))=some (some (.int .i64 0),1,8)by kernel_rfl);have:=run_make (P:=Tryz.prog) w 53 3 i0 _ Tryz.underlying53 hi cy .i64 .i64 (n:Int) (n:Int) (by omega) (by omega) (by rw[bp];omega) (by omega);have hc:madeCells #[Value.int .i64 0] n=(List.replicate n (Value.int .i64 0)).toArray:=by
  apply aZ1.1;rw[toList_madeCells_one]
 rw[bj,aYp]at this;simpa[Value.cells,hc] using this
theorem R0 (w:We) {n:Nat} (h1:1≤n) (h2:n≤64):Calls Tryz.prog 45 #[.int .i64 (n:Int)] w fun e w'=>∃p,e= .returned (.tuple #[ptrV p,.int .i64 0])∧(∃T,nE p n (List.replicate n []) T w'∧∀i,T i→w.heap.size≤i∧i<w'.heap.size)∧Mod (fun _=>False) w w':=by
 have rr:decide ((n:Int)<1)=false:=Df (by omega);have cm:decide ((64:Int)<(n:Int))=false:=Df (by omega);have Vp:decide ((n:Int)>64)=false:=Df (by omega);have Ma:decide (64<n)=false:=Df (by omega);have na:=Q8 n (by omega);have qp:=I9 n (by omega);have jw:∀(a b:Addr) w,(Instr.build 171 #[(0,.slice (some a) n n),(1,.slice (some b) n n)]).run Tryz.prog w= .ok (.agg #[.slice (some a) n n,.slice (some b) n n]) w:=fun a b w=>by kernel_rfl
 go_enter Tryz.func45,Tryz.ntmps45;go_upto_region 3 with fail;refine ZP [0,3,0,3,0,3,0,0] ?_;refine Zv ?_;(refine TD.mks (by simp only[zK];rfl) rfl (by rfl) rfl rfl ?Ku ?Ua na (fun p11 ns=> ?n7);(case Ku=>simp only[zM];try rfl);(case Ua=>simp only[zM];try rfl);try simp only[zL]);refine Zv ?_;(refine TD.mks (by simp only[zK];rfl) rfl (by rfl) rfl rfl ?hx9 ?hz9 qp (fun p13 qu=> ?n9);(case hx9=>simp only[zM];try rfl);(case hz9=>simp only[zM];try rfl);try simp only[zL]);obtain⟨ne_p13_p11,qu⟩:=Bx.set_none qu;refine Zu (jw _ _) ?_;refine Zb fun p15 ve=> ?_;obtain⟨ne_p15_p13,ve⟩:=Bx.set_none ve;obtain⟨ne_p15_p11,ve⟩:=Bx.set_none ve
 iterate 2 refine Zv ?_
 refine TD.nil (fun w1 hr=> ?_);obtain⟨gp11,kp11⟩:=hr.b p11;obtain⟨gp13,kp13⟩:=hr.b p13;obtain⟨gp15,kp15⟩:=hr.b p15;have m1:=hr.mod;clear hr;go_wp2_with fail
 go_ret2
 have jg:(List.replicate n ([]:List (Wc))).map sumB=List.replicate n 0:=by rw[List.map_replicate];rfl
 refine⟨p15,rfl,⟨fun i=>i=p15∨i=p11∨i=p13,⟨p11,p13,List.replicate n ⟨.slice none 0 0,0⟩,List.replicate n [],fun i=>i=p11∨i=p13,kp15,.inl rfl,⟨kp11,?_,by simp,by simp,by simp,by simp,.inl rfl,.inr rfl,?_,?_,?_⟩,?_⟩,?_⟩,m1⟩
 ·rw[jg,List.map_replicate];exact kp13
 ·intro j r vs h1 h2;obtain⟨_,h1⟩:=aZa.1 h1;obtain⟨_,h2⟩:=aZa.1 h2;rw[aX2]at h1 h2;subst h1;subst h2;exact⟨rfl,.inl ⟨rfl,rfl⟩⟩
 ·intro j vs q h1 h2;obtain⟨_,h1⟩:=aZa.1 h1;obtain⟨_,h2⟩:=aZa.1 h2;rw[aX2]at h1 h2;subst h1;subst h2;exact⟨rfl,fun i v b h=>by cases h⟩
 ·intro i j r s _ h1 _ g hg;obtain⟨_,h1⟩:=aZa.1 h1;rw[aX2]at h1;subst h1;cases hg
 ·rintro i (h|h)
  ·exact⟨.inr (.inl h),by rw[h];exact aB kp11 kp15 (by simp)⟩
  ·exact⟨.inr (.inr h),by rw[h];exact aB kp13 kp15 (by simp)⟩
 ·rintro i (h|h|h)<;>rw[h]
  ·exact⟨gp15,aA kp15⟩
  ·exact⟨gp11,aA kp11⟩
  ·exact⟨gp13,aA kp13⟩
theorem lhas_c {p n lb cb:Nat} {w:We} (kp:w.heap[p]? =some (.cells #[.slice (some ⟨lb,0,none⟩) n n,.slice (some ⟨cb,0,none⟩) n n] 171 (0,0))) {j:Nat} (hj:j<n):Calls Tryz.prog 63 #[ptrV p,.int .i64 (j:Int)] w fun e w'=>e= .returned (.bool true)∧w'=w:=by
 have hd:=Dt hj;have h0:decide ((0:Int)≤(j:Int))=true:=Dt (by omega);go_enter Tryz.func63,Tryz.ntmps63;go_wp2_with fail;go_ret;exact⟨rfl,rfl⟩
theorem R5 {R:List Rg} {j:Nat} {r:Rg} (h:R[j]? =some r):A0 (cellsOf J3 R).toArray (j*3) r.v r.m:=by
 have hg:=fE mO R j r h;have hc:∀i,i<3→(cellsOf J3 R).toArray[j*3+i]? =(J3 r).toList[i]? :=fun i hi=>by
  rw[zA,←hg,aXx hi,List.getElem?_drop]
 exact⟨hc 0 (by omega),hc 1 (by omega),hc 2 (by omega)⟩
theorem NS {R:List Rg} {j:Nat} {r:Rg} (h:R[j]? =some r) (v:Wg) (m:Nat):((cellsOf J3 R).toArray.setIfInBounds (j*3) v).setIfInBounds (j*3+2) (.int .i64 (m:Int))=(cellsOf J3 (R.set j ⟨v,m⟩)).toArray:=by
 have h1:=i5 mO (l:=R) (q:=j) (j:=0) (x:=r) (y:=⟨v,r.m⟩) (v:=v) h (by omega) rfl;have hl:=(aZa.1 h).1;have h2:=i5 mO (l:=R.set j ⟨v,r.m⟩) (q:=j) (j:=2) (x:=⟨v,r.m⟩) (y:=⟨v,m⟩) (v:= .int .i64 (m:Int)) (by rw[List.getElem?_set_self hl]) (by omega) rfl;rw[List.set_set]at h2;rw[zF,zF,h2,h1];rfl
theorem X5 (w:We) (a:Wb) (n c:Nat):(binOp .eql 169 (.slice a n c) (.slice none 0 0)).run Tryz.prog w= .ok (.bool a.isNone) w:=by
 cases a<;>kernel_rfl
theorem wC.step {n lb cb j:Nat} {R:List Rg} {V:List (List Wg)} {Q:List (List (Wc))} {N:Wd} {T T':Nat→Prop} {w w':We} (h:wC n lb cb R V Q N T w) {r r':Rg} {vs:List Wg} {q:List (Wc)} (hr:R[j]? =some r) (hv:V[j]? =some vs) (hq:Q[j]? =some q) {x:Wg} {l:Wc}
  (hx:aZ ic 1 3 0 w x l) (hxT:∀g,x.ownBlock=some g→g≠cb) (hT:∀i,T i→i<w.heap.size) (tu:∀i,T i→T' i) (hTx:∀g,x.ownBlock=some g→T' g) (hn:∀g,r'.v.ownBlock=some g→r.v.ownBlock=some g∨w.heap.size≤g)
  (kl:w'.heap[lb]? =some (.cells (cellsOf J3 (R.set j r')).toArray 174 (0,0))) (hR:wH T' w' r' (vs++[x])) (hm:Mod (fun i=>i=lb∨r.v.ownBlock=some i) w w'):wC n lb cb (R.set j r') (V.set j (vs++[x])) (Q.set j (q++[l])) N T' w':=by
 have hjR:=(aZa.1 hr).1;have Jb:=(aZa.1 hv).1;have hjQ:=(aZa.1 hq).1;have hlc:cb≠lb:=fun e=>by
  have h1:=h.kl;rw[←e,h.kc]at h1;injection (aZz h1)with _ e2
  exact absurd e2 (by decide)
 have xl:∀g,r.v.ownBlock=some g→cb≠g:=fun g hg e=>by
  obtain⟨cur,hc⟩:=(h.rg j r vs hr hv).ty hg;rw[←e,h.kc]at hc;injection (aZz hc)with _ e2
  exact absurd e2 (by decide)
 have ql:∀ {v b},WS T cb w v b→WS T' cb w' v b:=fun{v b} hb=>⟨hb.1.mod hm (fun g hg e=>by
  obtain⟨cur,hc⟩:=hb.1.ty hg;rcases e with e|e
  ·rw[e,h.kl]at hc;injection (aZz hc)with _ e2
   exact absurd e2 (by decide)
  ·obtain⟨cur2,pp⟩:=(h.rg j r vs hr hv).ty e;rw[pp]at hc;injection (aZz hc)with _ e2
   exact absurd e2 (by decide)),fun g hg=>⟨tu g (hb.2 g hg).1,(hb.2 g hg).2⟩⟩
 have Xb:WS T' cb w' x l:=⟨hx.mod hm (fun g hg e=>by
  obtain⟨cur,hc⟩:=hx.ty hg;rcases e with e|e
  ·rw[e,h.kl]at hc;injection (aZz hc)with _ e2
   exact absurd e2 (by decide)
  ·obtain⟨cur2,pp⟩:=(h.rg j r vs hr hv).ty e;rw[pp]at hc;injection (aZz hc)with _ e2
   exact absurd e2 (by decide)),fun g hg=>⟨hTx g hg,hxT g hg⟩⟩
 refine⟨kl,hm.at h.kc (fun e=>e.elim hlc (fun e=>xl _ e rfl)),by rw[aZn];exact h.nr,by rw[aZn];exact h.nv,by rw[aZn];exact h.nq,h.nn,tu _ h.tl,tu _ h.tc,?_,?_,?_⟩
 ·intro i s us h1 h2;by_cases e:i=j
  ·subst e;rw[List.getElem?_set_self hjR]at h1;rw[List.getElem?_set_self Jb]at h2;cases h1;cases h2;exact hR
  ·rw[aZ0 (fun h=>e h.symm)]at h1 h2;refine((h.rg i s us h1 h2).mod hm (fun g hg e2=> ?_)).mono tu;rcases e2 with e2|e2
   ·obtain⟨cur,hc⟩:=(h.rg i s us h1 h2).ty hg;rw[e2,h.kl]at hc;injection (aZz hc)with _ e3
    exact absurd e3 (by decide)
   ·exact h.ap i j s r e h1 hr g hg e2
 ·intro i us p h1 h2;by_cases e:i=j
  ·subst e;rw[List.getElem?_set_self Jb]at h1;rw[List.getElem?_set_self hjQ]at h2;cases h1;cases h2;obtain⟨b1,b2⟩:=h.bt i vs q hv hq;refine⟨by simp[b1],fun k v b h3 h4=> ?_⟩;by_cases hk:k<vs.length
   ·rw[aZt hk]at h3;rw[aZt (by omega)]at h4;exact ql (b2 k v b h3 h4)
   ·rw[aZ3 (by omega)]at h3;rw[aZ3 (by omega)]at h4;rw[←b1]at h4;cases hz:k-vs.length with
    |zero=>
     rw[hz]at h3 h4;cases h3;cases h4;exact Xb
    |succ z=>
     rw[hz]at h3;cases h3
  ·rw[aZ0 (fun h=>e h.symm)]at h1 h2;obtain⟨b1,b2⟩:=h.bt i us p h1 h2;exact⟨b1,fun k v b h3 h4=>ql (b2 k v b h3 h4)⟩
 ·have aw:∀i s,i≠j→R[i]? =some s→(∀g,r'.v.ownBlock=some g→s.v.ownBlock≠some g):=fun i s hi hs g hg Pn=>by
   rcases hn g hg with h1|h1
   ·exact h.ap i j s r hi hs hr g Pn h1
   ·have rf:=(aZa.1 hs).1;obtain⟨us,Fb⟩:∃us,V[i]? =some us:=⟨_,aZb (by rw[h.nv,←h.nr];exact rf)⟩;have:=hT g ((h.rg i s us hs Fb).own Pn);omega
  intro i k s u Ak h1 h2 g hg Po;by_cases e1:i=j
  ·subst e1;rw[List.getElem?_set_self hjR]at h1;cases h1;rw[aZ0 Ak]at h2;exact aw k u (fun h=>Ak h.symm) h2 g hg Po
  ·rw[aZ0 (fun h=>e1 h.symm)]at h1;by_cases e2:k=j
   ·subst e2;rw[List.getElem?_set_self hjR]at h2;cases h2;exact aw i s e1 h1 g Po hg
   ·rw[aZ0 (fun h=>e2 h.symm)]at h2;exact h.ap i k s u Ak h1 h2 g hg Po
theorem NL (a:Wb) (n c m d:Nat):(Value.slice a n c).ownBlock=(Value.slice a m d).ownBlock:=by
 cases a<;>rfl
theorem wH.self {T:Nat→Prop} {w:We} {r:Rg} {vs:List Wg} (h:wH T w r vs):wH (fun i=>r.v.ownBlock=some i) w r vs:=by
 refine⟨h.1,h.2.imp id ?_⟩;rintro⟨b,k,h1,_,h3,h4⟩;exact⟨b,k,h1,by rw[h1];rfl,h3,h4⟩
theorem R6 {n lb cb j:Nat} {R:List Rg} {V:List (List Wg)} {Q:List (List (Wc))} {N:Wd} {T:Nat→Prop} {w:We} (h:wC n lb cb R V Q N T w) (hT:∀i,T i→i<w.heap.size) {r:Rg} {vs:List Wg} {q:List (Wc)} (hr:R[j]? =some r) (hv:V[j]? =some vs) (hq:Q[j]? =some q) (sw:q.length≤1000) {a:Wb} {ln:Nat} {l:Wc}
  (hx:aZ ic 1 3 0 w (.slice a ln ln) l) (hxc:∀g,(Value.slice a ln ln).ownBlock=some g→g≠cb∧T g):
  Calls Tryz.prog 119 #[.pointer (some ⟨lb,j*3,none⟩),.slice a ln ln] w fun e w'=>∃v,e= .returned v∧Mod T w w'∧(v= .tuple #[]∧∃r',wC n lb cb (R.set j r') (V.set j (vs++[.slice a ln ln])) (Q.set j (q++[l])) N (Grow T w w') w'):=by
 have hR:=h.rg j r vs hr hv;have hB:=h.bt j vs q hv hq;have hm:r.m≤1000:=by rw[←hR.1,hB.1];exact sw
 refine(NV w h.kl (R5 hr) hR.self (fun e=> ?_) hm (fun v hvm=> ?_) a ln ln).mono ?_
 ·obtain⟨cur,hc⟩:=hR.ty e;rw[h.kl]at hc;injection (aZz hc)with _ e2
  exact absurd e2 (by decide)
 ·obtain⟨i,hi⟩:=List.getElem?_of_mem hvm;obtain⟨b,hb⟩:∃b,q[i]? =some b:=⟨_,aZb (by rw[←hB.1];exact(aZa.1 hi).1)⟩;rcases(hB.2 i v b hi hb).1 with⟨h1,_⟩|⟨_,_,h1,_⟩
  ·rw[h1];rfl
  ·rw[h1];rfl
 ·rintro e w' ⟨rfl,r',h1,h2,h3,h4⟩;have hmT:Mod T w w':=h4.mono (fun i _ e=>e.elim (fun e=>by rw[e];exact h.tl) (fun e=>hR.own e));rw[NS hr]at h2;refine⟨_,rfl,hmT,rfl,r',h.step hr hv hq hx (fun g hg=>(hxc g hg).1) hT (fun i hi=> .inl hi) (fun g hg=> .inl (hxc g hg).2) (fun g hg=> ?_) h2 (h3.mono (fun i hi=>hi.imp (fun e=>hR.own e) id)) h4⟩;rcases h3.own hg with h5|h5
  ·exact .inl h5
  ·exact .inr h5.1
def PE (b:Nat) (l:Wc) (v:Wg):aK:=fun T w=>aE ic 1 3 w b v l∧∀g,v.ownBlock=some g→T g
theorem IK (b:Nat) (l:Wc) (v:Wg):aH (PE b l v) where
 cl:=fun T w w' h hm=>⟨h.1.mod hm (fun g hg hn=>hn (h.2 g hg)),h.2⟩
 gr:=fun T T' w hT h=>⟨h.1,fun g hg=>hT g (h.2 g hg)⟩
theorem aE.le {α:Type} {f:α→Wa} {n:Nat} {E:Wh} {w:We} {b b':Nat} {v:Wg} {l:List α} (h:aE f n E w b v l) (hb:b'≤b):aE f n E w b' v l:=by
 refine⟨h.1,h.2.imp id ?_⟩;rintro⟨g,cap,cur,h1,h2,h3⟩;exact⟨g,cap,cur,h1,aYb hb h2,h3⟩
theorem YG {b:Nat} {l:Wc} {v:Wg} {T:Nat→Prop} {w w':We} (h:aE ic 1 3 w' w.heap.size v l) (hb:b≤w.heap.size):PE b l v (Grow T w w') w':=⟨h.le hb,fun g hg=> .inr (h.lt g hg)⟩
theorem aE.newS {α:Type} {P:Wl} {T E:Wh} {f:α→Wa} {n B:Nat} (hT:oM P T E f n B) {w:We} {base:Nat} {v:Wg} {l:List α} (h:aE f n E w base v l):∃a c v2,v= .slice a l.length c∧v2= .slice a l.length l.length∧(∀w2,(Instr.sliceAt T v none (some (.int .i64 (l.length:Int))) (some (.int .i64 (l.length:Int)))).run P w2= .ok v2 w2)∧aZ f n E base w v2 l∧v2.ownBlock=v.ownBlock:=by
 rcases h.2 with⟨rfl,hn⟩|⟨g,cap,cur,rfl,hb,hg,se,tv,fz,br⟩
 ·obtain rfl:l=[]:=aYn hn;exact⟨none,0,_,rfl,rfl,fun w2=>rL hT w2,.inl ⟨rfl,rfl⟩,rfl⟩
 ·refine⟨_,cap,_,rfl,rfl,fun w2=>vQ hT se w2,.inr ⟨g,cur,rfl,hb,hg,fun i x hx=> ?_⟩,rfl⟩;obtain⟨a,c,e,hat,_⟩:=h.at hT;injection e with e1 _ _
  subst e1;obtain⟨b,o,C,U,fr,e2,cq,he,dh⟩:=hat.block hx;cases e2;rw[hg]at cq;cases cq;simpa using Ai he dh
theorem NC {T:Nat→Prop} {p n j:Nat} {Q:List (List (Wc))} {w:We} (h:nE p n Q T w) (hT:∀i,T i→i<w.heap.size) (hj:j<n) (hn:n≤64) {q:List (Wc)} (hq:Q[j]? =some q) (sw:q.length≤1000) (jg:sumB q≤100000) (a:Wb) (l:Wc) (c:Nat) (hl:aS ic 1 w a l)
  (hd:∀g o,a=some ⟨g,o,none⟩→¬T g) (h1:1≤l.length) (h2:l.length≤64):Calls Tryz.prog 76 #[ptrV p,.int .i64 (j:Int),.slice a l.length c] w fun e w'=>e= .returned (.int .i64 0)∧Goes (nE p n (Q.set j (q++[l]))) T w w':=by
 obtain⟨lb,cb,R,V,T1,kp,tp,hR,Cf⟩:=h;obtain⟨r,hr⟩:∃r,R[j]? =some r:=⟨_,aZb (by rw[hR.nr];exact hj)⟩;obtain⟨vs,hv⟩:∃vs,V[j]? =some vs:=⟨_,aZb (by rw[hR.nv];exact hj)⟩;obtain⟨ln,oz⟩:∃ln,l.length=ln:=⟨_,rfl⟩;have HL:=Hi (Ai hl (Ai hd oz));have HR:=Hi (Ai hR (Ai hr (Ai hv hq)));have HT:=Hi (Ai hT (Ai tp Cf));have HQ:=Hi (Ai sw jg);rw[oz]at h1 h2⊢;clear hl hd oz hR hr hv hT tp Cf sw jg;have he:=X5;have rr:decide ((ln:Int)<1)=false:=Df (by omega);have cm:decide ((ln:Int)>64)=false:=Df (by omega);have Vp:decide ((64:Int)<(ln:Int))=false:=Df (by omega);have Ma:decide (64<ln)=false:=Df (by omega);go_enter Tryz.func76,Tryz.ntmps76;go_upto_region 3 with fail;go_wp2_with fail;go_at_call 63;refine(lhas_c kp hj).mono ?_;rintro e w1 ⟨rfl,rfl⟩;go_upto_region 5 with fail;have HE:=Hi (HR.out.1.rg j r vs HR.out.2.1 HR.out.2.2.1);have nTp:¬T1 p:=fun h=>(HT.out.2.2 p h).2 rfl;have Lkp:=aA kp;refine bL (T0:=T1) (K:=wC n lb cb R V Q (Q.map sumB)) (κ:=fun i=>[0,0,0,0,0,0,0,6,6,6].getD i 0) (υ:=fun _=>[]) [0,1,2,3,4,5,6,7,8,9] (by kernel_rfl) (by kernel_rfl) (wC.good n lb cb R V Q (Q.map sumB)).cl (HR.out.1) (fun i hi=>HT.out.1 i (HT.out.2.2 i hi).1) ?_;have gK:=wC.good n lb cb R V Q (Q.map sumB)
 iterate 3 refine Zg ?_
 (refine Zk ?_ (hy:=by intro wq ae;have kpq:=ae.atn kp;go_simp;try with_reducible rfl))
 iterate 3 refine Zg ?_
 (refine ZJ (fun v T w=>PE w1.heap.size l v T w) (fun v=>IK w1.heap.size l v) gK ?_ (s:=fun T wq kq ltq ae ub=>by exact(by have hc:=yY (c:=c) (HL.out.1.mod ae (fun b o e hb=>HL.out.2.1 b o e (HT.out.2.2 b hb).1)) (by rw[HL.out.2.2];omega);rw[HL.out.2.2]at hc;exact hc.mono (fun e w' h=>by obtain⟨v,h1,h2,h3⟩:=h;exact⟨v,h1,h3,YG h2 ae.size⟩)));rintro v21 ⟨wI,TI,hI⟩;replace gK:=gK.and ((fun v=>IK w1.heap.size l v) v21);obtain⟨a39,c39,v40,rfl,rfl,dg,-,-⟩:=hI.k.2.1.newS gL;rw[HL.out.2.2]at dg gK⊢;(try clear hI TI wI);try simp only[zL]);(refine ZG (fun v=>v= .slice a39 ln ln) gK ?_ (s:=fun T wq kq ltq ae ub=>by have kpq:=ae.atn kp;exact(clipI_cG _ _ wq ln rfl dg).mono (fun e w' h=>⟨_,h.1,rfl,by rw[h.2];exact Mod.refl _ _⟩));rintro v22 hC;subst hC;try simp only[zL]);(refine TG.callK (f:= ?f23) (args:= ?r23) (fun v T w=>v= .tuple #[]∧∃r',wC n lb cb (R.set j r') (V.set j (vs++[.slice a39 ln ln])) (Q.set j (q++[l])) (Q.map sumB) T w) (fun v=>(aH.pure (v= .tuple #[])).and (aH.ex fun r'=>wC.good n lb cb (R.set j r') (V.set j (vs++[.slice a39 ln ln])) (Q.set j (q++[l])) (Q.map sumB))) (by simp only[zK];rfl) rfl (by rfl) (fun w1=> ?y23) (fun T wq kq ltq ae ub=> ?Sh) ?n23;(case y23=>(go_simp;(first|with_reducible rfl|(constructor<;>with_reducible rfl))));(case Sh=>(have kpq:=ae.atn kp;exact R6 kq.1 ltq HR.out.2.1 HR.out.2.2.1 HR.out.2.2.2 HQ.out.1 (by obtain⟨a5,c5,v5,e5,rfl,-,Lo,-⟩:=kq.2.1.newS gL;rw[HL.out.2.2]at e5 Lo;cases e5;exact Lo.base (aYf _)) (fun g Vt=>by have hg:=(NL a39 ln ln ln c39)▸Vt;exact⟨fun e=>by have h5:=(kq.2.1.lt g hg).1;have h6:=HT.out.1 cb (HT.out.2.2 cb HR.out.1.tc).1;omega,kq.2.2 g hg⟩)));rintro v23 ⟨wI,TI,hI⟩;replace gK:=(fun v=>(aH.pure (v= .tuple #[])).and (aH.ex fun r'=>wC.good n lb cb (R.set j r') (V.set j (vs++[.slice a39 ln ln])) (Q.set j (q++[l])) (Q.map sumB))) v23;obtain⟨rfl,_⟩:=hI.k;(try clear hI TI wI);try simp only[zL]);refine TG.nil (fun w2 ⟨TR,hr⟩=> ?_);replace kp:=hr.mod.atn kp;clear gK;obtain⟨_,r',hR2⟩:=hr.k;have m2:=hr.mod;have qy:Hid (wC n lb cb (R.set j r') (V.set j (vs++[.slice a39 ln ln])) (Q.set j (q++[l])) (Q.map sumB) TR w2∧(∀i,TR i→T1 i∨w1.heap.size≤i)∧∀i,TR i→i<w2.heap.size):=Hi ⟨hR2,fun i hi=>by
  rcases aYt i w1.heap.size with h5|h5
  ·exact .inl (hr.old i h5 hi)
  ·exact .inr h5,hr.lt⟩
 have dd:=Hi m2;clear hr hR2 m2 he;have kc:=qy.out.1.kc;obtain⟨sq,hsq⟩:∃sq,sumB q=sq:=⟨_,rfl⟩;have hxj:(((Q.map sumB).map fun q:Nat=>Value.int .i64 (q:Int)).toArray)[j]? =some (.int .i64 (sq:Int)):=by
  rw[zA,aZv,aZv,HR.out.2.2.2];simp[hsq]
 have Hf:(((Q.map sumB).map fun q:Nat=>Value.int .i64 (q:Int)).toArray).size=n:=by simp[HR.out.1.nq]
 obtain⟨X,hX⟩:∃X,X=(((Q.map sumB).map fun q:Nat=>Value.int .i64 (q:Int)).toArray):=⟨_,rfl⟩;rw[←hX]at hxj Hf kc;obtain⟨s2,fe⟩:∃s2,sq+ln=s2:=⟨_,rfl⟩;have HX:=Hi (Ai hX (Ai hsq fe));have ew:IntKind.i64.wrap ((sq:Int)+(ln:Int))=(s2:Int):=(IntWalk.i64_in _ (by have:=HQ.out.2;omega)).trans (by omega);have hpc:p≠cb:=fun e=>nTp (e▸HR.out.1.tc);have Vo:cb≠p:=fun e=>hpc e.symm;have gX:∀h:j<X.size,X[j]= .int .i64 (sq:Int):=fun h=>aU hxj h;clear hX hsq fe;go_upto_region 6 with fail;have Lkp:=aA kp;have Lkc:=aA kc;refine ZP0 [0,0,0,1,0,0,1,0,0,0,0,5] ?_
 iterate 11 first|refine Zv ?_|refine Zd ?_
 refine Zi fun wE hr=> ?_;replace kp:=hr.mod.at0 kp;replace kc:=hr.mod.at0 kc;have mE:=hr.mod;refine ZS ?_;refine ZN kc fun w3 kc mS=> ?_;replace kp:=mS.at_ne kp (by omega);have m3:Mod (fun i=>i=cb) w2 w3:=(mE.mono (T:=fun i=>i=cb) (fun _ _ h=>h.elim)).trans mS;clear hr mE mS ew hxj Hf gX;simp only[Act.put];go_wp2_with fail;go_ret;have Me:j<Q.length:=(aZa.1 HR.out.2.2.2).1;have hN:((Q.set j (q++[l])).map sumB).map (fun q:Nat=>Value.int .i64 (q:Int))=((Q.map sumB).map fun q:Nat=>Value.int .i64 (q:Int)).set j (.int .i64 (s2:Int)):=by
  have jg:sumB (q++[l])=s2:=by
   unfold sumB;have h5:=HX.out.2.1;unfold sumB at h5;simp only[List.map_append,aZo,aYo,List.sum_append,List.sum_cons,List.sum_nil,h5,HL.out.2.2];exact HX.out.2.2
  rw[aX4,aX4,jg]
 have hR3:wC n lb cb (R.set j r') (V.set j (vs++[.slice a39 ln ln])) (Q.set j (q++[l])) ((Q.set j (q++[l])).map sumB) TR w3:=by
  have h:=qy.out.1;have hty:∀ {g:Nat} {E:Wh} {cur:Wa},w2.heap[g]? =some (.cells cur E (0,0))→E≠3→¬g=cb:=fun{g E cur} hg hE e=>by
   rw[e,h.kc]at hg;injection (aZz hg)with _ e2
   exact hE e2.symm
  refine⟨m3.at h.kl (hty h.kl (by decide)),?_,h.nr,h.nv,h.nq,by rw[aZs];exact h.nq,h.tl,h.tc,fun i s us h1 h2=>(h.rg i s us h1 h2).mod m3 (fun g hg=> ?_),fun i us p h1 h2=>⟨(h.bt i us p h1 h2).1,fun k v b h3 h4=> ?_⟩,h.ap⟩
  ·rw[hN,←zF,←HX.out.1];exact kc
  ·obtain⟨cur,hc⟩:=(h.rg i s us h1 h2).ty hg;exact hty hc (by decide)
  ·obtain⟨k1,k2⟩:=(h.bt i us p h1 h2).2 k v b h3 h4;exact⟨k1.mod m3 (fun g hg=>(k2 g hg).2),k2⟩
 refine⟨rfl,fun i=>T i∨(w1.heap.size≤i∧i<w3.heap.size),⟨lb,cb,_,_,TR,kp,.inl HT.out.2.1,hR3,fun i hi=> ?_⟩,?_,fun i hi=>hi⟩
 ·rcases qy.out.2.1 i hi with h5|h5
  ·exact⟨.inl (HT.out.2.2 i h5).1,(HT.out.2.2 i h5).2⟩
  ·exact⟨.inr ⟨h5,aZd (qy.out.2.2 i hi) m3.size⟩,fun e=>by have:=HT.out.1 p HT.out.2.1;omega⟩
 ·refine(dd.out.mono (fun i _ hi=>(HT.out.2.2 i hi).1)).then m3 (fun i _ e=> ?_);rw[e];exact(HT.out.2.2 cb HR.out.1.tc).1
end
section
attribute [local go_sem] kc_size
abbrev pV (p:Nat):Value:= .pointer (some ⟨p,0,none⟩)
def sat (a b:Wj):Wj:=if a.toNat+b.toNat<18446744073709551616 then a+b else 18446744073709551615
theorem hmf (fn:Fn) (first cap:Wa) (w:We):(Instr.makeFunc fn first cap).run Tryz.prog w= .ok (.func fn first cap) w:=rfl
theorem BA (x y:Nat) (hx:x<18446744073709551616) (hy:y<18446744073709551616) (w:We):(callFunc 153 #[.int .u64 (x:Int),.int .u64 (y:Int),.int .u64 0]).run Tryz.prog w=
   .ok (.value (.tuple #[.int .u64 (((x+y) % 18446744073709551616:Nat):Int),.int .u64 (((x+y)/18446744073709551616:Nat):Int)])) w:=by
 rw[run_callFunc_extern Tryz.func153 (by kernel_rfl) (by kernel_rfl) (by kernel_rfl) (e:=add64Entry) (by kernel_rfl),run_add64 x y 0 (by omega) (by omega) (by omega) (by omega)];simp only[Result.andThen];congr 5<;>omega
theorem ZB (x:Wj) (w:We):(callFunc 153 #[.int .u64 0,u64v x,.int .u64 0]).run Tryz.prog w= .ok (.value (.tuple #[u64v x,.int .u64 0])) w:=by
 have h:=BA 0 x.toNat (by omega) x.toNat_lt w;have hx:=x.toNat_lt;rw[aXe,aW3 hx,Nat.div_eq_of_lt hx]at h;exact h
theorem UD (x y:Wj) (w:We):(callFunc 153 #[u64v x,u64v y,.int .u64 0]).run Tryz.prog w= .ok (.value (.tuple #[u64v (x+y),.int .u64 (if 18446744073709551616≤x.toNat+y.toNat then 1 else 0)])) w:=by
 have h:=BA x.toNat y.toNat x.toNat_lt y.toNat_lt w;have hx:=x.toNat_lt;have hy:=y.toNat_lt;refine h.trans ?_;rw[u64v,UInt64.toNat_add];by_cases hc:18446744073709551616≤x.toNat+y.toNat
 ·rw[if_pos hc,show(x.toNat+y.toNat)/18446744073709551616=1 by omega];rfl
 ·rw[if_neg hc,show(x.toNat+y.toNat)/18446744073709551616=0 by omega];rfl
theorem J6 {a b:Wj} (h:18446744073709551616≤a.toNat+b.toNat):u64v (sat a b)= .int .u64 18446744073709551615:=by
 unfold sat;rw[if_neg (by omega)];rfl
theorem J5 {a b:Wj} (h:¬18446744073709551616≤a.toNat+b.toNat):sat a b=a+b:=by
 unfold sat;rw[if_pos (by omega)]
theorem or_zero (a:Wj):bits .or .u64 (a.toNat:Int) 0=(a.toNat:Int):=by
 have h:=bits_or_u64_nat a.toNat 0 a.toNat_lt (by omega);rw[Nat.or_zero]at h;exact h
theorem RK (a:Wj):bits .or .u64 (a.toNat:Int) 18446744073709551615=18446744073709551615:=by
 have h:=bits_or_u64_nat a.toNat 18446744073709551615 a.toNat_lt (by omega);have e:a.toNat|||18446744073709551615=18446744073709551615:=by
  have ha:=a.toNat_lt;apply aXb;intro i;rw[Nat.testBit_or];have h1:(18446744073709551615:Nat).testBit i=decide (i<64):=aWa 64 i;rw[h1];by_cases hi:i<64
  ·simp[hi]
  ·have:a.toNat.testBit i=false:=aXg (aZd ha (aXa (by omega) (by omega)));simp[hi,this]
 rw[e]at h;exact h
theorem sM (a x:Wj):((a.toNat:Int)+(x.toNat:Int)) % 18446744073709551616=((a+x).toNat:Int):=by
 rw[UInt64.toNat_add];omega
theorem UG (w:We):(Instr.alloc 23 true (.tuple #[])).run Tryz.prog w= .ok (.pointer (some ⟨w.heap.size,0,none⟩)) (w.alloc (.cells #[.int .u64 0] 23)):=by kernel_rfl
theorem J9 (w:We) {p:Nat} {o o':Obj} (h:w.heap[p]? =some o):(setBlock w p o').heap[p]? =some o':=aF w o' (aA h)
theorem wsum1_c (p:Nat) (a x:Wj) (w:We) (kp:w.heap[p]? =some (.cells #[u64v a] 23 (0,0))):Calls Tryz.prog 152 #[u64v x,pV p] w fun e w'=>e= .returned (.tuple #[])∧w'.heap[p]? =some (.cells #[u64v (sat a x)] 23 (0,0))∧Mod (fun i=>i=p) w w':=by
 have h2:=UD a x;have ho:=or_zero (a+x);have hm:=RK (a+x);go_enter Tryz.func152,Tryz.ntmps152;by_cases hc:18446744073709551616≤a.toNat+x.toNat
 ·have HC:=Hi (J6 hc);simp only[if_pos hc]at h2;clear hc ho;have HM:=Hi hm;clear hm;go_wp2_with (simp only[h2]);go_end0;rw[setCell_blk kp];refine⟨rfl,?_,bM _ _ _⟩;rw[J9 w kp,HC.out,sM a x,show IntKind.u64.wrap (-1)=18446744073709551615 from rfl,HM.out];rfl
 ·have HC:=Hi (J5 hc);simp only[if_neg hc]at h2;clear hc hm;have HO:=Hi ho;clear ho;go_wp2_with (simp only[h2]);go_end0;rw[setCell_blk kp];refine⟨rfl,?_,bM _ _ _⟩;rw[J9 w kp,HC.out,sM a x,HO.out];rfl
theorem J7 (x:Wj):sat 0 x=x:=by
 have h:=x.toNat_lt;rw[J5 (by show¬18446744073709551616≤0+x.toNat;omega),UInt64.zero_add]
theorem SY (g:Nat) (a b:Wj) (w:We) (kg:w.heap[g]? =some (.cells #[u64v a,u64v b] 23 (0,0))):Calls Tryz.prog 116 #[.slice (some ⟨g,0,none⟩) 2 2] w fun e w'=>e= .returned (u64v (sat a b))∧Mod (fun _=>False) w w':=by
 have hmf:=hmf;go_enter Tryz.func116,Tryz.ntmps116;go_upto_region 1 with fail;have Lkg:=aA kg;refine ZP0 [3,4] ?_;refine Za UG fun p3 yv=> ?_;refine Zt ?_;refine TD.nil (fun w1 hr=> ?_);replace kg:=hr.q kg;obtain⟨gp3,kp3⟩:=hr.b p3;have m1:=hr.mod;clear hr;have hgp:g≠p3:=by omega
 have KG:=Hi kg;clear kg;go_wp2_with fail;go_loopw [10] (fun s10 ws=>∃i:Nat,i≤2∧s10= .int .i64 (i:Int)∧ws.heap[p3]? =some (.cells #[u64v (if i=0 then 0 else if i=1 then a else sat a b)] 23 (0,0))∧Mod (fun i=>i=p3) w1 ws) (fun s10 _=>2-(intOf s10).toNat)
 case atStart=>exact⟨0,by omega,rfl,kp3,Mod.refl _ _⟩
 case round=>
  obtain⟨i,hi,rfl,kp,hm⟩:=hrel;have kg:=hm.at_ne KG.out hgp;clear kp3;rcases(by omega:i=0∨i=1∨i=2)with rfl|rfl|rfl
  ·simp only[if_true]at kp;have KP:=Hi kp;go_wp2_with fail;refine(wsum1_c p3 0 a _ KP.out).mono ?_;rintro e w3 ⟨rfl,k3,m3⟩;rw[J7]at k3;have m3:=hm.trans m3;clear kp kg;go_wp2_with fail;go_roundw
   case rel=>exact⟨1,by omega,by go_num,by simpa using k3,m3⟩
   case measure=>simp[intOf]
  ·simp only[Nat.one_ne_zero,if_false,if_true]at kp;have KP:=Hi kp;go_wp2_with fail;refine(wsum1_c p3 a b _ KP.out).mono ?_;rintro e w3 ⟨rfl,k3,m3⟩;have m3:=hm.trans m3;clear kp kg;go_wp2_with fail;go_roundw
   case rel=>exact⟨2,by omega,by go_num,by simpa using k3,m3⟩
   case measure=>simp[intOf]
  ·simp only[show¬(2:Nat)=0 by omega,show¬(2:Nat)=1 by omega,if_false]at kp;clear kg;go_wp2_with fail;go_ret;exact⟨rfl,m1.thenB hm (.inl gp3)⟩
end
end Go.Proofs.YtblbegbjlaokjaaGreatDoor