/- The lemmas of the proof, part YO8: how the program and its data lie in memory, and what its functions do. -/
import Derived.Test.YtblbegbjlaokjaaGreatDoorYU7
import Derived.Deep.LoopGhost
set_option linter.unusedSimpArgs false
set_option linter.unusedVariables false
set_option linter.unusedSectionVars false

set_option maxRecDepth 20000
set_option maxHeartbeats 3200000
namespace Go.Proofs.YtblbegbjlaokjaaGreatDoor
open Go.RowKit
open Go.ChangeMaps (setBlock)
attribute [local go_sem↓] f9 gG gJ
attribute [local go_sem] Value.cells aJ aC eB dR cW kc_size aL aO aP aQ aI bH
section
attribute [local go_sem↓] kG
attribute [local go_sem] bI dZ eT
structure Dk where
 sp:Wg
 room:Nat
 win:Nat
 bat:Nat
 fli:Nat
 l1:Wg
 l2:Wg
 l3:Wg
 fw:Wg
 hold:Wg
 own:Wg
 b:Nat
 t:Nat
 ln:Nat
 q:Nat
 sn:Nat
 fv:Wg
 cv:Wg
def iE (D:Dk):Wa:= #[D.sp,.int .i64 (D.room:Int),.int .i64 (D.win:Int),.int .i64 (D.bat:Int),.int .i64 (D.fli:Int),D.l1,D.l2,D.l3,D.fw,D.hold,D.own,ptrV D.b,ptrV D.t,ptrV D.ln,ptrV D.q,ptrV D.sn,D.fv,D.cv]
structure Pk where
 d:Nat
 g:Nat
 ab:Nat
 hb:Nat
 ov:Wg
 gv:Wg
 dv:Wg
 av:Wg
def pac (X:Pk):Wa:= #[ptrV X.d,ptrV X.g,ptrV X.ab,.map (some X.hb),X.ov,X.gv,X.dv,X.av]
theorem RA (pre:List Wg) (k:aN) (post:List Wg):(mx pre k post).extract pre.length (pre.length+32)=kc k:=by
 apply aZ1.1;rw[aXv];show((pre++(k.l.map bc++post)).drop pre.length).take (pre.length+32-pre.length)=k.l.map bc;rw[List.drop_left,show pre.length+32-pre.length=32 by omega,List.take_left' (by simp[k.h])]
theorem uR (y:bT):(dM y).extract 8 40=kc y.r.rc:=RA (u64v y.n::dF y.r) _ _
theorem qX (y:bT):(dM y)[2]? =some (.slice y.r.sg.a y.r.sg.l.length y.r.sg.c):=jY (i:=2) (by simp[dF])
theorem pE (y:bT) (h:2<(dM y).size):(dM y)[2]= .slice y.r.sg.a y.r.sg.l.length y.r.sg.c:=aU (qX y) h
theorem lI (y:bT):(dM y)[42]? =some (.slice y.r.ro.a y.r.ro.l.length y.r.ro.c):=fC (pre:=u64v y.n::dF y.r) 2
theorem pD (y:bT) (h:42<(dM y).size):(dM y)[42]= .slice y.r.ro.a y.r.ro.l.length y.r.ro.c:=aU (lI y) h
attribute [local go_sem↓] dE cD dD yG B0 CS rT i8 rP
attribute [local go_sem] bD bV cV iJ fK uR qX pE lI pD bE cB cC iS dC pM mR kD eH fA fB iE pac
def WT (base:Nat) (x:It) (v:Wg):aK:=fun T w=>∃z:bT,v= .tuple #[.agg (dM z),.int .i64 0]∧z.con=x∧dS base w z.r∧jR T z.r
theorem uL (base:Nat) (x:It) (v:Wg):aH (WT base x v) where
 cl:=fun T w w' h hm=>by
  obtain⟨x,e,hc,hn,hi⟩:=h;exact⟨x,e,hc,hn.mod hm hi (fun i hi hn=>hn hi),hi⟩
 gr:=fun T T' w hT h=>by
  obtain⟨x,e,hc,hn,hi⟩:=h;exact⟨x,e,hc,hn,hi.mono hT⟩
theorem OP {wq:We} {b:Nat} {S:List (Option It)} {TB:Nat→Prop} {i:Nat} {x:It} (base:Nat) (hb:base≤wq.heap.size) (T:Nat→Prop) (h:BT b S TB wq) (hx:S[i]? =some (some x)):Calls Tryz.prog 17 #[ptrV b,.int .i64 (i:Int)] wq fun e w'=>∃v,e= .returned v∧Mod (fun _=>False) wq w'∧WT base x v (Grow T wq w') w':=
 (F7 h.bh hx).mono fun e w' h=>by
  obtain⟨z,hc,hn,he,hm⟩:=h;exact⟨_,he,hm,z,rfl,hc,hn.lower hb,hn.inn.mono (fun i hi=> .inr hi)⟩
section
variable {p b:Nat} {D:Dk} {X:Pk} {S:List (Option It)} {T:Nat→Prop} {w:We}
theorem QU (kp:w.heap[p]? =some (.cells (pac X) 121 (0,0))) (kd:w.heap[X.d]? =some (.cells (iE D) 69 (0,0))) (hB:BT D.b S T w) {i:Nat} {x:It} (hx:S[i]? =some (some x)):
  Calls Tryz.prog 72 #[ptrV p,.int .i64 (i:Int)] w fun e w'=>(∃z:bT,z.con=x∧dS w.heap.size w' z.r∧e= .returned (.agg (dM z)))∧Mod (fun _=>False) w w':=by
 have HB:=Hi hB;have HX:=Hi hx;clear hB hx;unfold pac at kp;unfold iE at kd;go_enter Tryz.func72,Tryz.ntmps72;go_upto_region 0 with fail;have Lkp:=aA kp;have Lkd:=aA kd;refine ZP0 [3] ?_;refine Za eA fun p4 od=> ?_;refine TD.nil (fun w1 hr=> ?_);replace kp:=hr.q kp;replace kd:=hr.q kd;obtain⟨gp4,kp4⟩:=hr.b p4;have m1:=hr.mod;clear hr;go_upto_region 1 with fail;have Lkp:=aA kp;have Lkd:=aA kd;have Lkp4:=aA kp4;refine wp_gpass0 (T0:=fun _=>False) (K:=fun _ _=>True) (κ:=fun i=>[0,0,0,0,0,0,0,0,6,0,0,0,3,4,0].getD i 0) (υ:=fun _=>[]) [0,1,2,3,4,5,6,7,8,9,10,11,12,13,14] (by kernel_rfl) (by kernel_rfl) (aH.true).cl (trivial) (fun _ h=>h.elim) ?_;have gK:=aH.true
 iterate 8 first|refine Zg ?_|refine Zh ?_
 (refine ZJ (WT w.heap.size x) (uL w.heap.size x) gK ?_ (s:=fun T wq kq ltq ae ub=>by exact OP w.heap.size (m1.then0 ae).size T ((BT.good D.b S).cl _ _ _ HB.out ((m1.then0 ae).mono (fun _ _ h=>h.elim))) HX.out);rintro v10 ⟨wI,TI,hI⟩;replace gK:=gK.and ((uL w.heap.size x) v10);(obtain⟨_,z,rfl,_⟩:=hI.k);(try clear hI TI wI);try simp only[zL])
 iterate 3 refine Zg ?_
 (refine TG.allocB (by simp only[zK];rfl) rfl (by rfl) rfl rfl eA (fun p5 ip _=> ?n14);try simp only[zL]);(refine TG.storeB (d:= ?d15) (T:= ?T15) (y:= ?y15) (p:= ?p15) (b:= ?b15) (v:= ?v15) (by simp only[zK];rfl) rfl (by rfl) ?hd15 ?Ra ?Pe ?hx15 ?qk ?Kl (fun w1 dz=> ?hy15) ?hn15;(case hd15=>rfl);(case Ra=>rfl);(case Pe=>(simp only[zM];(try rfl)));(case hx15=>simp only[zM];try rfl);(case qk=>first|exact Bx.set_same _ _ _|(simp only[Bx.set_same];rfl));(case Kl=>exact⟨rfl,rfl⟩);(case hy15=>(go_simp;(try first|with_reducible rfl|(rw[setCell_blk dz];rfl))));try simp only[zL]);refine Zg ?_;refine TG.nil (fun w3 ⟨TR,hr⟩=> ?_);replace kp:=hr.q kp;replace kd:=hr.q kd;replace kp4:=hr.q kp4;obtain⟨gp5,nTp5,kp5⟩:=hr.b p5;clear gK;obtain⟨_,z2,hz,lv,il,lz⟩:=hr.k;rename_i Dr _ _;clear Dr;have bp:dM z=dM z2:=by
  injection hz with hz
  have:=congrArg (fun a=>a[0]?) hz;simpa using this
 have uq:∀g,TR g→g≠p4:=fun g hg e=>(hr.old g (e▸Lkp4) hg).elim;have m3:=m1.then0 hr.mod;have HZ:=Hi (Ai lv (Ai il (Ai lz uq)));have HP5:Hid (p4≠p5∧w.heap.size≤p4):=Hi ⟨by omega,gp4⟩;rw[bp]at kp5;simp only[bp];clear hr lv il lz uq hz bp kp kd;go_upto_region 2 with fail;have Lkp4:=aA kp4;have Lkp5:=aA kp5;refine ZP0 [1,5] ?_;refine Zd ?_;refine Zi fun wE hr=> ?_;replace kp4:=hr.mod.at0 kp4;replace kp5:=hr.mod.at0 kp5;have mE:=hr.mod;refine ZS ?_;refine ZN kp4 fun w6 kp4 mS=> ?_;(try simp only[Array.setIfInBounds,zL]at kp4);replace kp5:=mS.at_ne kp5 (by omega);have m6:=(m3.then0 mE).thenB mS (.inl HP5.out.2);have Uo:dS w.heap.size w6 z2.r:=(HZ.out.2.1.mod0 mE).mod mS HZ.out.2.2.1 HZ.out.2.2.2;go_wp2_with fail;exact bodyPost_ret (results_cell1 (v:= .agg (dM z2)) rfl rfl (by rw[cD];simp[kp4,bV,bD])) rfl ⟨⟨z2,HZ.out.1,Uo,rfl⟩,m6⟩
def sg0:Sg:=⟨List.replicate 64 0,by simp⟩
theorem AS:O7=sgc sg0:=by rfl
def bP (H:List aN) (N:List (Sg×aN)) (r:AZ):Nat:=if r.rc∈H then(if(lkp (r.sg.headD sg0) N).isSome then 6 else 0)else 5
theorem QK {TS:Nat→Prop} {H:List aN} {N:List (Sg×aN)} (kp:w.heap[p]? =some (.cells (pac X) 121 (0,0))) (kd:w.heap[X.d]? =some (.cells (iE D) 69 (0,0))) (hQ:oX w D.q H) (hS:iV TS w D.sn N) (z:bT) (hz:aS sgc 64 w z.r.sg.a z.r.sg.l):
  Calls Tryz.prog 100 #[ptrV p,.agg (dM z)] w fun e w'=>e= .returned (.int .u8 (bP H N z.r.con:Nat))∧Mod (fun _=>False) w w':=by
 have HQ:=Hi hQ;have HS:=Hi hS;have HZ:=Hi hz;have hrc:z.r.con.rc=z.r.rc:=rfl;have ue:z.r.con.sg=z.r.sg.l:=rfl;obtain⟨F,hF⟩:∃F,bP H N z.r.con=F:=⟨_,rfl⟩;rw[hF];unfold bP at hF;rw[hrc,ue]at hF;have HF:=Hi hF;clear hQ hS hz hrc ue hF;unfold pac at kp;unfold iE at kd;go_enter Tryz.func100,Tryz.ntmps100;go_upto_region 0 with fail;have Lkp:=aA kp;have Lkd:=aA kd;refine ZP0 [3,0] ?_;refine Zb fun p3 yv=> ?_;refine Zv ?_;refine TD.nil (fun w1 hr=> ?_);replace kp:=hr.q kp;replace kd:=hr.q kd;obtain⟨gp3,kp3⟩:=hr.b p3;have m1:=hr.mod;clear hr;go_upto_region 1 with fail;have Lkp:=aA kp;have Lkd:=aA kd;have Lkp3:=aA kp3;refine ZP0 [3] ?_;refine Za F0 fun p5 ip=> ?_;refine TD.nil (fun w2 hr=> ?_);replace kp:=hr.q kp;replace kd:=hr.q kd;replace kp3:=hr.q kp3;obtain⟨gp5,kp5⟩:=hr.b p5;have m2:=m1.then0 hr.mod;have aw:p3≠p5:=by omega
 have hb5:w.heap.size≤p5:=by have:=m1.size;omega
 clear hr m1;rw[AS]at kp5;have hF:=HF.out;clear HF;go_upto_region 2 with fail;have Lkp:=aA kp;have Lkd:=aA kd;have Lkp3:=aA kp3;have Lkp5:=aA kp5;refine ZP0 [0,0,0,1,0,0] ?_
 iterate 6 first|refine Zv ?_|refine Zd ?_
 refine TD.nil (fun w2b hr=> ?_);replace kp:=hr.q kp;replace kd:=hr.q kd;replace kp3:=hr.q kp3;replace kp5:=hr.q kp5;have m2b:=m2.then0 hr.mod;clear hr m2;obtain hl|⟨g,r,hl⟩:z.r.sg.l=[]∨∃g r,z.r.sg.l=g::r:=by cases z.r.sg.l with|nil=>exact .inl rfl|cons g r=>exact .inr ⟨g,r,rfl⟩
 ·
  have Fk:Hid (z.r.sg.l.headD sg0=sg0):=Hi (by rw[hl];rfl);have jd:decide ((0:Int)<((z.r.sg.l.length:Nat):Int))=false:=by rw[hl];rfl
  have Oy:decide (0<z.r.sg.l.length)=false:=by rw[hl];rfl
  have m3:=m2b;have e0:z.r.sg.l.length=0:=by rw[hl];rfl
  simp only[e0];clear m2b jd Oy e0;clear hl;go_upto_region 4 with fail;have Lkp:=aA kp;have Lkd:=aA kd;have Lkp3:=aA kp3;have Lkp5:=aA kp5;refine ZR (fun _ _ v=>∃i:Nat,v= .tuple #[.int .i64 (i:Int),.bool (decide (z.r.rc∈H))]) [0,0,0,1,0,0,1,0,0,0,0,1,2,0,0,0,0,0] ?_
  iterate 12 first|refine Zv ?_|refine Zd ?_
  (refine Zc ?_ (s:=by intro wq ae;exact(age_c D.q H z.r.rc wq (HQ.out.mod0 (m3.then0 ae))).mono (fun e w' ⟨i,h1,h2⟩=>⟨_,h1,⟨i,rfl⟩,h2⟩));rintro _ ⟨ia,rfl⟩;try simp only[zL])
  iterate 5 refine Zv ?_
  refine TD.nil (fun w4 hr=> ?_);replace kp:=hr.q kp;replace kd:=hr.q kd;replace kp3:=hr.q kp3;replace kp5:=hr.q kp5;have m4:=m3.then0 hr.mod;clear hr m3;by_cases hH:z.r.rc∈H
  ·have hd:=Dt hH;go_upto_region 7 with fail;have Lkp:=aA kp;have Lkd:=aA kd;have Lkp3:=aA kp3;have Lkp5:=aA kp5;refine ZR (fun _ _ v=>v= .bool (lkp (sg0) N).isSome) [0,0,0,1,0,0,1,1,2] ?_
   iterate 8 first|refine Zv ?_|refine Zd ?_
   (refine Zc ?_ (s:=by intro wq ae;exact(shas_c D.sn N (sg0) wq (HS.out.mod0 (m4.then0 ae))).mono (fun e w' h=>⟨_,h.1,rfl,h.2⟩));rintro _ rfl;try simp only[zL]);refine TD.nil (fun w7 hr=> ?_);replace kp:=hr.q kp;replace kd:=hr.q kd;replace kp3:=hr.q kp3;replace kp5:=hr.q kp5;have m7:=m4.then0 hr.mod;clear hr m4;cases hL:(lkp (sg0) N).isSome with
   |true=>
    rw[if_pos hH,Fk.out,hL,if_pos rfl]at hF;subst hF;clear HQ HS HZ;go_wp2_with fail;go_ret;exact⟨rfl,m7⟩
   |false=>
    rw[if_pos hH,Fk.out,hL,if_neg (by simp)]at hF;subst hF;clear HQ HS HZ;go_wp2_with fail;go_ret;exact⟨rfl,m7⟩
  ·have hd:=Df hH;rw[if_neg hH]at hF;subst hF;clear HQ HS HZ;go_wp2_with fail;go_ret;exact⟨rfl,m4⟩
 ·
  have Fk:Hid (z.r.sg.l.headD sg0=g):=Hi (by rw[hl];rfl);have jd:decide ((0:Int)<((z.r.sg.l.length:Nat):Int))=true:=Dt (by rw[hl];simp);have Oy:decide (0<z.r.sg.l.length)=true:=Dt (by rw[hl];simp);have ag:0<z.r.sg.l.length:=by rw[hl];simp
  obtain⟨b1,o1,C1,U1,fr1,Oh,kl0,gy,jz⟩:=HZ.out.block (i:=0) (x:=g) (by rw[hl];rfl);simp only[aWy,aXz]at gy jz;have kl:=m2b.at0 kl0;have jw:b1≠p5:=by have:=aA kl0;omega
  clear kl0 hl;go_upto_region 3 with fail;have Lkp:=aA kp;have Lkd:=aA kd;have Lkp3:=aA kp3;have Lkl:=aA kl;have Lkp5:=aA kp5;refine ZP0 [0,0,0,1,0,1,5] ?_
  iterate 6 first|refine Zv ?_|refine Zd ?_
  refine Zi fun wE hr=> ?_;replace kp:=hr.mod.at0 kp;replace kd:=hr.mod.at0 kd;replace kp3:=hr.mod.at0 kp3;replace kl:=hr.mod.at0 kl;replace kp5:=hr.mod.at0 kp5;have mE:=hr.mod;refine ZS ?_;refine ZN kp5 fun w3 kp5 mS=> ?_;(try simp only[Array.setIfInBounds,zL]at kp5);replace kp:=mS.at_ne kp (by omega);replace kd:=mS.at_ne kd (by omega);replace kp3:=mS.at_ne kp3 (by omega);replace kl:=mS.at_ne kl (by omega);have m3:=(m2b.then0 mE).thenB mS (.inl hb5);clear mE mS m2b kl jz gy Oh;go_upto_region 4 with fail;have Lkp:=aA kp;have Lkd:=aA kd;have Lkp3:=aA kp3;have Lkp5:=aA kp5;refine ZR (fun _ _ v=>∃i:Nat,v= .tuple #[.int .i64 (i:Int),.bool (decide (z.r.rc∈H))]) [0,0,0,1,0,0,1,0,0,0,0,1,2,0,0,0,0,0] ?_
  iterate 12 first|refine Zv ?_|refine Zd ?_
  (refine Zc ?_ (s:=by intro wq ae;exact(age_c D.q H z.r.rc wq (HQ.out.mod0 (m3.then0 ae))).mono (fun e w' ⟨i,h1,h2⟩=>⟨_,h1,⟨i,rfl⟩,h2⟩));rintro _ ⟨ia,rfl⟩;try simp only[zL])
  iterate 5 refine Zv ?_
  refine TD.nil (fun w4 hr=> ?_);replace kp:=hr.q kp;replace kd:=hr.q kd;replace kp3:=hr.q kp3;replace kp5:=hr.q kp5;have m4:=m3.then0 hr.mod;clear hr m3;by_cases hH:z.r.rc∈H
  ·have hd:=Dt hH;go_upto_region 7 with fail;have Lkp:=aA kp;have Lkd:=aA kd;have Lkp3:=aA kp3;have Lkp5:=aA kp5;refine ZR (fun _ _ v=>v= .bool (lkp (g) N).isSome) [0,0,0,1,0,0,1,1,2] ?_
   iterate 8 first|refine Zv ?_|refine Zd ?_
   (refine Zc ?_ (s:=by intro wq ae;exact(shas_c D.sn N (g) wq (HS.out.mod0 (m4.then0 ae))).mono (fun e w' h=>⟨_,h.1,rfl,h.2⟩));rintro _ rfl;try simp only[zL]);refine TD.nil (fun w7 hr=> ?_);replace kp:=hr.q kp;replace kd:=hr.q kd;replace kp3:=hr.q kp3;replace kp5:=hr.q kp5;have m7:=m4.then0 hr.mod;clear hr m4;cases hL:(lkp (g) N).isSome with
   |true=>
    rw[if_pos hH,Fk.out,hL,if_pos rfl]at hF;subst hF;clear HQ HS HZ;go_wp2_with fail;go_ret;exact⟨rfl,m7⟩
   |false=>
    rw[if_pos hH,Fk.out,hL,if_neg (by simp)]at hF;subst hF;clear HQ HS HZ;go_wp2_with fail;go_ret;exact⟨rfl,m7⟩
  ·have hd:=Df hH;rw[if_neg hH]at hF;subst hF;clear HQ HS HZ;go_wp2_with fail;go_ret;exact⟨rfl,m4⟩
end
end
def BY (n m:Int):Bool:=decide (1≤n)&&decide (n≤m)
def cfB (n room win bat fli hold own:Int):Bool:=BY n 64&&(BY room 4096&&(BY win 256&&(BY bat 64&&(BY fli 256&&(decide (0≤hold)&&decide (own≠0))))))
def oY (sp:Wg) (room win bat fli:Int) (l1 l2 l3 fw:Wg) (hold:Int) (own:Wg):Wa:= #[sp,.int .i64 room,.int .i64 win,.int .i64 bat,.int .i64 fli,l1,l2,l3,fw,.int .i64 hold,own]
theorem o0 (n m:Int) (w:We):Calls Tryz.prog 78 #[.int .i64 n,.int .i64 m] w fun e w'=>e= .returned (.bool (BY n m))∧w'=w:=by
 unfold BY;go_enter Tryz.func78,Tryz.ntmps78;by_cases h1:1≤n
 ·by_cases h2:n≤m
  ·go_wp2_with fail;go_ret;simp[h1,h2]
  ·go_wp2_with fail;go_ret;simp[h1,h2]
 ·go_wp2_with fail;go_ret;simp;omega
theorem uF (sa:Wb) (sn sc:Nat) (room win bat fli:Int) (l1 l2 l3 fw:Wg) (hold:Int) (oa:Wb) (on oc:Nat) (w:We):
  Calls Tryz.prog 38 #[.agg (oY (.slice sa sn sc) room win bat fli l1 l2 l3 fw hold (.slice oa on oc))] w fun e w'=>e= .returned (.int .i64 (if cfB sn room win bat fli hold on then 0 else 1))∧Mod (fun _=>False) w w':=by
 obtain⟨r,hr⟩:∃r:Int,(if cfB sn room win bat fli hold on then 0 else 1)=r:=⟨_,rfl⟩;rw[hr];have HR:=Hi hr;clear hr;unfold oY;go_enter Tryz.func38,Tryz.ntmps38;go_upto_region 0 with fail;refine ZP0 [3,0] ?_;refine Zb fun p1 fx=> ?_;refine Zv ?_;refine TD.nil (fun w1 hr=> ?_);obtain⟨gp1,kp1⟩:=hr.b p1;have m1:=hr.mod;clear hr;go_wp2_with fail;cases h1:BY (sn:Int) 64 with
 |false=>
  go_at_call 78;refine(o0 _ _ _).mono ?_;rintro e w' ⟨rfl,rfl⟩;rw[h1];go_wp2_with fail;go_ret;exact⟨by rw[←HR.out];simp[cfB, *],m1⟩
 |true=>
  go_at_call 78;refine(o0 _ _ _).mono ?_;rintro e w' ⟨rfl,rfl⟩;rw[h1];go_wp2_with fail;cases h2:BY room 4096 with
  |false=>
   go_at_call 78;refine(o0 _ _ _).mono ?_;rintro e w' ⟨rfl,rfl⟩;rw[h2];go_wp2_with fail;go_ret;exact⟨by rw[←HR.out];simp[cfB, *],m1⟩
  |true=>
   go_at_call 78;refine(o0 _ _ _).mono ?_;rintro e w' ⟨rfl,rfl⟩;rw[h2];go_wp2_with fail;cases h3:BY win 256 with
   |false=>
    go_at_call 78;refine(o0 _ _ _).mono ?_;rintro e w' ⟨rfl,rfl⟩;rw[h3];go_wp2_with fail;go_ret;exact⟨by rw[←HR.out];simp[cfB, *],m1⟩
   |true=>
    go_at_call 78;refine(o0 _ _ _).mono ?_;rintro e w' ⟨rfl,rfl⟩;rw[h3];go_wp2_with fail;cases h4:BY bat 64 with
    |false=>
     go_at_call 78;refine(o0 _ _ _).mono ?_;rintro e w' ⟨rfl,rfl⟩;rw[h4];go_wp2_with fail;go_ret;exact⟨by rw[←HR.out];simp[cfB, *],m1⟩
    |true=>
     go_at_call 78;refine(o0 _ _ _).mono ?_;rintro e w' ⟨rfl,rfl⟩;rw[h4];go_wp2_with fail;cases h5:BY fli 256 with
     |false=>
      go_at_call 78;refine(o0 _ _ _).mono ?_;rintro e w' ⟨rfl,rfl⟩;rw[h5];go_wp2_with fail;go_ret;exact⟨by rw[←HR.out];simp[cfB, *],m1⟩
     |true=>
      by_cases h6:0≤hold
      ·have h6':¬hold<0:=by omega
       by_cases h7:(on:Int)=0
       ·have h7':on=0:=by omega
        subst h7';go_at_call 78;refine(o0 _ _ _).mono ?_;rintro e w' ⟨rfl,rfl⟩;rw[h5];go_wp2_with fail;go_ret;exact⟨by rw[←HR.out];simp[cfB, *],m1⟩
       ·have h7':¬on=0:=by omega
        have h7b:((on:Int)==0)=false:=by simp;omega
        go_at_call 78;refine(o0 _ _ _).mono ?_;rintro e w' ⟨rfl,rfl⟩;rw[h5];go_wp2_with fail;go_ret;exact⟨by rw[←HR.out];simp[cfB, *],m1⟩
      ·have h6':hold<0:=by omega
       go_at_call 78;refine(o0 _ _ _).mono ?_;rintro e w' ⟨rfl,rfl⟩;rw[h5];go_wp2_with fail;go_ret;exact⟨by rw[←HR.out];simp[cfB, *];omega,m1⟩
def EP (o:Option Nat):Wg:= .pointer (o.map fun b=>⟨b,0,none⟩)
def ZI (sp:Wg) (room win bat fli:Int) (l1 l2 l3 fw:Wg) (hold:Int) (own:Wg) (b t ln q sn:Option Nat) (fv cv:Wg):Wa:= #[sp,.int .i64 room,.int .i64 win,.int .i64 bat,.int .i64 fli,l1,l2,l3,fw,.int .i64 hold,own,EP b,EP t,EP ln,EP q,EP sn,fv,cv]
def whB (b t ln q sn:Option Nat) (n fn cn:Nat):Bool:=b.isSome&&(t.isSome&&(ln.isSome&&(q.isSome&&(sn.isSome&&(decide (fn=n)&&decide (cn=n))))))
theorem CW {d:Nat} {w:We} {sa:Wb} {sn sc:Nat} {room win bat fli:Int} {l1 l2 l3 fw:Wg} {hold:Int} {oa:Wb} {on oc:Nat} {b t ln q sn2:Option Nat} {fa ca:Wb} {fn fc cn cc:Nat}
  (kd:w.heap[d]? =some (.cells (ZI (.slice sa sn sc) room win bat fli l1 l2 l3 fw hold (.slice oa on oc) b t ln q sn2 (.slice fa fn fc) (.slice ca cn cc)) 69 (0,0))):
  Calls Tryz.prog 29 #[ptrV d] w fun e w'=>e= .returned (.int .i64 (if whB b t ln q sn2 sn fn cn then(if cfB sn room win bat fli hold on then 0 else 1)else 2))∧Mod (fun _=>False) w w':=by
 obtain⟨r,hr⟩:∃r:Int,(if whB b t ln q sn2 sn fn cn then(if cfB sn room win bat fli hold on then 0 else 1)else 2)=r:=⟨_,rfl⟩;rw[hr];have HR:=Hi hr;clear hr;unfold ZI EP at kd;go_enter Tryz.func29,Tryz.ntmps29;cases b with
 |none=>
  go_upto_region 1 with fail;have Lkd:=aA kd;refine ZP [0,0,0,0,0,0,1,0,0,0,0,0,0,1,0,0,0,0,0,0,1,0,0,0,0,0,0,1,0,0,0,0,0,0,1,0,0,0,0,0,0,1,0,0,0,0,0,1,0,0,0,0,0,0,0,1,0,0,0,0,0,1,0,0,0] ?_
  iterate 65 first|refine Zo ?_|refine Zp ?_|refine Zv ?_|refine Zd ?_
  refine TD.nil (fun w1 hr=> ?_);replace kd:=hr.q kd;have m1:=hr.mod;clear hr;go_wp2_with fail;go_ret;exact⟨by rw[←HR.out];simp[whB, *],m1⟩
 |some b=>
  cases t with
  |none=>
   go_upto_region 1 with fail;have Lkd:=aA kd;refine ZP [0,0,0,0,0,0,1,0,0,0,0,0,0,1,0,0,0,0,0,0,1,0,0,0,0,0,0,1,0,0,0,0,0,0,1,0,0,0,0,0,0,1,0,0,0,0,0,1,0,0,0,0,0,0,0,1,0,0,0,0,0,1,0,0,0] ?_
   iterate 65 first|refine Zo ?_|refine Zp ?_|refine Zv ?_|refine Zd ?_
   refine TD.nil (fun w1 hr=> ?_);replace kd:=hr.q kd;have m1:=hr.mod;clear hr;go_wp2_with fail;go_ret;exact⟨by rw[←HR.out];simp[whB, *],m1⟩
  |some t=>
   cases ln with
   |none=>
    go_upto_region 1 with fail;have Lkd:=aA kd;refine ZP [0,0,0,0,0,0,1,0,0,0,0,0,0,1,0,0,0,0,0,0,1,0,0,0,0,0,0,1,0,0,0,0,0,0,1,0,0,0,0,0,0,1,0,0,0,0,0,1,0,0,0,0,0,0,0,1,0,0,0,0,0,1,0,0,0] ?_
    iterate 65 first|refine Zo ?_|refine Zp ?_|refine Zv ?_|refine Zd ?_
    refine TD.nil (fun w1 hr=> ?_);replace kd:=hr.q kd;have m1:=hr.mod;clear hr;go_wp2_with fail;go_ret;exact⟨by rw[←HR.out];simp[whB, *],m1⟩
   |some ln=>
    cases q with
    |none=>
     go_upto_region 1 with fail;have Lkd:=aA kd;refine ZP [0,0,0,0,0,0,1,0,0,0,0,0,0,1,0,0,0,0,0,0,1,0,0,0,0,0,0,1,0,0,0,0,0,0,1,0,0,0,0,0,0,1,0,0,0,0,0,1,0,0,0,0,0,0,0,1,0,0,0,0,0,1,0,0,0] ?_
     iterate 65 first|refine Zo ?_|refine Zp ?_|refine Zv ?_|refine Zd ?_
     refine TD.nil (fun w1 hr=> ?_);replace kd:=hr.q kd;have m1:=hr.mod;clear hr;go_wp2_with fail;go_ret;exact⟨by rw[←HR.out];simp[whB, *],m1⟩
    |some q=>
     cases sn2 with
     |none=>
      go_upto_region 1 with fail;have Lkd:=aA kd;refine ZP [0,0,0,0,0,0,1,0,0,0,0,0,0,1,0,0,0,0,0,0,1,0,0,0,0,0,0,1,0,0,0,0,0,0,1,0,0,0,0,0,0,1,0,0,0,0,0,1,0,0,0,0,0,0,0,1,0,0,0,0,0,1,0,0,0] ?_
      iterate 65 first|refine Zo ?_|refine Zp ?_|refine Zv ?_|refine Zd ?_
      refine TD.nil (fun w1 hr=> ?_);replace kd:=hr.q kd;have m1:=hr.mod;clear hr;go_wp2_with fail;go_ret;exact⟨by rw[←HR.out];simp[whB, *],m1⟩
     |some sn2=>
      by_cases h1:fn=sn
      ·subst h1;by_cases h2:cn=fn
       ·subst h2;have hc:=fun wq (_:Mod (fun _=>False) w wq)=>uF sa cn sc room win bat fli l1 l2 l3 fw hold oa on oc wq;unfold oY at hc;have HC:=Hi hc;clear hc;go_upto_region 1 with fail;have Lkd:=aA kd;refine ZP [0,0,0,0,0,0,1,0,0,0,0,0,0,1,0,0,0,0,0,0,1,0,0,0,0,0,0,1,0,0,0,0,0,0,1,0,0,0,0,0,0,1,0,0,0,0,0,1,0,0,0,0,0,0,0,1,0,0,0,0,0,1,0,0,0] ?_
        iterate 65 first|refine Zv ?_|refine Zd ?_
        refine TD.nil (fun w1 hr=> ?_);replace kd:=hr.q kd;have m1:=hr.mod;clear hr;have HC:=Hi (HC.out _ m1);go_wp2_with fail;go_at_call 38;refine HC.out.mono ?_;rintro e w2 ⟨rfl,m2⟩;obtain⟨r2,di⟩:∃r2:Int,(if cfB cn room win bat fli hold on then 0 else 1)=r2:=⟨_,rfl⟩;rw[di];have qy:=Hi di;clear di;go_wp2_with fail;go_ret;exact⟨by rw[←HR.out,←qy.out];simp[whB],m1.then0 m2⟩
       ·have h3:((cn:Int) !=(fn:Int))=true:=by simp;omega
        have h4:((fn:Int) !=(fn:Int))=false:=by simp
        go_upto_region 1 with fail;have Lkd:=aA kd;refine ZP [0,0,0,0,0,0,1,0,0,0,0,0,0,1,0,0,0,0,0,0,1,0,0,0,0,0,0,1,0,0,0,0,0,0,1,0,0,0,0,0,0,1,0,0,0,0,0,1,0,0,0,0,0,0,0,1,0,0,0,0,0,1,0,0,0] ?_
        iterate 65 first|refine Zv ?_|refine Zd ?_
        refine TD.nil (fun w1 hr=> ?_);replace kd:=hr.q kd;have m1:=hr.mod;clear hr;go_wp2_with fail;go_ret;exact⟨by rw[←HR.out];simp[whB, *],m1⟩
      ·have h3:((fn:Int) !=(sn:Int))=true:=by simp;omega
       go_upto_region 1 with fail;have Lkd:=aA kd;refine ZP [0,0,0,0,0,0,1,0,0,0,0,0,0,1,0,0,0,0,0,0,1,0,0,0,0,0,0,1,0,0,0,0,0,0,1,0,0,0,0,0,0,1,0,0,0,0,0,1,0,0,0,0,0,0,0,1,0,0,0,0,0,1,0,0,0] ?_
       iterate 65 first|refine Zo ?_|refine Zp ?_|refine Zv ?_|refine Zd ?_
       refine TD.nil (fun w1 hr=> ?_);replace kd:=hr.q kd;have m1:=hr.mod;clear hr;go_wp2_with fail;go_ret;exact⟨by rw[←HR.out];simp[whB, *],m1⟩
structure Ev where
 win:Nat
 bat:Nat
 fli:Nat
 n:Nat
 spd:Wd
 H:List aN
 N:List (Sg×aN)
structure Pa where
 S:List (Option It)
 D:List Nd
 K:List Rn
 q:Nat
 L:List Lk
 al:List aT
 hi:List (Wi×Nat)
 op:List (Wc)
 gi:List (Nat×Wc)
 dr:List (Wj×Nat)
 sd:Wc
 la:List (List (Wc))
 fl:Wd
 co:List Wj
def ix (i:Wi):Nat:=i.toInt.toNat
def itS (S:List (Option It)) (i:Wi):Option It:=(S[ix i]?).join
def roS (S:List (Option It)) (i:Wi):List aT:=((itS S i).map fun x=>x.r.ro).getD []
def fillP (E:Ev):List Nd→Pa→Pa
 |[],s=> {s with D:=[]}
 |y::D,s=>if s.K.length<E.win then
   match itS s.S y.id with
   |some x=>if bP E.H E.N x.r=0 then fillP E D {s with S:=s.S.set (ix y.id) (some {x with pl:=1}),K:=s.K++[⟨y.id,eF s.K y.id x.r.ro,x.r.ro⟩],q:=s.q+1}
    else fillP E D {s with S:=s.S.set (ix y.id) none,dr:=s.dr++[(x.n,bP E.H E.N x.r)]}
   |none=> {s with D:=y::D}
  else{s with D:=y::D}
def drc (x:Wj×Nat):Wa:= #[u64v x.1,.int .u8 (x.2:Int)]
structure Gv where
 w:Nat
 a:Wb
 n:Nat
 c:Nat
def gvc (x:Gv):Wa:= #[.int .i64 (x.w:Int),.slice x.a x.n x.c]
theorem P7:oM Tryz.prog 52 97 drc 2 16 where
 u:=Tryz.underlying52
 info:=by
  obtain⟨i0,hi,cy,bj,bp⟩:=info_parts (show(Tryz.prog.info? 97).map (fun i=>(i.zero,i.size,i.bytes))=some (some (.agg #[.int .u64 0,.int .u8 0]),2,16)by kernel_rfl);exact⟨i0,_,hi,cy,bj,bp,rfl⟩
 pos:=by omega
 size:=fun _=>rfl
 one:=fun x u hu=>by
  simp only[drc,aZc,aZe,or_false]at hu;rcases hu with rfl|rfl<;>rfl
theorem WX:oM Tryz.prog 51 86 gvc 2 32 where
 u:=Tryz.underlying51
 info:=by
  obtain⟨i0,hi,cy,bj,bp⟩:=info_parts (show(Tryz.prog.info? 86).map (fun i=>(i.zero,i.size,i.bytes))=some (some (.agg #[.int .i64 0,.slice none 0 0]),2,32)by kernel_rfl);exact⟨i0,_,hi,cy,bj,bp,rfl⟩
 pos:=by omega
 size:=fun _=>rfl
 one:=fun x u hu=>by
  simp only[gvc,aZc,aZe,or_false]at hu;rcases hu with rfl|rfl<;>rfl
def RowL {α:Type} (f:α→Wa) (n:Nat) (E:Wh) (v:Wg) (l:List α):aK:=fun T w=>aE f n E w 0 v l∧∀g,v.ownBlock=some g→T g
theorem RowL.good {α:Type} (f:α→Wa) (n:Nat) (E:Wh) (v:Wg) (l:List α):aH (RowL f n E v l) where
 cl:=fun T w w' h hm=>⟨h.1.mod hm (fun g hg hn=>hn (h.2 g hg)),h.2⟩
 gr:=fun T T' w hT h=>⟨h.1,fun g hg=>hT g (h.2 g hg)⟩
theorem RowL.app {α:Type} {f:α→Wa} {n B:Nat} {Y E:Wh} (hT:oM Tryz.prog Y E f n B) {v:Wg} {l q:List α} {T:Nat→Prop} {w:We} (h:RowL f n E v l T w) {a:Wb} {c:Nat} (hq:aS f n w a q) (ag:l.length+q.length≤1000000) (hB:B≤100000000) (ty:Wh):
  ∃v' w',(Builtin.append_ #[Y,Y] ty #[v,.slice a q.length c]).run Tryz.prog w= .ok v' w'∧Goes (RowL f n E v' (l++q)) T w w':=by
 obtain⟨v',w',h1,h2,h3,h4⟩:=aE.append hT (c:=c) h.1 hq ag hB (aYf _) ty;refine⟨v',w',h1,Grow T w w',⟨h2,fun g hg=> ?_⟩,h3.mono (fun i _ hi=>h.2 i hi),fun _ h=>h⟩;have hlt:=(h2.lt g hg).2;rcases h4 with h4|h4
 ·rw[h4]at hg;exact .inl (h.2 g hg)
 ·rw[h4]at hg;cases hg;exact .inr ⟨aZq _,hlt⟩
def CeL (b:Nat) (C:Wa) (E:Wh):aK:=fun T w=>T b∧w.heap[b]? =some (.cells C E (0,0))
theorem CeL.good (b:Nat) (C:Wa) (E:Wh):aH (CeL b C E):=aH.at b _
def natV (n:Nat):Wg:= .int .i64 (n:Int)
def OG (b:Nat) (m:List (Wi×Nat)):aK:=fun T w=>T b∧∃es c,w.heap[b]? =some (.map es c)∧aR uP natV es c m
theorem OG.good (b:Nat) (m:List (Wi×Nat)):aH (OG b m) where
 cl:=fun T w w' ⟨t,es,c,h,M⟩ hm=>⟨t,es,c,hm.at h (fun e=>e t),M⟩
 gr:=fun T T' w hT ⟨t,h⟩=>⟨hT _ t,h⟩
def BatL (n:Nat) (V:List Wg) (L:List (Wc)):aK:=fun T w=>V.length=L.length∧(∀(j:Nat) (v:Wg) (l:Wc),V[j]? =some v→L[j]? =some l→(j<n→aE ic 1 3 w 0 v l)∧(n≤j→aZ ic 1 3 0 w v l)∧∀g,v.ownBlock=some g→T g)∧∀(i j:Nat) (u v:Wg),i≠j→V[i]? =some u→V[j]? =some v→∀g,u.ownBlock=some g→v.ownBlock≠some g
theorem BatL.good (n:Nat) (V:List Wg) (L:List (Wc)):aH (BatL n V L) where
 cl:=fun T w w' h hm=>⟨h.1,fun j v l h1 h2=>by
  obtain⟨k1,k2,k3⟩:=h.2.1 j v l h1 h2;exact⟨fun hj=>(k1 hj).mod hm (fun g hg hn=>hn (k3 g hg)),fun hj=>(k2 hj).mod hm (fun g hg hn=>hn (k3 g hg)),k3⟩,h.2.2⟩
 gr:=fun T T' w hT h=>⟨h.1,fun j v l h1 h2=>by
  obtain⟨k1,k2,k3⟩:=h.2.1 j v l h1 h2;exact⟨k1,k2,fun g hg=>hT g (k3 g hg)⟩,h.2.2⟩
theorem BatL.move {n j:Nat} {V:List Wg} {A B:List (Wc)} {T:Nat→Prop} {w:We} (h:BatL n V (A++B) T w) (hA:A.length=n) {b:Wc} (hj:A[j]? =some b) {v v2:Wg} (hv:V[j]? =some v) (hN:aZ ic 1 3 0 w v2 b) (ho:v2.ownBlock=v.ownBlock):
  BatL n (V.set j (.slice none 0 0)++[v2]) (A.set j []++(B++[b])) T w:=by
 have Me:=(aZa.1 hj).1;have Jb:=(aZa.1 hv).1;have re:=h.1;rw[aZg]at re;have hLe:A.set j []++(B++[b])=(A++B).set j []++[b]:=by rw[List.set_append_left _ _ Me,aZw]
 have ft:(A++B)[j]? =some b:=by rw[aZt Me];exact hj
 have hvT:=(h.2.1 j v b hv ft).2.2;have vu:∀(i:Nat) (u:Wg),(V.set j (.slice none 0 0)++[v2])[i]? =some u→(u= .slice none 0 0∧i=j)∨(V[i]? =some u∧i≠j∧i<V.length)∨(u=v2∧i=V.length):=fun i u hu=>by
  rw[List.getElem?_append]at hu;split at hu
  ·rename_i hlt;rw[List.getElem?_set]at hu;split at hu
   ·rename_i e
    (try split at hu)<;>cases hu
    exact .inl ⟨rfl,e.symm⟩
   ·rename_i e;rw[aZn]at hlt;exact .inr (.inl ⟨hu,fun e2=>e e2.symm,hlt⟩)
  ·rename_i hlt;rw[aZn]at hlt hu;have h1:=(aZa.1 hu).1;have h2:i=V.length:=by simp at h1;omega
   subst h2;rw[aXn]at hu;cases hu;exact .inr (.inr ⟨rfl,rfl⟩)
 rw[hLe];refine⟨by simp[re],fun i u l hu hl=> ?_,fun i k u u' Ak hu og g hg=> ?_⟩
 ·rcases vu i u hu with⟨rfl,rfl⟩|⟨h1,h2,h3⟩|⟨rfl,rfl⟩
  ·rw[aZt (by rw[aZn,aZg];omega),List.getElem?_set_self (by rw[aZg];omega)]at hl;cases hl;exact⟨fun _=>aE.nil w 0,fun _=> .inl ⟨rfl,rfl⟩,fun g hg=>by cases hg⟩
  ·rw[aZt (by rw[aZn,aZg];omega),aZ0 (fun e=>h2 e.symm)]at hl;exact h.2.1 i u l h1 hl
  ·have ec:l=b:=by
    rw[aZ3 (by rw[aZn,aZg];omega),aZn,aZg,re,aXn]at hl;cases hl;rfl
   subst ec;exact⟨fun hlt=>by omega,fun _=>hN,fun g hg=>hvT g (by rw[←ho];exact hg)⟩
 ·rcases vu i u hu with⟨rfl,rfl⟩|⟨h1,h2,h3⟩|⟨rfl,rfl⟩
  ·cases hg
  ·rcases vu k u' og with⟨rfl,rfl⟩|⟨k1,k2,k3⟩|⟨rfl,rfl⟩
   ·exact fun e=>by cases e
   ·exact h.2.2 i k u u' Ak h1 k1 g hg
   ·rw[ho];exact h.2.2 i j u v h2 h1 hv g hg
  ·rw[ho]at hg;rcases vu k u' og with⟨rfl,rfl⟩|⟨k1,k2,k3⟩|⟨rfl,rfl⟩
   ·exact fun e=>by cases e
   ·exact h.2.2 j k v u' (fun e=>k2 e.symm) hv k1 g hg
   ·exact absurd rfl Ak
structure Md where
 D:Dk
 X:Pk
 p:Nat
 sb:Nat
 fb:Nat
 cb:Nat
 ob:Nat
 V:List Wg
 G:List Gv
 sc:Nat
 sx:List Wg
def parts (M:Md) (E:Ev) (s:Pa):List aK:=
 [CeL M.p (pac M.X) 121,CeL M.X.d (iE M.D) 69,BT M.D.b s.S,GL M.X.g s.q s.K,RowL drc 2 97 M.X.dv s.dr,tT M.D.q E.H,vZ M.D.sn E.N,fO M.D.t E.n s.L,nE M.D.ln E.n s.la,iT M.X.ab (addB [] s.al),
  CeL M.fb (s.fl.map natV).toArray 3,CeL M.cb (s.co.map u64v).toArray 23,CeL M.sb (E.spd.map fv++M.sx).toArray 129,OG M.X.hb s.hi,CeL M.ob (M.V.take E.n).toArray 53,BatL E.n M.V (s.op++s.gi.map Prod.snd),RowL gvc 2 86 M.X.gv M.G,RowL ic 1 3 M.X.av s.sd]
theorem parts.good (M:Md) (E:Ev) (s:Pa):∀K∈parts M E s,aH K:=by
 intro K hK;simp only[parts,aZc,aZe,or_false]at hK;rcases hK with rfl|rfl|rfl|rfl|rfl|rfl|rfl|rfl|rfl|rfl|rfl|rfl|rfl|rfl|rfl|rfl|rfl|rfl
 ·exact CeL.good _ _ _
 ·exact CeL.good _ _ _
 ·exact BT.good _ _
 ·exact GL.good _ _ _
 ·exact RowL.good _ _ _ _ _
 ·exact tT.good _ _
 ·exact vZ.good _ _
 ·exact fO.good _ _ _
 ·exact nE.good _ _ _
 ·exact iT.good _ _
 ·exact CeL.good _ _ _
 ·exact CeL.good _ _ _
 ·exact CeL.good _ _ _
 ·exact OG.good _ _
 ·exact CeL.good _ _ _
 ·exact BatL.good _ _ _
 ·exact RowL.good _ _ _ _ _
 ·exact RowL.good _ _ _ _ _
structure FO (M:Md) (E:Ev) (s:Pa):Prop where
 win:M.D.win=E.win
 bat:M.D.bat=E.bat
 fli:M.D.fli=E.fli
 n1:1≤E.n
 n2:E.n≤64
 fv:M.D.fv= .slice (some ⟨M.fb,0,none⟩) E.n E.n
 cv:M.D.cv= .slice (some ⟨M.cb,0,none⟩) E.n E.n
 sv:M.D.sp= .slice (some ⟨M.sb,0,none⟩) E.n M.sc
 ov:M.X.ov= .slice (some ⟨M.ob,0,none⟩) E.n E.n
 fl:s.fl.length=E.n
 co:s.co.length=E.n
 sp:E.spd.length=E.n
 op:s.op.length=E.n
 la:s.la.length=E.n
 gw:M.G.map (fun x=>(x.w,Value.slice x.a x.n x.c))=(s.gi.map Prod.fst).zip (M.V.drop E.n)
 gl:s.gi.length=M.G.length
def bY (p d:Nat) (E:Ev) (s:Pa):aK:=fun T w=>∃M:Md,M.p=p∧M.X.d=d∧FO M E s∧bW (parts M E s) T w
theorem bY.good (p d:Nat) (E:Ev) (s:Pa):aH (bY p d E s) where
 cl:=fun T w w' ⟨M,h1,h2,h3,h4⟩ hm=>⟨M,h1,h2,h3,(bW.good (parts.good M E s)).cl _ _ _ h4 hm⟩
 gr:=fun T T' w hT ⟨M,h1,h2,h3,h4⟩=>⟨M,h1,h2,h3,(bW.good (parts.good M E s)).gr _ _ _ hT h4⟩
structure jO (s:Pa):Prop where
 pm:s.D.Perm (fJ 0 s.S)
 sr:nG s.D
 qb:s.q+s.D.length≤800
 kd:∀x∈s.K,∀y∈s.D,x.id≠y.id
 db:s.dr.length+s.D.length≤10000
 ro:∀(i:Nat) (x:It),s.S[i]? =some (some x)→x.r.ro.length≤800
 sl:s.S.length≤4096
theorem uS {i:Nat} (h:i<9223372036854775808):ix (idn i)=i:=by
 unfold ix;rw[bR h];omega
theorem pB (E:Ev):∀(D:List Nd) (s:Pa) (X:List Nd),fillP E D {s with D:=X}=fillP E D s
 |[],s,X=>rfl
 |y::D,s,X=>by
  unfold fillP;dsimp only;split
  ·cases itS s.S y.id with
   |none=>rfl
   |some x=>
    dsimp only;split
    ·exact pB E D {s with S:=s.S.set (ix y.id) (some {x with pl:=1}),K:=s.K++[⟨y.id,eF s.K y.id x.r.ro,x.r.ro⟩],q:=s.q+1} X
    ·exact pB E D {s with S:=s.S.set (ix y.id) none,dr:=s.dr++[(x.n,bP E.H E.N x.r)]} X
  ·rfl
theorem jO.head {s:Pa} (h:jO s) {y:Nd} {D:List Nd} (hD:s.D=y::D):∃i x,y=⟨x.rk,idn i⟩∧s.S[i]? =some (some x)∧x.pl=0∧ix y.id=i∧itS s.S y.id=some x∧i<4096:=by
 obtain⟨i,x,h1,h2,rfl⟩:=fS (h.pm.mem_iff.1 (by rw[hD];exact List.mem_cons_self));rw[aXe]at *;have hi:=(aZa.1 h1).1;have hs:=h.sl;have hx:ix (idn i)=i:=uS (by omega);refine⟨i,x,rfl,h1,h2,hx,?_,by omega⟩;unfold itS;dsimp only;rw[hx,h1];rfl
theorem jO.tail {s:Pa} (h:jO s) {y:Nd} {D:List Nd} (hD:s.D=y::D) {i:Nat} {x:It} (hy:y=⟨x.rk,idn i⟩) (hx:s.S[i]? =some (some x)) (hp:x.pl=0):D.Perm (wtgo i s.S)∧nG D:=by
 have hs:=h.sl;have h1:=nM (by omega) h.pm hx hp;rw[hD,hy,List.eraseP_cons_of_pos (by simp)]at h1;have h2:=h.sr;rw[hD]at h2;exact⟨h1,(List.pairwise_cons.1 h2).2⟩
theorem jO.put {s:Pa} (h:jO s) {y:Nd} {D:List Nd} (hD:s.D=y::D) {i:Nat} {x:It} (hy:y=⟨x.rk,idn i⟩) (hx:s.S[i]? =some (some x)) (hp:x.pl=0) (c:Wi):jO {s with S:=s.S.set i (some {x with pl:=1}),K:=s.K++[⟨y.id,c,x.r.ro⟩],q:=s.q+1,D:=D}:=by
 obtain⟨h1,h2⟩:=h.tail hD hy hx hp;have hi:=(aZa.1 hx).1;have hs:=h.sl;have hq:=h.qb;have Iq:=h.db;rw[hD,aZu]at hq Iq;refine⟨iK h1 hi (by simp[nodeOf]),h2,by show s.q+1+D.length≤800;omega,fun z hz u hu=> ?_,by show s.dr.length+D.length≤10000;omega,fun j z hj=> ?_,by show(s.S.set i _).length≤4096;rw[aZn];exact hs⟩
 ·rcases aZh.1 hz with hz|hz
  ·exact h.kd z hz u (by rw[hD];exact aZp _ hu)
  ·obtain rfl:=aZm.1 hz;rw[hy];exact fun e=>pP (by omega) (h1.mem_iff.1 hu) hi e.symm
 ·dsimp only at hj;rw[List.getElem?_set]at hj;split at hj
  ·(try split at hj)<;>cases hj
   exact h.ro i x hx
  ·exact h.ro j z hj
theorem jO.drop {s:Pa} (h:jO s) {y:Nd} {D:List Nd} (hD:s.D=y::D) {i:Nat} {x:It} (hy:y=⟨x.rk,idn i⟩) (hx:s.S[i]? =some (some x)) (hp:x.pl=0) (f:Wj×Nat):jO {s with S:=s.S.set i none,dr:=s.dr++[f],D:=D}:=by
 obtain⟨h1,h2⟩:=h.tail hD hy hx hp;have hi:=(aZa.1 hx).1;have hs:=h.sl;have hq:=h.qb;have Iq:=h.db;rw[hD,aZu]at hq Iq;refine⟨iK h1 hi (by simp[nodeOf]),h2,by show s.q+D.length≤800;omega,fun z hz u hu=>h.kd z hz u (by rw[hD];exact aZp _ hu),by show(s.dr++[f]).length+D.length≤10000;rw[aZg,aZx];omega,fun j z hj=> ?_,by show(s.S.set i _).length≤4096;rw[aZn];exact hs⟩;dsimp only at hj;rw[List.getElem?_set]at hj;split at hj
 ·(try split at hj)<;>cases hj
 ·exact h.ro j z hj
theorem sX {E:Ev} {s:Pa} {y:Nd} {D:List Nd} {i:Nat} {x:It} (hD:s.D=y::D) (hl:s.K.length<E.win) (hi:ix y.id=i) (hx:itS s.S y.id=some x) (hf:bP E.H E.N x.r=0):
  fillP E s.D s=fillP E D {s with S:=s.S.set i (some {x with pl:=1}),K:=s.K++[⟨y.id,eF s.K y.id x.r.ro,x.r.ro⟩],q:=s.q+1,D:=D}:=by
 rw[hD]
 conv=>lhs;unfold fillP
 rw[if_pos hl,hx];dsimp only;rw[if_pos hf,hi];exact(pB E D {s with S:=s.S.set i (some {x with pl:=1}),K:=s.K++[⟨y.id,eF s.K y.id x.r.ro,x.r.ro⟩],q:=s.q+1} D).symm
theorem qN {E:Ev} {s:Pa} {y:Nd} {D:List Nd} {i:Nat} {x:It} (hD:s.D=y::D) (hl:s.K.length<E.win) (hi:ix y.id=i) (hx:itS s.S y.id=some x) (hf:bP E.H E.N x.r≠0):
  fillP E s.D s=fillP E D {s with S:=s.S.set i none,dr:=s.dr++[(x.n,bP E.H E.N x.r)],D:=D}:=by
 rw[hD]
 conv=>lhs;unfold fillP
 rw[if_pos hl,hx];dsimp only;rw[if_neg hf,hi];exact(pB E D {s with S:=s.S.set i none,dr:=s.dr++[(x.n,bP E.H E.N x.r)]} D).symm
theorem nQ {E:Ev} {s:Pa} (hD:s.D=[]):fillP E s.D s=s:=by
 rw[hD];unfold fillP;cases s;dsimp only at hD;subst hD;rfl
theorem qO {E:Ev} {s:Pa} (hl:¬s.K.length<E.win):fillP E s.D s=s:=by
 cases hD:s.D with
 |nil=>rw[←hD];exact nQ hD
 |cons y D=>
  unfold fillP;rw[if_neg hl];cases s;dsimp only at hD;subst hD;rfl
section
attribute [local go_sem↓] kG
attribute [local go_sem] bI dZ eT
def PF (base:Nat) (x:It) (v:Wg):aK:=fun T w=>∃z:bT,v= .agg (dM z)∧z.con=x∧dS base w z.r∧jR T z.r
theorem nT (base:Nat) (x:It) (v:Wg):aH (PF base x v) where
 cl:=fun T w w' h hm=>by
  obtain⟨x,e,hc,hn,hi⟩:=h;exact⟨x,e,hc,hn.mod hm hi (fun i hi hn=>hn hi),hi⟩
 gr:=fun T T' w hT h=>by
  obtain⟨x,e,hc,hn,hi⟩:=h;exact⟨x,e,hc,hn,hi.mono hT⟩
theorem I0 {wq:We} {p:Nat} {D:Dk} {X:Pk} {S:List (Option It)} {TB:Nat→Prop} {i:Nat} {x:It} (base:Nat) (hb:base≤wq.heap.size) (T:Nat→Prop) (kp:wq.heap[p]? =some (.cells (pac X) 121 (0,0))) (kd:wq.heap[X.d]? =some (.cells (iE D) 69 (0,0))) (h:BT D.b S TB wq) (hx:S[i]? =some (some x)):Calls Tryz.prog 72 #[ptrV p,.int .i64 (i:Int)] wq fun e w'=>∃v,e= .returned v∧Mod (fun _=>False) wq w'∧PF base x v (Grow T wq w') w':=
 (QU kp kd h hx).mono fun e w' h=>by
  obtain⟨⟨z,hc,hn,he⟩,hm⟩:=h;exact⟨_,he,hm,z,rfl,hc,hn.lower hb,hn.inn.mono (fun i hi=> .inr hi)⟩
theorem UM (a:Wj) (f:Nat) (w:We):(Instr.build 97 #[(0,u64v a),(1,.int .u8 (f:Int))]).run Tryz.prog w= .ok (.agg (drc (a,f))) w:=by kernel_rfl
theorem PX (x:Wj×Nat) (w:We):(Instr.buildSlice 52 1 #[(0,.agg (drc x))]).run Tryz.prog w= .ok (.slice (some ⟨w.heap.size,0,none⟩) 1 1) (w.alloc (.cells (drc x) 97)):=by
 obtain⟨i0,hi,cy,bj,bp⟩:=info_parts (show(Tryz.prog.info? 97).map (fun i=>(i.zero,i.size,i.bytes))=some (some (.agg #[.int .u64 0,.int .u8 0]),2,16)by kernel_rfl);refine run_buildSlice w _ _ 1 _ _ i0 _ Tryz.underlying52 hi cy (by rw[bj];omega) (by rw[bj];omega) ?_;rw[bj];show Instr.fill _ _ [(0,_)]=_;rw[cZ (off:=0) (n:=2) rfl (by simp[Value.cells,drc]) (by simp[Value.cells,size_madeCells])];show some (wr _ 0 (drc x).toList)=_;rw[fI (drc x) _ (by simp[drc,Value.cells,size_madeCells])]
theorem xB (H:List aN) (N:List (Sg×aN)) (r:AZ):bP H N r=0∨bP H N r=5∨bP H N r=6:=by
 unfold bP;split
 ·split
  ·exact .inr (.inr rfl)
  ·exact .inl rfl
 ·exact .inr (.inl rfl)
theorem iG {Ks:List aK} (h:∀K∈Ks,aH K) {K':aK} (h':aH K') (i:Nat):∀K∈Ks.set i K',aH K:=fun K hK=>by
 rcases aXi hK with h1|rfl
 ·exact h K h1
 ·exact h'
theorem FO.same {M:Md} {E:Ev} {s s':Pa} (h:FO M E s) (h1:s'.fl=s.fl) (h2:s'.co=s.co) (h3:s'.op=s.op) (h4:s'.la=s.la) (h5:s'.gi=s.gi):FO M E s':=
 ⟨h.win,h.bat,h.fli,h.n1,h.n2,h.fv,h.cv,h.sv,h.ov,by rw[h1];exact h.fl,by rw[h2];exact h.co,h.sp,by rw[h3];exact h.op,by rw[h4];exact h.la,by rw[h5];exact h.gw,by rw[h5];exact h.gl⟩
theorem bW.callX {P:Wl} {f:Wn} {args:Wa} {Ks:List aK} {T:Nat→Prop} {w:We} {R:Ending→We→Prop} (hG:∀K∈Ks,aH K) (hT:∀a,T a→a<w.heap.size) (hS:bW Ks T w) {i:Nat} {K K':aK} (hi:Ks[i]? =some K)
  (hc:∀T',(∀a,T' a→T a)→(∀a,T' a→a<w.heap.size)→K T' w→Calls P f args w fun e w'=>R e w'∧Goes K' T' w w'):
  Calls P f args w fun e w'=>R e w'∧Goes (bW (Ks.set i K')) T w w':=by
 obtain⟨Ts,h1,h2,h3⟩:=hS;refine(hc (Ts i) (h2 i) (fun a ha=>hT a (h2 i a ha)) (h1 i K hi)).mono ?_;rintro e w' ⟨hR,hg⟩;obtain⟨k1,k2⟩:=bW.step hG hT (aZa.1 hi).1 h1 h2 h3 hg;exact⟨hR,_,k1,k2,fun _ h=>h⟩
attribute [local go_sem↓] dE cD dD
attribute [local go_sem] bD bV cV iJ fK uR qX pE lI pD bE cB cC
theorem QL {p d:Nat} {E:Ev} {s:Pa} {T:Nat→Prop} {w:We} (h:bY p d E s T w) (hT:∀a,T a→a<w.heap.size) (ak:jO s):
  Calls Tryz.prog 68 #[ptrV p] w fun e w'=>e= .returned (.tuple #[])∧Goes (bY p d E (fillP E s.D s)) T w w':=by
 obtain⟨R,hR⟩:∃R,fillP E s.D s=R:=⟨_,rfl⟩;rw[hR];have h0:∃s':Pa,s'.D.length=s.D.length∧jO s'∧fillP E s'.D s'=R∧Goes (bY p d E s') T w w:=⟨s,rfl,ak,hR,Goes.into h (Mod.refl _ _)⟩;have H0:=Hi h0;have HT:=Hi hT;clear h0 h hT ak hR;go_enter Tryz.func68,Tryz.ntmps68;go_wp2_with fail
 go_loopg [] s.D.length (fun k ws=>Hid (∃s':Pa,s'.D.length=k∧jO s'∧fillP E s'.D s'=R∧Goes (bY p d E s') T w ws))
 case atStart=>exact H0
 case round=>
  obtain⟨s',hk,ak,hR,T',hP,hm,tu⟩:=hrel.out;obtain⟨M,hp,hd,aq,hS⟩:=hP;have hG:=parts.good M E s';have rq:∀a,T' a→a<wr.heap.size:=fun a ha=>by
   rcases tu a ha with h|h
   ·have:=HT.out a h;have:=hm.size;omega
   ·exact h.2
  obtain⟨T0,⟨t0,kp⟩,s0⟩:=hS.get (i:=0) rfl;obtain⟨T1,⟨t1,kd⟩,s1⟩:=hS.get (i:=1) rfl;obtain⟨T3,g3,s3⟩:=hS.get (i:=3) rfl;have Gz:r9 M.X.g s'.q s'.K T3 wr:=⟨g3,fun a ha=>rq a (s3 a ha)⟩;rw[hp]at kp;rw[hd]at kd;have HC:=Hi (Ai hk (Ai ak (Ai hR (Ai hm tu))));have HS:=Hi (Ai hS (Ai hG (Ai rq (Ai hp (Ai hd aq)))));have HR3:=Hi Gz;have kpp:=kp;have kdd:=kd;have yi:=aq.win;have Yo:=Hi (Ai kp kd);clear hk ak hR hm tu hS hG rq hp aq g3 Gz s0 s1 s3 t0 t1 hrel kpp kdd;unfold pac at kp;unfold iE at kd;rw[hd]at kp;go_upto_region 0 with fail;have Lkp:=aA kp;have Lkd:=aA kd;refine ZR (fun _ _ v=>v= .int .i64 (s'.K.length:Int)) [0,0,0,1,2,0,0,0,1,0,0,0,1,0] ?_
  iterate 4 first|refine Zv ?_|refine Zd ?_
  (refine Zc ?_ (s:=by intro wq ae;exact(lenR_c (HR3.out.mod0 ae)).mono (fun e w' h=>⟨_,h.1,rfl,by rw[h.2];exact Mod.refl _ _⟩));rintro _ rfl;try simp only[zL])
  iterate 9 first|refine Zv ?_|refine Zd ?_
  refine TD.nil (fun w1 hr=> ?_);replace kp:=hr.q kp;replace kd:=hr.q kd;have m1:=hr.mod;clear hr;by_cases hlt:s'.K.length<E.win
  ·have hcd:decide ((s'.K.length:Int)<(M.D.win:Int))=true:=Dt (by rw[yi];omega);have xt:s'.K.length<M.D.win:=by rw[yi];exact hlt
   have jh:=Hi hlt;have jr:=Hi m1;clear hlt yi m1;obtain Lj|⟨y,D,ym⟩:s'.D=[]∨∃y D,s'.D=y::D:=by cases s'.D with|nil=>exact .inl rfl|cons y D=>exact .inr ⟨y,D,rfl⟩
   ·obtain⟨hS,hG,rq,hp,cm,aq⟩:=HS.out;obtain⟨T2,g2,s2⟩:=hS.get (i:=2) rfl;have hw:fJ 0 s'.S=[]:=by
     have:=HC.out.2.1.pm;rw[Lj]at this;exact List.perm_nil.1 this.symm
    have hB:=((BT.good _ _).cl _ _ _ g2 (jr.out.mono (fun _ _ h=>h.elim)):BT M.D.b s'.S T2 w1);have HB:=Hi (Ai hB hw);have HDN:=Hi Lj;clear hS hG rq hp cm aq g2 s2 hw hB Lj;go_wp2_with fail;go_at_call 99;refine(bpopN_c HB.out.1.bh HB.out.2).mono ?_;rintro e w2 ⟨rfl,m2⟩;go_wp2_with fail;refine bodyPost_ret (v:= .tuple #[]) (results_none rfl _ _ _) rfl ⟨rfl,?_⟩;obtain⟨hk,ak,hR,hm,tu⟩:=HC.out;obtain⟨hS,hG,rq,hp,cm,aq⟩:=HS.out;rw[nQ HDN.out]at hR;rw[←hR];have mm:=jr.out.then0 m2;exact⟨T',(bY.good p d E s').cl _ _ _ ⟨M,hp,cm,aq,hS⟩ (mm.mono (fun _ _ h=>h.elim)),hm.then0 mm,fun a ha=>(tu a ha).imp (fun h=>h) (fun h=>⟨h.1,aZd h.2 mm.size⟩)⟩
   ·obtain⟨i,x,hy,hx,iz,Am,dm,Pr⟩:=HC.out.2.1.head ym;obtain⟨hS,hG,rq,hp,cm,aq⟩:=HS.out;have hS1:=hS.mod0 hG jr.out;have Cf:∀a,T' a→a<w1.heap.size:=fun a ha=>aZd (rq a ha) jr.out.size;have Bj:=fun(T2:Nat→Prop) (ht:∀a,T2 a→a<w1.heap.size) (hB:BT M.D.b s'.S T2 w1)=>BT.pop hB HC.out.2.1.pm HC.out.2.1.sr hx (by rw[ym,hy];rfl);have Nk:=Hi (bW.callW (R:=fun e _=>e= .returned (.tuple #[.int .i64 (i:Int),.bool true])) hG Cf hS1 (i:=2) rfl Bj);have HX:=Hi (Ai ym (Ai hy (Ai hx (Ai iz (Ai Am (Ai dm Pr))))));clear hS hG rq hp cm aq hS1 Cf Bj ym hy hx iz Am dm Pr;go_wp2_with fail;go_at_call 99;refine Nk.out.mono ?_;rintro e w2 ⟨rfl,mr⟩;obtain⟨s1,fk⟩:∃s1:Pa,s1= {s' with S:=s'.S.set i (some {x with pl:=1})}:=⟨_,rfl⟩;have hgo2:Goes (bW (parts M E s1)) T' w1 w2:=by rw[fk];exact mr
    clear mr Nk kp kd;obtain⟨T2,iw,de,pn⟩:=hgo2;obtain⟨U0,⟨_,kp⟩,_⟩:=iw.get (i:=0) rfl;obtain⟨U1,⟨_,kd⟩,_⟩:=iw.get (i:=1) rfl;rw[HS.out.2.2.2.1]at kp;rw[hd]at kd;have gy:s1.S[i]? =some (some {x with pl:=1}):=by rw[fk];dsimp only;rw[List.getElem?_set_self (aZa.1 HX.out.2.2.1).1]
    obtain⟨U2,Uz,_⟩:=iw.get (i:=2) rfl;obtain⟨U5,hQ2,_⟩:=iw.get (i:=5) rfl;obtain⟨U6,xe,_⟩:=iw.get (i:=6) rfl;have rm:=Hi (Ai Uz (Ai gy (Ai hQ2.1 (Ai xe (Ai kp kd)))));have Ca:=Hi (Ai iw (Ai de (Ai pn fk)));clear Uz gy hQ2 xe iw de pn fk;unfold pac at kp;unfold iE at kd;rw[hd]at kp;go_upto_region 3 with fail;have Lkp:=aA kp;have Lkd:=aA kd;refine wp_gpass0 (T0:=fun _=>False) (K:=fun _ _=>True) (κ:=fun i=>[0,0,6,3,4].getD i 0) (υ:=fun _=>[]) [0,1,2,3,4] (by kernel_rfl) (by kernel_rfl) (aH.true).cl (trivial) (fun _ h=>h.elim) ?_;have gK:=aH.true
    iterate 2 refine Zg ?_
    (refine ZJ (PF w2.heap.size {x with pl:=1}) (nT w2.heap.size {x with pl:=1}) gK ?_ (s:=fun T wq kq ltq ae ub=>by exact I0 w2.heap.size ae.size T (ae.at0 rm.out.2.2.2.2.1) (ae.at0 (by rw[hd];exact rm.out.2.2.2.2.2)) ((BT.good _ _).cl _ _ _ rm.out.1 (ae.mono (fun _ _ h=>h.elim))) rm.out.2.1);rintro v17 ⟨wI,TI,hI⟩;replace gK:=gK.and ((nT w2.heap.size {x with pl:=1}) v17);(obtain⟨_,z,rfl,_⟩:=hI.k);(try clear hI TI wI);try simp only[zL]);(refine TG.allocB (by simp only[zK];rfl) rfl (by rfl) rfl rfl eA (fun p4 od _=> ?n18);try simp only[zL]);(refine TG.storeB (d:= ?d19) (T:= ?T19) (y:= ?y19) (p:= ?p19) (b:= ?b19) (v:= ?v19) (by simp only[zK];rfl) rfl (by rfl) ?hd19 ?Rc ?Pg ?hx19 ?hb19 ?Kn (fun w1 dz=> ?hy19) ?hn19;(case hd19=>rfl);(case Rc=>rfl);(case Pg=>(simp only[zM];(try rfl)));(case hx19=>simp only[zM];try rfl);(case hb19=>first|exact Bx.set_same _ _ _|(simp only[Bx.set_same];rfl));(case Kn=>exact⟨rfl,rfl⟩);(case hy19=>(go_simp;(try first|with_reducible rfl|(rw[setCell_blk dz];rfl))));try simp only[zL]);refine TG.nil (fun w3 ⟨TR,hr⟩=> ?_);replace kp:=hr.q kp;replace kd:=hr.q kd;obtain⟨gp4,nTp4,kp4⟩:=hr.b p4;clear gK;obtain⟨_,z2,hz,lv,il,lz⟩:=hr.k;rename_i Dr _ _;clear Dr;injection hz with hz
    have m3:=hr.mod;have HZ:=Hi (Ai lv (Ai il lz));rw[hz]at kp4;clear hr lv il lz hz;have Pi:=QK (p:=p) (D:=M.D) (X:=M.X) (m3.at0 rm.out.2.2.2.2.1) (m3.at0 (by rw[hd];exact rm.out.2.2.2.2.2)) (rm.out.2.2.1.mod0 m3) (rm.out.2.2.2.1.mod0 m3) z2 HZ.out.2.1.ok.sg;have Hn:=Hi Pi;clear Pi;go_wp2_with fail;go_at_call 100;refine Hn.out.mono ?_;rintro e w4 ⟨rfl,m4⟩;have kp4:=m4.at0 kp4;have kp:=m4.at0 kp;have kd:=m4.at0 kd;have Io:z2.r.con=x.r:=congrArg It.r HZ.out.1;have Qx:z2.n=x.n:=congrArg It.n HZ.out.1;rw[Io];have M4:=Hi (m3.then0 m4);have M34:=Hi m4;have Xi:=Hi (Ai Io Qx);clear Io Qx m3 Hn m4;by_cases hf:bP E.H E.N x.r=0
    ·rw[hf];have HF:=Hi hf;clear hf;go_upto_region 8 with fail;have Lkp:=aA kp;have Lkd:=aA kd;have Lkp4:=aA kp4;refine ZP [0,0,0,1,0,0,0,1,5] ?_
     iterate 8 first|refine Zv ?_|refine Zd ?_
     refine Zi fun w5 hr=> ?_;replace kp:=hr.q kp;replace kd:=hr.q kd;replace kp4:=hr.q kp4;have M5:=Hi (M4.out.then0 hr.mod);have M35:=Hi (M34.out.then0 hr.mod);clear hr;have Gy:Calls Tryz.prog 102 #[ptrV M.X.g,.int .i64 (i:Int),.slice z2.r.ro.a z2.r.ro.l.length z2.r.ro.c] w5 fun e w'=>e= .returned (.int .i64 0)∧Goes (bW ((parts M E s1).set 3 (GL M.X.g (s1.q+1) (s1.K++[⟨idn i,eF s1.K (idn i) z2.r.ro.l,z2.r.ro.l⟩])))) T2 w2 w':=by
      obtain⟨iw,de,pn,fk⟩:=Ca.out;obtain⟨ym,hy,hx,iz,Am,dm,Pr⟩:=HX.out;have xt:∀a,T2 a→a<w2.heap.size:=fun a ha=>by
       rcases pn a ha with h|h
       ·have h1:=HS.out.2.2.1 a h;have h2:=jr.out.size;have h3:=de.size;omega
       ·exact h.2
      have xu:∀a,T2 a→a<w5.heap.size:=fun a ha=>aZd (xt a ha) M5.out.size;have ao:=bW.callX (R:=fun e _=>e= .returned (.int .i64 0)) (parts.good M E s1) xu (iw.mod0 (parts.good M E s1) M5.out) (i:=3) rfl (fun T3 bd ht hg=>GL.put hg ht (q:=s1.q) (by
        have:=HC.out.2.1.qb;rw[fk];show s'.q<900;omega) (idn i) z2.r.ro.a z2.r.ro.l z2.r.ro.c ((HZ.out.2.1.mod0 M35.out).ok.ro) (by
        have h1:z2.r.ro.l=x.r.ro:=congrArg AZ.ro Xi.out.1;rw[h1];exact HC.out.2.1.ro i x hx) (fun _ b o hb Wy=>by
        have h1:=xt b (bd b Wy);have h2:=(HZ.out.2.1.inn.ro b o hb).1;omega) (fun u hu=>by
        rw[fk]at hu;have:=HC.out.2.1.kd u hu y (by rw[ym];exact List.mem_cons_self);rw[hy]at this;exact this))
      rw[bR (by omega)]at ao;refine ao.mono ?_;rintro e w' ⟨he,hg⟩;exact⟨he,Goes.trans (K1:=bW (parts M E s1)) (M5.out.mono (fun _ _ h=>h.elim)) (fun a ha=> .inl ha) hg⟩
     (refine bJ (by simp only[zK];rfl) (by rfl) ?y29 Gy (fun wn hP=> ?n29);(case y29=>(go_simp;(try(first|with_reducible rfl|(constructor<;>with_reducible rfl)))));try simp only[zL]);refine TE.nil ?_;clear Gy;go_wp2_with fail
     go_roundg D.length
     case measure=>
      have h1:=HC.out.1;rw[HX.out.1,aZu]at h1;omega
     case rel=>
      obtain⟨hk,ak,hR,hm,tu⟩:=HC.out;obtain⟨hS,hG,rq,hp,cm,aq⟩:=HS.out;obtain⟨ym,hy,hx,iz,Am,dm,Pr⟩:=HX.out;obtain⟨iw,de,pn,fk⟩:=Ca.out;have lq:z2.r.ro.l=x.r.ro:=congrArg AZ.ro Xi.out.1;have Xc:y.id=idn i:=by rw[hy]
      refine Hi ⟨{s' with S:=s'.S.set i (some {x with pl:=1}),K:=s'.K++[⟨y.id,eF s'.K y.id x.r.ro,x.r.ro⟩],q:=s'.q+1,D:=D},rfl,ak.put ym hy hx iz _,by rw[←hR];exact(sX ym jh.out Am dm HF.out).symm,?_⟩;refine Goes.trans (K1:=bY p d E s') (hm.then0 jr.out) (fun a ha=>(tu a ha).imp (fun h=>h) (fun h=>⟨h.1,aZd h.2 jr.out.size⟩)) ?_;refine Goes.trans (K1:=bY p d E s1) de pn ?_;obtain⟨T5,k1,k2,k3⟩:=hP;refine⟨T5,⟨M,hp,cm,aq.same rfl rfl rfl rfl rfl,?_⟩,k2,k3⟩;rw[fk,lq,←Xc]at k1;exact k1
    ·obtain⟨F,Ve⟩:∃F,bP E.H E.N x.r=F:=⟨_,rfl⟩;have hF5:=xB E.H E.N x.r;rw[Ve]at hF5 hf;rw[Ve];have hF0:¬((F:Int)=0):=by omega
     have jd:decide ((F:Int)=0)=false:=Df hF0;have Xn:=Hi (Ai Ve hf);clear Ve hf hF5;go_upto_region 6 with fail;have Lkp:=aA kp;have Lkd:=aA kd;have Lkp4:=aA kp4;refine ZP [0,0,0,0,0,1,0,1,0,0,3,5,0,0,0,6] ?_
     iterate 9 first|refine Zv ?_|refine Zd ?_
     refine Zu (UM z2.n F) ?_;refine Zy (PX (z2.n,F)) fun p51 hp51=> ?_;refine Zi fun w5 hr=> ?_;replace kp:=hr.q kp;replace kd:=hr.q kd;replace kp4:=hr.q kp4;obtain⟨gp51,kp51⟩:=hr.b p51;have M5:=Hi (M4.out.then0 hr.mod);clear hr;have qj:∃v6 w6,(Builtin.append_ #[52,52] 52 #[M.X.dv,.slice (some ⟨p51,0,none⟩) 1 1]).run Tryz.prog w5= .ok v6 w6∧Goes (bW (parts M E s1|>.set 4 (RowL drc 2 97 v6 (s1.dr++[(z2.n,F)])))) T2 w5 w6∧∃a6 n6 c6,v6= .slice a6 n6 c6:=by
      obtain⟨iw,de,pn,fk⟩:=Ca.out;have hG:=parts.good M E s1;obtain⟨Ts,h1,h2,h3⟩:=iw.mod0 hG M5.out;have xt:∀a,T2 a→a<w2.heap.size:=fun a ha=>by
       rcases pn a ha with h|h
       ·have h1:=HS.out.2.2.1 a h;have h2:=jr.out.size;have h3:=de.size;omega
       ·exact h.2
      have xu:∀a,T2 a→a<w5.heap.size:=fun a ha=>aZd (xt a ha) M5.out.size;have yd:RowL drc 2 97 M.X.dv s1.dr (Ts 4) w5:=h1 4 _ rfl;have Iq:s1.dr.length+1≤1000000:=by
       have:=HC.out.2.1.db;rw[fk];show s'.dr.length+1≤1000000;omega
      obtain⟨v6,w6,az,hg⟩:=RowL.app P7 yd (q:=[(z2.n,F)]) (c:=1) (aS.one kp51 (z2.n,F) rfl rfl) (by simp only[aZx];exact Iq) (by decide) 52;obtain⟨k1,k2⟩:=bW.step hG xu (i:=4) (by simp[parts]) h1 h2 h3 hg;obtain⟨T9,bk,_⟩:=id hg;obtain⟨a6,c6,e6,_⟩:=bk.1.at P7;exact⟨v6,w6,az,⟨_,k1,k2,fun _ h=>h⟩,a6,_,c6,e6⟩
     obtain⟨v6,w6,az,xo,a6,n6,c6,rfl⟩:=qj;obtain⟨T6,eu,ke,ji⟩:=xo;obtain⟨U7,⟨_,kp6⟩,_⟩:=eu.get (i:=0) rfl;rw[HS.out.2.2.2.1]at kp6;unfold pac at kp6;rw[hd]at kp6;have H6:=Hi (Ai eu (Ai ke ji));clear eu ke ji kp kd kp4 kp51;refine ZA az ?_;refine Ze ?_;refine Ze ?_;refine Ze ?_;refine Zz ?_;refine ZS ?_;refine ZN kp6 fun wn kp6 mS=> ?_;(try simp only[Array.setIfInBounds,zL]at kp6);clear az;have h7:∃M1 s2,M1= {M with X:= {M.X with dv:= .slice a6 n6 c6}}∧s2= {s1 with dr:=s1.dr++[(z2.n,F)]}∧Goes (bW (parts M1 E s2)) T6 w6 wn:=by
      obtain⟨eu,ke,ji⟩:=H6.out;have Eh:∀a,T6 a→a<w6.heap.size:=fun a ha=>by
       rcases ji a ha with h|h
       ·obtain⟨iw,de,pn,fk⟩:=Ca.out;have h5:=M5.out.size;have h6:=ke.size;rcases pn a h with h|h
        ·have h1:=HS.out.2.2.1 a h;have h2:=jr.out.size;have h3:=de.size;omega
        ·have:=h.2;omega
       ·exact h.2
      have hG:∀K∈((parts M E s1).set 4 (RowL drc 2 97 (.slice a6 n6 c6) (s1.dr++[(z2.n,F)]))),aH K:=iG (parts.good M E s1) (RowL.good _ _ _ _ _) 4;obtain⟨Ts,h1,h2,h3⟩:=eu;have jl:CeL M.p (pac M.X) 121 (Ts 0) w6:=h1 0 _ rfl;have hg:Goes (CeL M.p (pac {M.X with dv:= .slice a6 n6 c6}) 121) (Ts 0) w6 wn:=Goes.into ⟨jl.1,by
       rw[HS.out.2.2.2.1];unfold pac;dsimp only;rw[hd];exact kp6⟩ (mS.mono (fun a _ ha=>by rw[ha,←HS.out.2.2.2.1];exact jl.1))
      obtain⟨k1,k2⟩:=bW.step hG Eh (i:=0) (by simp[parts]) h1 h2 h3 hg;exact⟨_,_,rfl,rfl,_,k1,k2,fun _ h=>h⟩
     obtain⟨M1,s2,xg,fe,hg7⟩:=h7;obtain⟨T7,Dn,Ej,Dp⟩:=hg7;have hd7:M1.X.d=d:=by rw[xg];exact hd
     have Gw:M1.p=p:=by rw[xg];exact HS.out.2.2.2.1
     have hb7:M1.D=M.D:=by rw[xg]
     obtain⟨U8,⟨_,kp⟩,_⟩:=Dn.get (i:=0) rfl;obtain⟨U9,⟨_,kd⟩,_⟩:=Dn.get (i:=1) rfl;rw[Gw]at kp;rw[hd7]at kd;unfold pac at kp;rw[hd7]at kp;rw[hb7]at kd;unfold iE at kd;have H7:=Hi (Ai Dn (Ai Ej (Ai Dp (Ai xg fe))));clear Dn Ej Dp xg fe kp6 mS hd7 Gw hb7;have ie:Calls Tryz.prog 101 #[ptrV M.D.b,.int .i64 (i:Int)] wn fun e w'=>e= .returned (.int .i64 0)∧Goes (bW ((parts M1 E s2).set 2 (BT M.D.b (s2.S.set i none)))) T7 wn w':=by
      obtain⟨Dn,Ej,Dp,xg,fe⟩:=H7.out;obtain⟨eu,ke,ji⟩:=H6.out;obtain⟨iw,de,pn,fk⟩:=Ca.out;have Ei:∀a,T7 a→a<wn.heap.size:=fun a ha=>by
       have h7:=Ej.size;have h5:=M5.out.size;have h6:=ke.size;rcases Dp a ha with h|h
       ·rcases ji a h with h|h
        ·rcases pn a h with h|h
         ·have h1:=HS.out.2.2.1 a h;have h2:=jr.out.size;have h3:=de.size;omega
         ·have:=h.2;omega
        ·have:=h.2;omega
       ·exact h.2
      have th:s2.S[i]? =some (some {x with pl:=1}):=by
       rw[fe];show s1.S[i]? =_;exact rm.out.2.1
      exact bW.callW (R:=fun e _=>e= .returned (.int .i64 0)) (parts.good M1 E s2) Ei Dn (i:=2) rfl (fun T3 ht hB=>by
       rw[xg]at hB;exact BT.done hB th)
     have HDO:=Hi ie;clear ie;go_wp2_with fail;go_at_call 101;refine HDO.out.mono ?_;rintro e w8 ⟨rfl,Vv⟩;clear kp kd HDO;go_wp2_with fail
     go_roundg D.length
     case measure=>
      have h1:=HC.out.1;rw[HX.out.1,aZu]at h1;omega
     case rel=>
      obtain⟨hk,ak,hR,hm,tu⟩:=HC.out;obtain⟨hS,hG,rq,hp,cm,aq⟩:=HS.out;obtain⟨ym,hy,hx,iz,Am,dm,Pr⟩:=HX.out;obtain⟨iw,de,pn,fk⟩:=Ca.out;obtain⟨eu,ke,ji⟩:=H6.out;obtain⟨Dn,Ej,Dp,xg,fe⟩:=H7.out;refine Hi ⟨{s' with S:=s'.S.set i none,dr:=s'.dr++[(x.n,bP E.H E.N x.r)],D:=D},rfl,ak.drop ym hy hx iz _,by rw[←hR];exact(qN ym jh.out Am dm (by rw[Xn.out.1];exact Xn.out.2)).symm,?_⟩;refine Goes.trans (K1:=bY p d E s') (hm.then0 jr.out) (fun a ha=>(tu a ha).imp (fun h=>h) (fun h=>⟨h.1,aZd h.2 jr.out.size⟩)) ?_;refine Goes.trans (K1:=bY p d E s1) de pn ?_;refine Goes.trans (K1:=bY p d E s1) (M5.out.mono (fun _ _ h=>h.elim)) (fun a ha=> .inl ha) ?_;refine Goes.trans (K1:=bY p d E s1) ke ji ?_;refine Goes.trans (K1:=bY p d E s1) Ej Dp ?_;obtain⟨T8,k1,k2,k3⟩:=Vv;refine⟨T8,⟨M1,by rw[xg];exact hp,by rw[xg];exact cm,?_,?_⟩,k2,k3⟩
      ·rw[xg];exact⟨aq.win,aq.bat,aq.fli,aq.n1,aq.n2,aq.fv,aq.cv,aq.sv,aq.ov,aq.fl,aq.co,aq.sp,aq.op,aq.la,aq.gw,aq.gl⟩
      ·have e:s2.S.set i none=s'.S.set i none:=by
        rw[fe,fk];exact List.set_set ..
       rw[e,xg,fe,fk,Xi.out.2,←Xn.out.1]at k1;rw[xg];exact k1
  ·have hcd:decide ((s'.K.length:Int)<(M.D.win:Int))=false:=Df (by rw[yi];omega);have xt:¬s'.K.length<M.D.win:=by rw[yi];exact hlt
   have jh:=Hi hlt;have jr:=Hi m1;clear hlt yi m1;go_wp2_with fail
   first
    |refine bodyPost_end (v:= .tuple #[]) (results_none rfl _ _ _) rfl ⟨rfl,?_⟩
    |refine bodyPost_ret (v:= .tuple #[]) (results_none rfl _ _ _) rfl ⟨rfl,?_⟩
   obtain⟨hk,ak,hR,hm,tu⟩:=HC.out;obtain⟨hS,hG,rq,hp,cm,aq⟩:=HS.out;rw[qO jh.out]at hR;rw[←hR];exact⟨T',(bY.good p d E s').cl _ _ _ ⟨M,hp,cm,aq,hS⟩ (jr.out.mono (fun _ _ h=>h.elim)),hm.then0 jr.out,fun a ha=>(tu a ha).imp (fun h=>h) (fun h=>⟨h.1,aZd h.2 jr.out.size⟩)⟩
end
def pushP (j:Nat) (s:Pa):Pa:=if s.op.getD j []=[]then s else{s with la:=s.la.set j (s.la.getD j []++[s.op.getD j []]),gi:=s.gi++[(j,s.op.getD j [])],op:=s.op.set j []}
theorem cQ {T T1 S:Nat→Prop} {w w1:We} (hT:∀a,T a→a<w.heap.size) (hm:Mod S w w1) (h:∀a,T1 a→T a∨(w.heap.size≤a∧a<w1.heap.size)):∀a,T1 a→a<w1.heap.size:=fun a ha=>by
 rcases h a ha with h|h
 ·exact aZd (hT a h) hm.size
 ·exact h.2
theorem bldBa (j:Nat) (a:Wb) (n c:Nat) (w:We):(Instr.build 86 #[(0,.int .i64 (j:Int)),(1,.slice a n c)]).run Tryz.prog w= .ok (.agg (gvc ⟨j,a,n,c⟩)) w:=by kernel_rfl
theorem bsBa (x:Gv) (w:We):(Instr.buildSlice 51 1 #[(0,.agg (gvc x))]).run Tryz.prog w= .ok (.slice (some ⟨w.heap.size,0,none⟩) 1 1) (w.alloc (.cells (gvc x) 86)):=by
 obtain⟨i0,hi,cy,bj,bp⟩:=info_parts (show(Tryz.prog.info? 86).map (fun i=>(i.zero,i.size,i.bytes))=some (some (.agg #[.int .i64 0,.slice none 0 0]),2,32)by kernel_rfl);refine run_buildSlice w _ _ 1 _ _ i0 _ Tryz.underlying51 hi cy (by rw[bj];omega) (by rw[bj];omega) ?_;rw[bj];show Instr.fill _ _ [(0,_)]=_;rw[cZ (off:=0) (n:=2) rfl (by simp[Value.cells,gvc]) (by simp[Value.cells,size_madeCells])];show some (wr _ 0 (gvc x).toList)=_;rw[fI (gvc x) _ (by simp[gvc,Value.cells,size_madeCells])]
theorem CE {p d j:Nat} {E:Ev} {s:Pa} {T:Nat→Prop} {w:We} (h:bY p d E s T w) (hT:∀a,T a→a<w.heap.size) (hj:j<E.n) {b:Wc} (hb:s.op[j]? =some b) {q:List (Wc)} (hq:s.la[j]? =some q) (jw:b.length≤64) (hql:q.length≤1000) (jg:sumB q≤100000) (vy:s.gi.length≤10000):
  Calls Tryz.prog 33 #[ptrV p,.int .i64 (j:Int)] w fun e w'=>e= .returned (.tuple #[])∧Goes (bY p d E (pushP j s)) T w w':=by
 obtain⟨M,hp,hd,aq,hS⟩:=h;have hG:=parts.good M E s;obtain⟨T0,⟨_,kp⟩,_⟩:=hS.get (i:=0) rfl;obtain⟨T1,⟨_,kd⟩,_⟩:=hS.get (i:=1) rfl;obtain⟨T14,⟨_,kob⟩,_⟩:=hS.get (i:=14) rfl;obtain⟨T15,hB,_⟩:=hS.get (i:=15) rfl;have ft:(s.op++s.gi.map Prod.snd)[j]? =some b:=by rw[aZt (by rw[aq.op];exact hj)];exact hb
 have re:=hB.1;rw[aZg,aq.op]at re;obtain⟨v,hv⟩:∃v,M.V[j]? =some v:=⟨_,aZb (by omega)⟩;have bn:=(hB.2.1 j v b hv ft).1 hj;obtain⟨a,c,v2,jv,Mp,dg,hN,ho⟩:=bn.newS gL;subst jv;subst Mp;have fy:=hN.at;obtain⟨C,hC⟩:∃C,(M.V.take E.n).toArray=C:=⟨_,rfl⟩;have qo:C[j]? =some (.slice a b.length c):=by
  rw[←hC,zA,aXx hj];exact hv
 have Px:∀h:j<C.size,C[j]= .slice a b.length c:=fun h=>aU qo h;have jy:=(aZf.1 qo).1;rw[hC]at kob;have HS:=Hi (Ai hS (Ai hT (Ai hp (Ai hd aq))));have HB:=Hi (Ai hb (Ai hq (Ai hv (Ai dg (Ai hN (Ai ho hC))))));have Rf:=aq.ov;rw[hp]at kp;rw[hd]at kd;unfold pac at kp;unfold iE at kd;rw[hd,Rf]at kp;clear hS hT hp aq hb hq hv dg hN ho hC ft re hB hG bn fy Rf;go_enter Tryz.func33,Tryz.ntmps33;by_cases zv:b=[]
 ·subst zv;have hkk0:C[j]? =some (.slice a 0 c):=qo;have hkk1:∀h:j<C.size,C[j]= .slice a 0 c:=Px;clear qo Px;go_wp2_with fail;refine bodyPost_ret (v:= .tuple #[]) (results_none rfl _ _ _) rfl ⟨rfl,?_⟩;obtain⟨hS,hT,hp,cm,aq⟩:=HS.out;have hP:pushP j s=s:=by
   unfold pushP;rw[if_pos];rw[aZk,HB.out.1];rfl
  rw[hP];exact Goes.into ⟨M,hp,cm,aq,hS⟩ (Mod.refl _ _)
 ·have ag:0<b.length:=List.length_pos_iff.2 zv;have aw:¬((b.length:Int)=0):=by omega
  have Em:¬b.length=0:=by omega
  go_upto_region 1 with fail;have Lkp:=aA kp;have Lkd:=aA kd;have Lkob:=aA kob;refine ZP [0,0,0,1,0,0,1,0,0,0,0,1,0,0,1,5] ?_
  iterate 15 first|refine Zv ?_|refine Zd ?_
  refine Zi fun w1 hr=> ?_;replace kp:=hr.q kp;replace kd:=hr.q kd;replace kob:=hr.q kob;have m1:=Hi hr.mod;clear hr;obtain⟨s1,fk⟩:∃s1:Pa,s1= {s with la:=s.la.set j (q++[b])}:=⟨_,rfl⟩;have dp:Calls Tryz.prog 76 #[ptrV M.D.ln,.int .i64 (j:Int),.slice a b.length c] w1 fun e w'=>e= .returned (.int .i64 0)∧Goes (bW (parts M E s1)) T w1 w':=by
   obtain⟨hS,hT,hp,cm,aq⟩:=HS.out;obtain⟨hb,hq,hv,dg,hN,ho,hC⟩:=HB.out;have hG:=parts.good M E s;have hlt:∀x,T x→x<w1.heap.size:=fun x hx=>aZd (hT x hx) m1.out.size;obtain⟨Ts,h1,h2,h3⟩:=hS.mod0 hG m1.out;have hl8:nE M.D.ln E.n s.la (Ts 8) w1:=h1 8 _ rfl;have qk:BatL E.n M.V (s.op++s.gi.map Prod.snd) (Ts 15) w1:=h1 15 _ rfl;have ft:(s.op++s.gi.map Prod.snd)[j]? =some b:=by rw[aZt (by rw[aq.op];exact hj)];exact hb
   obtain⟨k1,_,k3⟩:=qk.2.1 j _ b hv ft;obtain⟨a2,c2,e2,hat,_⟩:=(k1 hj).at gL;injection e2 with e3 _ e4
   subst e3;refine(NC hl8 (fun i hi=>hlt i (h2 8 i hi)) hj aq.n2 hq hql jg a b c hat (fun g o hg ht=>h3 15 8 g (by decide) (k3 g (by rw[hg];rfl)) ht) (by omega) jw).mono ?_;rintro e w' ⟨he,hg⟩;obtain⟨k1,k2⟩:=bW.step hG hlt (i:=8) (by simp[parts]) h1 h2 h3 hg;rw[fk];exact⟨he,_,k1,k2,fun _ h=>h⟩
  (refine bJ (by simp only[zK];rfl) (by rfl) ?y17 dp (fun wn hP=> ?n17);(case y17=>(go_simp;(try(first|with_reducible rfl|(constructor<;>with_reducible rfl)))));try simp only[zL]);refine TE.nil ?_;clear dp kp kd kob;obtain⟨w2,ny⟩:∃w2,wn=w2:=⟨_,rfl⟩;rw[ny]at hP⊢;obtain⟨T2,iw,de,pn⟩:=hP;have rp:FO M E s1:=by rw[fk];exact⟨HS.out.2.2.2.2.win,HS.out.2.2.2.2.bat,HS.out.2.2.2.2.fli,HS.out.2.2.2.2.n1,HS.out.2.2.2.2.n2,HS.out.2.2.2.2.fv,HS.out.2.2.2.2.cv,HS.out.2.2.2.2.sv,HS.out.2.2.2.2.ov,HS.out.2.2.2.2.fl,HS.out.2.2.2.2.co,HS.out.2.2.2.2.sp,HS.out.2.2.2.2.op,by show(s.la.set j (q++[b])).length=E.n;rw[aZn];exact HS.out.2.2.2.2.la,HS.out.2.2.2.2.gw,HS.out.2.2.2.2.gl⟩
  obtain⟨U0,⟨_,kp⟩,_⟩:=iw.get (i:=0) rfl;obtain⟨U14,⟨_,kob⟩,_⟩:=iw.get (i:=14) rfl;rw[HB.out.2.2.2.2.2.2]at kob;rw[HS.out.2.2.1]at kp;unfold pac at kp;rw[hd,HS.out.2.2.2.2.ov]at kp;have H2:=Hi (Ai iw (Ai de (Ai pn (Ai rp fk))));have dg:=HB.out.2.2.2.1;have ui:=Hi dg;clear iw de pn rp fk dg ny;go_upto_region 2 with fail;have Lkp:=aA kp;have Lkob:=aA kob;refine ZR (fun _ _ v=>v= .slice a b.length b.length) [0,0,0,0,0,1,0,0,0,0,1,0,0,1,2,0,3,5,0,0,0,6] ?_
  iterate 14 first|refine Zv ?_|refine Zd ?_
  (refine Zc ?_ (s:=by intro wq ae;exact(clipI_cG (.slice a b.length c) (.slice a b.length b.length) wq b.length rfl ui.out).mono (fun e w' h=>⟨_,h.1,rfl,by rw[h.2];exact Mod.refl _ _⟩));rintro _ rfl;try simp only[zL]);refine Zu (bldBa j a b.length b.length) ?_;refine Zy (bsBa ⟨j,a,b.length,b.length⟩) fun p45 hp45=> ?_;refine Zi fun w3 hr=> ?_;replace kp:=hr.q kp;replace kob:=hr.q kob;obtain⟨gp45,kp45⟩:=hr.b p45;have m3:=Hi hr.mod;clear hr;have pd:Hid (∀x,T2 x→x<w3.heap.size):=Hi (cQ (T:=T2) (w:=w2) (S:=fun _=>False) (cQ (fun x hx=>aZd (HS.out.2.1 x hx) m1.out.size) H2.out.2.1 H2.out.2.2.1) m3.out (fun x hx=> .inl hx));have qj:∃v6 w6,(Builtin.append_ #[51,51] 51 #[M.X.gv,.slice (some ⟨p45,0,none⟩) 1 1]).run Tryz.prog w3= .ok v6 w6∧Goes (bW ((parts M E s1).set 16 (RowL gvc 2 86 v6 (M.G++[⟨j,a,b.length,b.length⟩])))) T2 w3 w6∧∃a6 n6 c6,v6= .slice a6 n6 c6:=by
   have hG:=parts.good M E s1;obtain⟨Ts,h1,h2,h3⟩:=H2.out.1.mod0 hG m3.out;have yb:RowL gvc 2 86 M.X.gv M.G (Ts 16) w3:=h1 16 _ rfl;have Iq:M.G.length+1≤1000000:=by
    have:=HS.out.2.2.2.2.gl;omega
   obtain⟨v6,w6,az,hg⟩:=RowL.app WX yb (q:=[⟨j,a,b.length,b.length⟩]) (c:=1) (aS.one kp45 (⟨j,a,b.length,b.length⟩:Gv) rfl rfl) (by simp only[aZx];exact Iq) (by decide) 51;obtain⟨k1,k2⟩:=bW.step hG pd.out (i:=16) (by simp[parts]) h1 h2 h3 hg;obtain⟨T9,bk,_⟩:=id hg;obtain⟨a6,c6,e6,_⟩:=bk.1.at WX;exact⟨v6,w6,az,⟨_,k1,k2,fun _ h=>h⟩,a6,_,c6,e6⟩
  obtain⟨v6,w6,az,xo,a6,n6,c6,rfl⟩:=qj;obtain⟨T6,eu,ke,ji⟩:=xo;obtain⟨U7,⟨_,kp6⟩,_⟩:=eu.get (i:=0) rfl;obtain⟨Uf,⟨_,kob⟩,_⟩:=eu.get (i:=14) rfl;rw[HS.out.2.2.1]at kp6;rw[HB.out.2.2.2.2.2.2]at kob;unfold pac at kp6;rw[hd,HS.out.2.2.2.2.ov]at kp6;have hpo:p≠M.ob:=fun e=>by
   rw[←e,kp6]at kob;injection (aZz kob)with _ e2
   exact absurd e2 (by decide)
  have H6:=Hi (Ai eu (Ai ke ji));clear eu ke ji kp kp45;refine ZA az ?_;refine Ze ?_;refine Ze ?_;refine Ze ?_;refine Zz ?_;refine ZS ?_;refine ZN kp6 fun wn kp6 mS=> ?_;(try simp only[Array.setIfInBounds,zL]at kp6);clear az;have kob:=mS.at_ne kob (fun e=>hpo e.symm);have KP6:=Hi kp6;obtain⟨w7,Hd⟩:∃w7,wn=w7:=⟨_,rfl⟩;rw[Hd]at kp6 kob mS⊢;have MS7:=Hi (Ai mS kp6);clear mS Hd;go_upto_region 3 with fail;have Lkp6:=aA kp6;have Lkob:=aA kob;refine ZP0 [0,0,0,1,0,0,5] ?_
  iterate 6 first|refine Zv ?_|refine Zd ?_
  refine Zi fun wE hr=> ?_;replace kp6:=hr.mod.at0 kp6;replace kob:=hr.mod.at0 kob;have mE:=hr.mod;refine ZS ?_;refine ZN kob fun w8 kob mS=> ?_;(try simp only[Array.setIfInBounds,zL]at kob);replace kp6:=mS.at_ne kp6 (by omega);have m78:=(mE.mono (fun _ _ h=>h.elim)).trans mS;refine bodyPost_end (v:= .tuple #[]) (results_none rfl _ _ _) rfl ⟨rfl,?_⟩;obtain⟨hS,hT,hp,cm,aq⟩:=HS.out;obtain⟨hb,hq,hv,dg,hN,ho,hC⟩:=HB.out;obtain⟨iw,de,pn,rp,fk⟩:=H2.out;obtain⟨eu,ke,ji⟩:=H6.out;have hP:pushP j s= {s with la:=s.la.set j (q++[b]),gi:=s.gi++[(j,b)],op:=s.op.set j []}:=by
   unfold pushP;rw[aZk,aZk,hb,hq,zE,zE,if_neg zv]
  rw[hP];refine Goes.trans (K1:=bY p d E s) (m1.out.mono (fun _ _ h=>h.elim)) (fun x hx=> .inl hx) ?_;refine Goes.trans (K1:=bY p d E s) de pn ?_;refine Goes.trans (K1:=bY p d E s) (m3.out.mono (fun _ _ h=>h.elim)) (fun x hx=> .inl hx) ?_;refine Goes.trans (K1:=bY p d E s) ke ji ?_;have Eh:=cQ pd.out ke ji;have xf:∀K∈((parts M E s1).set 16 (RowL gvc 2 86 (.slice a6 n6 c6) (M.G++[⟨j,a,b.length,b.length⟩]))),aH K:=iG (parts.good M E s1) (RowL.good _ _ _ _ _) 16;obtain⟨Ts,h1,h2,h3⟩:=eu;have jl:CeL M.p (pac M.X) 121 (Ts 0) w6:=h1 0 _ rfl;have Vt:Goes (CeL M.p (pac {M.X with gv:= .slice a6 n6 c6}) 121) (Ts 0) w6 w7:=Goes.into ⟨jl.1,by
   rw[hp];unfold pac;dsimp only;rw[hd,aq.ov];exact MS7.out.2⟩ (MS7.out.1.mono (fun x _ hx=>by rw[hx,←hp];exact jl.1))
  obtain⟨Dn,Ej⟩:=bW.step xf Eh (i:=0) (by simp[parts]) h1 h2 h3 Vt;have vq:=iG xf (CeL.good M.p (pac {M.X with gv:= .slice a6 n6 c6}) 121) 0;have Ei:=cQ Eh Ej (T1:=Grow T6 w6 w7) (fun _ h=>h);refine Goes.trans (K1:=bY p d E s) Ej (T1:=Grow T6 w6 w7) (fun _ h=>h) ?_;clear jl Vt;obtain⟨Ts7,h1,h2,h3⟩:=Dn;have xy:CeL M.ob (M.V.take E.n).toArray 53 (Ts7 14) w7:=h1 14 _ rfl;have hV8:C.setIfInBounds j (Value.slice none 0 0)=((M.V.set j (.slice none 0 0)++[Value.slice a b.length b.length]).take E.n).toArray:=by
   have re:E.n≤M.V.length:=by
    have yl:BatL E.n M.V (s1.op++s1.gi.map Prod.snd) (Ts7 15) w7:=h1 15 _ rfl;rw[yl.1,aZg,rp.op];omega
   rw[←hC,zF,List.take_append_of_le_length (by rw[aZn];exact re),List.take_set]
  have hg14:Goes (CeL M.ob ((M.V.set j (.slice none 0 0)++[Value.slice a b.length b.length]).take E.n).toArray 53) (Ts7 14) w7 w8:=Goes.into ⟨xy.1,by rw[←hV8];exact kob⟩ (m78.mono (fun x _ hx=>by rw[hx];exact xy.1));obtain⟨Fw,Gi⟩:=bW.step vq Ei (i:=14) (by simp[parts]) h1 h2 h3 hg14;have zg:=iG vq (CeL.good M.ob ((M.V.set j (.slice none 0 0)++[Value.slice a b.length b.length]).take E.n).toArray 53) 14;have hlt8:=cQ Ei Gi (T1:=Grow (Grow T6 w6 w7) w7 w8) (fun _ h=>h);refine Goes.trans (K1:=bY p d E s) Gi (T1:=Grow (Grow T6 w6 w7) w7 w8) (fun _ h=>h) ?_;obtain⟨Ts8,h1,h2,h3⟩:=Fw;have yl:BatL E.n M.V (s1.op++s1.gi.map Prod.snd) (Ts8 15) w8:=h1 15 _ rfl;have dz:s1.op[j]? =some b:=by rw[fk];exact hb
  have ft:(s1.op++s1.gi.map Prod.snd)[j]? =some b:=by rw[aZt (by rw[rp.op];exact hj)];exact dz
  obtain⟨a',c',v2',e1,e2,_,Nx,Qz⟩:=((yl.2.1 j _ b hv ft).1 hj).newS gL;injection e1 with e3 _ _
  subst e3;subst e2;have hmv:=yl.move rp.op dz hv Nx Qz;obtain⟨mo,mu⟩:=bW.step zg hlt8 (i:=15) (by simp[parts]) h1 h2 h3 (Goes.into hmv (Mod.refl _ _));refine⟨_,⟨{M with X:= {M.X with gv:= .slice a6 n6 c6},G:=M.G++[⟨j,a,b.length,b.length⟩],V:=M.V.set j (.slice none 0 0)++[Value.slice a b.length b.length]},hp,cm,?_,?_⟩,mu,fun _ h=>h⟩
  ·have re:E.n≤M.V.length:=by
    rw[yl.1,aZg,rp.op];omega
   refine⟨aq.win,aq.bat,aq.fli,aq.n1,aq.n2,aq.fv,aq.cv,aq.sv,aq.ov,aq.fl,aq.co,aq.sp,by show(s.op.set j []).length=E.n;rw[aZn];exact aq.op,by show(s.la.set j (q++[b])).length=E.n;rw[aZn];exact aq.la,?_,?_⟩
   ·show(M.G++[(⟨j,a,b.length,b.length⟩:Gv)]).map (fun x=>(x.w,Value.slice x.a x.n x.c))=((s.gi++[(j,b)]).map Prod.fst).zip ((M.V.set j (Value.slice none 0 0)++[Value.slice a b.length b.length]).drop E.n);have ut:(M.V.drop E.n).length=s.gi.length:=by
     have:=yl.1;rw[aZg,rp.op,aZs,fk]at this;rw[List.length_drop,this];show E.n+s.gi.length-E.n=s.gi.length;omega
    rw[List.map_append,List.map_append,aq.gw,List.drop_append_of_le_length (by rw[aZn];exact re),List.drop_set_of_lt hj,List.zip_append (by rw[aZs,ut])];rfl
   ·show(s.gi++[(j,b)]).length=(M.G++[(⟨j,a,b.length,b.length⟩:Gv)]).length;rw[aZg,aZg,aq.gl];rfl
  ·have Ay:s.gi.map Prod.snd++[b]=(s.gi++[(j,b)]).map Prod.snd:=by rw[List.map_append];rfl
   rw[fk]at mo;dsimp only at mo;rw[Ay]at mo;exact mo
section
def mkP (E:Ev) (s:Pa) (ro:List aT) (i:Nat):Nat:=eC (fun j=>iF s.L ro j&&(decide (i≤j)||decide (s.fl.getD j 0<E.fli))) E.n
def wtsP (E:Ev) (s:Pa):Wd:=(List.range E.n).map fun j=>waP (s.co.getD j 0) (E.spd.getD j 0)
def wkP (E:Ev) (s:Pa) (ro:List aT) (ch:Wi):Option Nat:=if l8 s.al ro then none else
 match lkp ch s.hi with
 |some w=>if(mkP E s ro E.n).testBit w then some w else pkR (mkP E s ro E.n) (wtsP E s)
 |none=>pkR (mkP E s ro E.n) (wtsP E s)
theorem u6 (E:Ev) (s:Pa) (ro:List aT) (i:Nat) (hn:E.n≤64):mkP E s ro i<18446744073709551616:=
 aZd (nY _ E.n) (aXa (by omega) hn:2^E.n≤2^64)
theorem OV (E:Ev) (s:Pa) (ro:List aT):mkP E s ro 0=eC (iF s.L ro) E.n:=jA _ (fun j _=>by simp)
theorem JA {E:Ev} {s:Pa} {ro:List aT} {i:Nat} (h:s.fl.getD i 0<E.fli):mkP E s ro (i+1)=mkP E s ro i:=jA _ (fun j _=>by
 by_cases e:j=i
 ·subst e;rw[Dt h];simp
 ·congr 2;exact decide_eq_decide.2 (by omega))
theorem NG {E:Ev} {s:Pa} {ro:List aT} {i:Nat} (h:¬s.fl.getD i 0<E.fli) (j:Nat):(mkP E s ro (i+1)).testBit j=((mkP E s ro i).testBit j&& !decide (j=i)):=by
 unfold mkP;rw[maskOf_testBit,maskOf_testBit];by_cases e:j=i
 ·subst e;rw[Df h];simp
 ·have h1:decide (i+1≤j)=decide (i≤j):=decide_eq_decide.2 (by omega);rw[h1];simp[e]
theorem yS {m m' i:Nat} (hm:m<18446744073709551616) (Gh:m'<18446744073709551616) (hi:i<64) (h:∀j,m'.testBit j=(m.testBit j&& !decide (j=i))):bits .andNot .u64 (m:Int) ((2^i:Nat):Int)=(m':Int):=by
 have hp:2^i<18446744073709551616:=by
  have:2^i<2^64:=Nat.pow_lt_pow_right (by omega) hi;omega
 show IntKind.u64.wrap ((BitVec.ofInt 64 (m:Int)&&& ~~~BitVec.ofInt 64 ((2^i:Nat):Int)).toNat:Int)=_;have e:(BitVec.ofInt 64 (m:Int)&&& ~~~BitVec.ofInt 64 ((2^i:Nat):Int)).toNat=m':=by
  apply aXb;intro j;rw[h,BitVec.testBit_toNat];by_cases hj:j<64
  ·rw[BitVec.getLsbD_and,BitVec.getLsbD_not,BitVec.ofInt_natCast,BitVec.ofInt_natCast,BitVec.getLsbD_ofNat,BitVec.getLsbD_ofNat,aXp];simp[hj];by_cases e:i=j
   ·subst e;simp
   ·have e2:¬j=i:=fun e3=>e e3.symm;simp[e,e2]
  ·rw[BitVec.getLsbD_of_ge _ _ (by omega)]
   have:m.testBit j=false:=aXg (aZd hm (show 18446744073709551616≤2^j from(aXa (by omega) (show 64≤j by omega):2^64≤2^j)));rw[this];rfl
 rw[e,IntKind.wrap_u64];omega
theorem YN (n:Nat) (hn:n≤100000) (w:We):(Instr.makeSlice 22 (.int .i64 (n:Int)) (.int .i64 (n:Int))).run Tryz.prog w= .ok (.slice (some ⟨w.heap.size,0,none⟩) n n) (w.alloc (.cells (List.replicate n (fv 0)).toArray 129)):=by
 obtain⟨i0,hi,cy,bj,bp⟩:=info_parts (show(Tryz.prog.info? 129).map (fun i=>(i.zero,i.size,i.bytes))=some (some (fv 0),1,8)by kernel_rfl);have:=run_make (P:=Tryz.prog) w 22 129 i0 _ Tryz.underlying22 hi cy .i64 .i64 (n:Int) (n:Int) (by omega) (by omega) (by rw[bp];omega) (by omega);have hc:madeCells #[fv 0] n=(List.replicate n (fv 0)).toArray:=by
  apply aZ1.1;rw[toList_madeCells_one]
 rw[bj,aYp]at this;have pp:madeCells #[Value.float .f64 0] n=(List.replicate n (Value.float .f64 0)).toArray:=hc;simpa[Value.cells,pp,fv] using this
theorem EN (x:Nat):(Value.float .f64 x).oneCell'=true:=rfl
theorem o5 {P:Wl} {w:We} {a:Addr} {m:Mode} (x:Nat):(store a (.float .f64 x) m).run P w=stored P w a (.float .f64 x) m:=run_store P w a _ m rfl
attribute [local go_sem] EN o5
theorem K4 {p d:Nat} {E:Ev} {s:Pa} {T:Nat→Prop} {w:We} (h:bY p d E s T w) (hT:∀a,T a→a<w.heap.size) (gq:dP w) (a:Wb) (ro:List aT) (c:Nat) (hl:aV w a ro) (lm:ro.length≤1000000) (ch:Wi) (io:∀x∈s.hi,x.2<64):
  Calls Tryz.prog 73 #[ptrV p,.slice a ro.length c,.int .i64 ch.toInt] w fun e w'=>e= .returned (.tuple #[.int .i64 (((wkP E s ro ch).getD 0:Nat):Int),.bool (wkP E s ro ch).isSome])∧Mod (fun _=>False) w w':=by
 obtain⟨M,hp,hd,aq,hS⟩:=h;have hG:=parts.good M E s;obtain⟨T0,⟨_,kp⟩,_⟩:=hS.get (i:=0) rfl;obtain⟨T1,⟨_,kd⟩,_⟩:=hS.get (i:=1) rfl;obtain⟨T7,h7,_⟩:=hS.get (i:=7) rfl;obtain⟨T9,h9,_⟩:=hS.get (i:=9) rfl;obtain⟨T10,⟨_,kf⟩,_⟩:=hS.get (i:=10) rfl;obtain⟨T11,⟨_,kc⟩,_⟩:=hS.get (i:=11) rfl;obtain⟨T12,⟨_,ks⟩,_⟩:=hS.get (i:=12) rfl;obtain⟨T13,⟨_,es,cl,kh,Mh⟩,_⟩:=hS.get (i:=13) rfl;rw[hp]at kp;rw[hd]at kd;unfold pac at kp;unfold iE at kd;rw[hd]at kp;rw[aq.fv,aq.cv,aq.sv]at kd;have HH:=Hi (Ai h7 (Ai h9 (Ai hl (Ai lm (Ai gq (Ai Mh aq))))));have HIN:=Hi io;obtain⟨R,hR⟩:∃R,wkP E s ro ch=R:=⟨_,rfl⟩;rw[hR];have je:=aq.n1;have dy:=aq.n2;have HR:=Hi hR;clear hS hG h7 h9 hl lm gq Mh aq hp io hR;go_enter Tryz.func73,Tryz.ntmps73;go_wp2_with fail;go_at_call 111;refine(HH.out.2.1.hits a ro c HH.out.2.2.1 HH.out.2.2.2.1).mono ?_;rintro e w1 ⟨rfl,m1⟩;have kp:=m1.at0 kp;have kd:=m1.at0 kd;have kf:=m1.at0 kf;have kc:=m1.at0 kc;have ks:=m1.at0 ks;have kh:=m1.at0 kh;cases jc:l8 s.al ro with
 |true=>
  have hR:=HR.out;unfold wkP at hR;rw[jc,if_pos rfl]at hR;subst hR;clear HR HH HIN;go_wp2_with fail
  go_ret2
  exact⟨rfl,m1⟩
 |false=>
  have hR:=HR.out;unfold wkP at hR;rw[jc,if_neg (by simp)]at hR;have HR:=Hi hR;clear hR jc;have Sy:=fO.threads ((fO.good _ _ _).cl _ _ _ HH.out.1 (m1.mono (fun _ _ h=>h.elim))) a ro c je dy (HH.out.2.2.1.mod0 m1) HH.out.2.2.2.1;rw[←OV]at Sy;have No:=Hi (fun wq (hq:Mod (fun _=>False) w1 wq)=>fO.threads ((fO.good _ _ _).cl _ _ _ HH.out.1 ((m1.then0 hq).mono (fun _ _ h=>h.elim))) a ro c je dy (HH.out.2.2.1.mod0 (m1.then0 hq)) HH.out.2.2.2.1);have na:=YN E.n (by omega);clear Sy;have M1:=Hi m1;clear m1;go_upto_region 3 with fail;have Lkp:=aA kp;have Lkd:=aA kd;have Lkf:=aA kf;have Lkc:=aA kc;have Lks:=aA ks;have Lkh:=aA kh;refine ZR (fun _ _ v=>v= .int .u64 (mkP E s ro 0:Nat)) [0,0,0,1,0,0,1,0,2,0,0,0,1,0,0,1,0,3,0,0] ?_
  iterate 8 first|refine Zv ?_|refine Zd ?_
  (refine Zc ?_ (s:=by intro wq ae;exact(No.out wq ae).mono (fun e w' h=>⟨_,h.1,by rw[OV],h.2⟩));rintro _ rfl;try simp only[zL])
  iterate 8 first|refine Zv ?_|refine Zd ?_
  (refine TD.mks (by simp only[zK];rfl) rfl (by rfl) rfl rfl ?hx18 ?hz18 na (fun p37 Rp=> ?n18);(case hx18=>simp only[zM];try rfl);(case hz18=>simp only[zM];try rfl);try simp only[zL])
  iterate 2 refine Zv ?_
  refine TD.nil (fun w2 hr=> ?_);replace kp:=hr.q kp;replace kd:=hr.q kd;replace kf:=hr.q kf;replace kc:=hr.q kc;replace ks:=hr.q ks;replace kh:=hr.q kh;obtain⟨gp37,kp37⟩:=hr.b p37;have M2:=Hi (M1.out.then0 hr.mod);have Rp:Hid (w.heap.size≤p37):=Hi (by have:=M1.out.size;omega);clear hr na No;obtain⟨F,hF⟩:∃F,(s.fl.map natV).toArray=F:=⟨_,rfl⟩;obtain⟨G,Yw⟩:∃G,(s.co.map u64v).toArray=G:=⟨_,rfl⟩;obtain⟨J,hJ⟩:∃J,(E.spd.map fv++M.sx).toArray=J:=⟨_,rfl⟩;rw[hF]at kf;rw[Yw]at kc;rw[hJ]at ks;have HA:=Hi (Ai hF (Ai Yw hJ));have KK:=Hi (Ai kp (Ai kd (Ai kf (Ai kc (Ai ks kh)))));have HN:Hid (p≠p37∧d≠p37∧M.fb≠p37∧M.cb≠p37∧M.sb≠p37∧M.X.hb≠p37):=Hi ⟨by omega,by omega,by omega,by omega,by omega,by omega⟩;clear hF Yw hJ kf kc ks kh;have k37:w2.heap[p37]? =some (.cells (((wtsP E s).take 0).map fv++List.replicate (E.n-0) (fv 0)).toArray 129 (0,0)):=kp37;clear kp37;go_wp2_with fail;clear kp kd;go_loopw [46,8] (fun s46 s8 ws=>∃i:Nat,i≤E.n∧s46= .int .i64 (i:Int)∧s8= .int .u64 (mkP E s ro i:Nat)∧ws.heap[p37]? =some (.cells (((wtsP E s).take i).map fv++List.replicate (E.n-i) (fv 0)).toArray 129 (0,0))∧Mod (fun x=>x=p37) w2 ws) (fun s46 _ _=>E.n-(intOf s46).toNat)
  case atStart=>exact⟨0,by omega,rfl,rfl,k37,Mod.refl _ _⟩
  case round=>
   clear k37;obtain⟨i,hi,rfl,rfl,kw,hm⟩:=hrel;obtain⟨kp,kd,kf,kc,ks,kh⟩:=KK.out;have kp:=hm.at kp HN.out.1;have kd:=hm.at kd HN.out.2.1;by_cases hlt:i<E.n
   ·have kf:=hm.at kf HN.out.2.2.1;have kc:=hm.at kc HN.out.2.2.2.1;have ks:=hm.at ks HN.out.2.2.2.2.1;clear kh;obtain⟨f,hf⟩:∃f,s.fl[i]? =some f:=⟨_,aZb (by rw[HH.out.2.2.2.2.2.2.fl];exact hlt)⟩;obtain⟨co,Ow⟩:∃co,s.co[i]? =some co:=⟨_,aZb (by rw[HH.out.2.2.2.2.2.2.co];exact hlt)⟩;obtain⟨sp,ff⟩:∃sp,E.spd[i]? =some sp:=⟨_,aZb (by rw[HH.out.2.2.2.2.2.2.sp];exact hlt)⟩;have f0:F[i]? =some (.int .i64 (f:Int)):=by rw[←HA.out.1,zA,aZv,hf];rfl
    have g0:G[i]? =some (u64v co):=by rw[←HA.out.2.1,zA,aZv,Ow];rfl
    have j0:J[i]? =some (.float .f64 sp):=by rw[←HA.out.2.2,zA,aZt (by rw[aZs];exact(aZa.1 ff).1),aZv,ff];rfl
    have f1:∀h:i<F.size,F[i]= .int .i64 (f:Int):=fun h=>aU f0 h;have g1:∀h:i<G.size,G[i]=u64v co:=fun h=>aU g0 h;have j1:∀h:i<J.size,J[i]= .float .f64 sp:=fun h=>aU j0 h;have f2:=(aZf.1 f0).1;have g2:=(aZf.1 g0).1;have j2:=(aZf.1 j0).1;have Fc:(wtsP E s).length=E.n:=by simp[wtsP]
    have hwi:(wtsP E s)[i]? =some (waP co sp):=by
     unfold wtsP;rw[aZv,List.getElem?_range hlt];simp[aZk,Ow,ff]
    have ef:(((wtsP E s).take i).map fv++List.replicate (E.n-i) (fv 0)).toArray.setIfInBounds i (fv (waP co sp))=(((wtsP E s).take (i+1)).map fv++List.replicate (E.n-(i+1)) (fv 0)).toArray:=by
     have h1:E.n-i=(E.n-(i+1))+1:=by omega
     have h2:=vL (((wtsP E s).take i).map fv) (E.n-(i+1)) (fv (waP co sp)) (fv 0);rw[aZs,aZ4,Fc,aX7 hi]at h2;rw[h1,h2,aYa,hwi];simp
    have Pm:s.fl.getD i 0=f:=by rw[aZk,hf];rfl
    obtain⟨W,hW⟩:∃W,(((wtsP E s).take i).map fv++List.replicate (E.n-i) (fv 0)).toArray=W:=⟨_,rfl⟩;have w0:i<W.size:=by rw[←hW];simp[Fc];omega
    rw[hW]at kw ef;have Nn:=Hi (Ai ef Pm);clear hf Ow ff Fc hwi ef hW Pm f0 g0 j0;go_upto_region 7 with fail;have Lkp:=aA kp;have Lkd:=aA kd;have Lkf:=aA kf;have Lkc:=aA kc;have Lks:=aA ks;have Lkw:=aA kw;refine ZR (fun _ _ v=>v= .float .f64 (waP co sp)) [0,0,0,0,0,1,0,0,1,0,0,1,0,0,0,1,0,0,0,1,0,0,1,2,0,5] ?_
    iterate 23 first|refine Zv ?_|refine Zd ?_
    (refine Zc ?_ (s:=by intro wq ae;exact(wait_c co sp wq).mono (fun e w' h=>⟨_,h.1,rfl,by rw[h.2];exact Mod.refl _ _⟩));rintro _ rfl;try simp only[zL]);refine Zv ?_;refine Zi fun wE hr=> ?_;replace kp:=hr.mod.at0 kp;replace kd:=hr.mod.at0 kd;replace kf:=hr.mod.at0 kf;replace kc:=hr.mod.at0 kc;replace ks:=hr.mod.at0 ks;replace kw:=hr.mod.at0 kw;have mE:=hr.mod;refine ZS ?_;refine ZN kw fun w3 kw mS=> ?_;replace kp:=mS.at_ne kp (by omega);replace kd:=mS.at_ne kd (by omega);replace kf:=mS.at_ne kf (by omega);replace kc:=mS.at_ne kc (by omega);replace ks:=mS.at_ne ks (by omega);have m3:=hm.then0 mE;have m3:=m3.trans mS;rw[show(Value.float .f64 (waP co sp))=fv (waP co sp)from rfl,Nn.out.1]at kw;have M3:=Hi m3;clear mE mS m3 hr;by_cases hge:E.fli≤f
    ·have hb:=yS (u6 E s ro i dy) (u6 E s ro (i+1) dy) (show i<64 by omega) (NG (by rw[Nn.out.2];omega));have jo:=HH.out.2.2.2.2.2.2.fli;have Iw:M.D.fli≤f:=by omega
     have rr:=Dt Iw;have HB:=Hi hb;clear jo;go_wp2_with fail;have ny:IntKind.u64.wrap ((2:Int)^i)=((2^i:Nat):Int):=by
      have h1:2^i<2^64:=Nat.pow_lt_pow_right (by omega) (show i<64 by omega);have h2:((2:Int)^i)=((2^i:Nat):Int):=by rw[Int.natCast_pow];rfl
      have key:∀P:Nat,P<2^64→IntKind.u64.wrap (P:Int)=(P:Int):=fun P h=>by
       rw[IntKind.wrap_u64];omega
      rw[h2];exact key _ h1
     exact⟨⟨i+1,by omega,rfl,by rw[ny,HB.out],kw,M3.out⟩,by simp[intOf];omega⟩
    ·have jo:=HH.out.2.2.2.2.2.2.fli;have Iw:¬M.D.fli≤f:=by omega
     have rr:=Df Iw;have Eg:=JA (E:=E) (s:=s) (ro:=ro) (i:=i) (by rw[Nn.out.2];omega);have HB:=Hi Eg;clear jo Eg;go_wp2_with fail;go_roundw
     case rel=>exact⟨i+1,by omega,by go_num,by rw[HB.out],kw,M3.out⟩
     case measure=>simp[intOf];omega
   ·obtain rfl:i=E.n:=by omega
    have kh:=hm.at kh HN.out.2.2.2.2.2;clear kf kc ks;have Fc:(wtsP E s).length=E.n:=by simp[wtsP]
    rw[aY6 (by omega),aXn,List.replicate_zero,aYx]at kw;have fy:aS qT 1 wr (some ⟨p37,0,none⟩) (wtsP E s):=by
     refine .inr ⟨p37,0,_,_,_,rfl,kw,fun k x hx=> ?_⟩;have hk:=aZa.1 hx;simp only[aXe,aYp];refine⟨?_,by simp;exact hk.1⟩;apply aZ1.1;rw[aXv];show(((wtsP E s).map fv).drop k).take (k+1-k)=[fv x];rw[show k+1-k=1 by omega,aXr (by simpa using hk.1)];simp[hk.2]
    have MR:=Hi (M2.out.then hm (fun j h1 h2=>by have:=Rp.out;omega));have HW:=Hi (Ai fy Fc);clear fy Fc kw hm;have jp:=HH.out.2.2.2.2.2.1.lookup IT Tryz.underlying119 (z:= .int .i64 0) (fun w=>by kernel_rfl) wr kh ch true;simp only[if_true]at jp;replace jp:(Instr.lookup 119 (.map (some M.X.hb)) (.int .i64 ch.toInt) true).run Tryz.prog wr= .ok (.tuple #[((lkp ch s.hi).map natV).getD (.int .i64 0),.bool (lkp ch s.hi).isSome]) wr:=jp;have Gx:Calls Tryz.prog 114 #[.int .u64 (mkP E s ro E.n:Int),.slice (some ⟨p37,0,none⟩) E.n E.n] wr fun e w'=>e= .returned (.tuple #[.int .i64 (((pkR (mkP E s ro E.n) (wtsP E s)).getD 0:Nat):Int),.bool (pkR (mkP E s ro E.n) (wtsP E s)).isSome])∧Mod (fun _=>False) wr w':=by
     have h1:=RR (mkP E s ro E.n) (u6 E s ro E.n dy) (some ⟨p37,0,none⟩) (wtsP E s) E.n wr HW.out.1 (by rw[HW.out.2];omega) (dP.mod0 HH.out.2.2.2.2.1 MR.out);rw[HW.out.2]at h1;exact h1
    have HPK:=Hi Gx;have Az:=u6 E s ro E.n dy;clear Gx;cases cd:lkp ch s.hi with
    |none=>
     have hR:=HR.out;rw[cd]at hR jp;dsimp only at hR;replace jp:(Instr.lookup 119 (.map (some M.X.hb)) (.int .i64 ch.toInt) true).run Tryz.prog wr= .ok (.tuple #[.int .i64 0,.bool false]) wr:=jp;have xd:=Hi hR;clear hR HR cd;go_wp2_with fail;go_at_call 114;refine HPK.out.mono ?_;rintro e w5 ⟨rfl,m5⟩;go_wp2_with fail
     go_ret2
     rw[←xd.out];exact⟨rfl,MR.out.then0 m5⟩
    |some wk=>
     have hwk:wk<64:=HIN.out _ (cP cd);have hR:=HR.out;rw[cd]at hR jp;dsimp only at hR;replace jp:(Instr.lookup 119 (.map (some M.X.hb)) (.int .i64 ch.toInt) true).run Tryz.prog wr= .ok (.tuple #[.int .i64 (wk:Int),.bool true]) wr:=jp;have dz:=qB (mkP E s ro E.n) wk Az;cases htb:(mkP E s ro E.n).testBit wk with
     |true=>
      rw[htb,if_pos rfl]at dz hR;have xd:=Hi hR;clear hR HR cd htb;go_wp2_with fail
      go_ret2
      rw[←xd.out];exact⟨rfl,MR.out⟩
     |false=>
      rw[htb,if_neg (by simp)]at dz hR;have xd:=Hi hR;clear hR HR cd htb;go_wp2_with fail;go_at_call 114;refine HPK.out.mono ?_;rintro e w5 ⟨rfl,m5⟩;go_wp2_with fail
      go_ret2
      rw[←xd.out];exact⟨rfl,MR.out.then0 m5⟩
end
section
attribute [local go_sem↓] kG
attribute [local go_sem] bI dZ eT
theorem lO (x:cT):(b9 x)[41]? =some (.slice x.ro.a x.ro.l.length x.ro.c):=fC (pre:=dF x) 2
theorem pK (x:cT) (h:41<(b9 x).size):(b9 x)[41]= .slice x.ro.a x.ro.l.length x.ro.c:=aU (lO x) h
attribute [local go_sem↓] dE cD dD nB jX mX
attribute [local go_sem] bD bV cV iJ fK uR qX pE lI pD jK bE cB cC lO pK
theorem MI {P:Wl} {t:Wh} {fs:Array Field} {k n:Nat} {f:Field} {xs:Wa} {w:We} (hu:P.underlying t=some (.struct fs)) (hf:fs[k]? =some f) (h1:(isAgg f.type).run P w= .ok true w) (h2:(sizeOf f.type).run P w= .ok n w):(Instr.field t (.agg xs) k).run P w= .ok (.agg (xs.extract f.offset (f.offset+n))) w:=by
 unfold Instr.field;simp only[Sem.run_bind,run_underlying hu,Result.andThen_ok,hf];show(Go.part f.type xs f.offset).run P w=_;unfold Go.part;simp only[Sem.run_bind,h1,h2,Result.andThen_ok,if_true];rfl
theorem MH {P:Wl} {t:Wh} {fs:Array Field} {k:Nat} {f:Field} {xs:Wa} {w:We} {v:Wg} (hu:P.underlying t=some (.struct fs)) (hf:fs[k]? =some f) (h1:(isAgg f.type).run P w= .ok false w) (h2:xs[f.offset]? =some v):(Instr.field t (.agg xs) k).run P w= .ok v w:=by
 unfold Instr.field;simp only[Sem.run_bind,run_underlying hu,Result.andThen_ok,hf];show(Go.part f.type xs f.offset).run P w=_;unfold Go.part;simp only[Sem.run_bind,h1,Result.andThen_ok,aZr,if_false,h2];rfl
theorem BQ (z:bT) (w:We):(Instr.field 82 (.agg (dM z)) 1).run Tryz.prog w= .ok (.agg (b9 z.r)) w:=by
 rw[←jK];exact MI (k:=1) (n:=48) Tryz.underlying82 rfl (by kernel_rfl) (by kernel_rfl)
theorem UZ (x:cT) (w:We):(Instr.field 46 (.agg (b9 x)) 2).run Tryz.prog w= .ok (.slice x.ro.a x.ro.l.length x.ro.c) w:=
 MH (k:=2) Tryz.underlying46 rfl (by kernel_rfl) (lO x)
attribute [local go_sem] BQ UZ
theorem P4 {base:Nat} {x:It} {z:bT} {T:Nat→Prop} {w:We} (h:PF base x (.agg (dM z)) T w) {y:cT} (hy:aV w y.ro.a y.ro.l) (xa:y.ro.l.length≤1000000) (Bv:x.r.ro.length≤1000000):
  Calls Tryz.prog 21 #[.slice z.r.ro.a z.r.ro.l.length z.r.ro.c,.slice y.ro.a y.ro.l.length y.ro.c] w fun e w'=>∃v,e= .returned v∧v= .bool (dQ x.r.ro y.ro.l)∧Mod (fun _=>False) w w':=by
 obtain⟨z2,e,hc,hn,hi⟩:=h;injection e with e
 have h1:some (Value.slice z.r.ro.a z.r.ro.l.length z.r.ro.c)=some (Value.slice z2.r.ro.a z2.r.ro.l.length z2.r.ro.c):=by rw[←lI,←lI,e]
 have h2:=aZz h1;have h3:z2.r.ro.l=x.r.ro:=congrArg (fun u:It=>u.r.ro) hc;rw[h2,←h3];refine(NN z2.r.ro.a y.ro.a z2.r.ro.l y.ro.l z2.r.ro.c y.ro.c w hn.ok.ro hy (by rw[h3];exact Bv) xa).mono ?_;rintro e w' ⟨h4,h5⟩;exact⟨_,h4,rfl,h5⟩
section
variable {p d b pb rb:Nat} {D:Dk} {X:Pk} {S:List (Option It)} {T:Nat→Prop} {w:We}
theorem ND (kp:w.heap[p]? =some (.cells (pac X) 121 (0,0))) (kd:w.heap[X.d]? =some (.cells (iE D) 69 (0,0))) (hB:BT D.b S T w) {i:Nat} {x:It} (hx:S[i]? =some (some x)) (Bv:x.r.ro.length≤1000000)
  (kb:w.heap[pb]? =some (.cells #[ptrV p] 114 (0,0))) {y:cT} (kr:w.heap[rb]? =some (.cells (b9 y) 46 (0,0))) (hy:aV w y.ro.a y.ro.l) (xa:y.ro.l.length≤1000000):
  Calls Tryz.prog 117 #[.int .i64 (i:Int),ptrV pb,ptrV rb] w fun e w'=>e= .returned (.bool (dQ x.r.ro y.ro.l))∧Mod (fun _=>False) w w':=by
 have HH:=Hi (Ai kp (Ai kd (Ai hB (Ai hx (Ai Bv (Ai hy xa))))));clear kp kd hB hx Bv hy xa;go_enter Tryz.func117,Tryz.ntmps117;go_upto_region 1 with fail;have Lkb:=aA kb;have Lkr:=aA kr;refine bL (T0:=fun _=>False) (K:=fun _ _=>True) (κ:=fun i=>[0,0,6,0,0,0,0,6,0].getD i 0) (υ:=fun _=>[]) [0,1,2,3,4,5,6,7,8] (by kernel_rfl) (by kernel_rfl) (aH.true).cl (trivial) (fun _ h=>h.elim) ?_;have gK:=aH.true;refine Zh ?_;refine Zg ?_;(refine ZJ (PF w.heap.size x) (nT w.heap.size x) gK ?_ (s:=fun T wq kq ltq ae ub=>by exact I0 w.heap.size ae.size T (ae.at0 HH.out.1) (ae.at0 HH.out.2.1) ((BT.good _ _).cl _ _ _ HH.out.2.2.1 (ae.mono (fun _ _ h=>h.elim))) HH.out.2.2.2.1);rintro v3 ⟨wI,TI,hI⟩;replace gK:=gK.and ((nT w.heap.size x) v3);(obtain⟨_,z,rfl,_⟩:=hI.k);(try clear hI TI wI);try simp only[zL])
 iterate 3 refine Zg ?_
 refine Zh ?_;(refine ZG (fun v=>v= .bool (dQ x.r.ro y.ro.l)) gK ?_ (s:=fun T wq kq ltq ae ub=>by exact P4 kq.2 (HH.out.2.2.2.2.2.1.mod0 ae) HH.out.2.2.2.2.2.2 HH.out.2.2.2.2.1);rintro v8 hC;subst hC;try simp only[zL]);refine Zg ?_;refine TG.nil (fun w3 ⟨TR,hr⟩=> ?_);replace kb:=hr.q kb;replace kr:=hr.q kr;clear gK;have m3:=hr.mod;clear hr;go_wp2_with fail;go_ret;exact⟨rfl,m3⟩
end
def W0 (pb rb:Nat):Wg:= .func (.func 117) #[] #[.pointer (some ⟨pb,0,none⟩),.pointer (some ⟨rb,0,none⟩)]
attribute [local go_sem] W0
theorem QS {w:We} {a:Wb} {l:Wc} {c:Nat} (hl:aS ic 1 w a l) (ag:l.length≤1000000) (pb rb:Nat) (P:Wi→Bool) (hq:∀x∈l,∀wq,Mod (fun _=>False) w wq→Calls Tryz.prog 117 #[.int .i64 x.toInt,ptrV pb,ptrV rb] wq fun e w'=>e= .returned (.bool (P x))∧Mod (fun _=>False) wq w'):
  Calls Tryz.prog 154 #[.slice a l.length c,W0 pb rb] w fun e w'=>(∃n:Int,e= .returned (.int .i64 n)∧decide (0≤n)=l.any P)∧Mod (fun _=>False) w w':=by
 have HL:=Hi (Ai hl hq);clear hl hq;go_enter Tryz.func154,Tryz.ntmps154;go_wp2_with fail;go_loopw [8] (fun s8 ws=>∃i:Nat,i≤l.length∧s8= .int .i64 (i:Int)∧Hid ((l.take i).any P=false)∧Mod (fun _=>False) w ws) (fun s8 _=>l.length-(intOf s8).toNat)
 case atStart=>exact⟨0,aYf _,rfl,Hi (by simp),Mod.refl _ _⟩
 case round=>
  obtain⟨i,hi,rfl,HN,hm⟩:=hrel;by_cases hlt:i<l.length
  ·obtain⟨y,hy⟩:∃y,l[i]? =some y:=⟨_,aZb hlt⟩;obtain⟨g,o,C,U,fr,e,kg0,hx,dh⟩:=HL.out.1.block hy;subst e;have kg:=hm.at0 kg0;simp only[aYp]at hx dh;have vv:C[o+i]? =some (.int .i64 y.toInt):=by
    have h1:=congrArg (fun A=>A[0]?) hx;rw[aYl]at h1;split at h1
    ·rw[aXz]at h1;exact h1
    ·omega
   have nh:∀h:o+i<C.size,C[o+i]= .int .i64 y.toInt:=fun h=>aU vv h;have HY:=Hi hy;have io:=aZi hy;have HQ:=Hi (HL.out.2 y io wr hm);have HM:=Hi hm;clear hy hx kg0 io hm;go_wp2_with fail;go_at_call 117;refine HQ.out.mono ?_;rintro e w2 ⟨rfl,m2⟩;have de:=Hi (HM.out.then0 m2);clear kg m2;cases hP:P y with
   |true=>
    have yf:Hid (decide ((0:Int)≤(i:Int))=l.any P):=Hi (by
     rw[show l.any P=true from aYv.2 ⟨y,aZi HY.out,hP⟩];exact Dt (by omega))
    clear hP;go_wp2_with fail;go_ret;exact⟨⟨_,rfl,yf.out⟩,de.out⟩
   |false=>
    have iu:Hid ((l.take (i+1)).any P=false):=Hi (by
     rw[aYa,HY.out,List.any_append,HN.out];simp[hP])
    clear hP;go_wp2_with fail;go_roundw
    case rel=>exact⟨i+1,by omega,by go_num,iu,de.out⟩
    case measure=>simp[intOf];omega
  ·obtain rfl:i=l.length:=by omega
   have yf:Hid (decide ((0:Int)≤(-1:Int))=l.any P):=Hi (by
    have:=HN.out;rw[aY5]at this;rw[this];decide)
   go_wp2_with fail;go_ret;exact⟨⟨_,rfl,yf.out⟩,hm⟩
theorem MD {w:We} {a:Wb} {l:Wc} {c:Nat} (hl:aS ic 1 w a l) (ag:l.length≤1000000) (pb rb:Nat) (P:Wi→Bool) (hq:∀x∈l,∀wq,Mod (fun _=>False) w wq→Calls Tryz.prog 117 #[.int .i64 x.toInt,ptrV pb,ptrV rb] wq fun e w'=>e= .returned (.bool (P x))∧Mod (fun _=>False) wq w'):
  Calls Tryz.prog 118 #[.slice a l.length c,W0 pb rb] w fun e w'=>e= .returned (.bool (l.any P))∧Mod (fun _=>False) w w':=by
 have HI:=Hi (QS (c:=c) hl ag pb rb P hq);clear hl hq;go_enter Tryz.func118,Tryz.ntmps118;go_wp2_with fail;go_at_call 154;refine HI.out.mono ?_;rintro e w2 ⟨⟨n,rfl,hn⟩,m2⟩;have HN:=Hi hn;clear hn;go_wp2_with fail;go_ret;rw[←HN.out];exact⟨rfl,m2⟩
end
theorem BatL.app {n j:Nat} {V:List Wg} {L:List (Wc)} {T:Nat→Prop} {w:We} (h:BatL n V L T w) (hj:j<n) {b q:Wc} (hb:L[j]? =some b) {v:Wg} (hv:V[j]? =some v) {a:Wb} {c:Nat} (hq:aS ic 1 w a q) (ag:b.length+q.length≤1000000) (ty:Wh):
  ∃v' w',(Builtin.append_ #[53,53] ty #[v,.slice a q.length c]).run Tryz.prog w= .ok v' w'∧Goes (BatL n (V.set j v') (L.set j (b++q))) T w w'∧∃a' c',v'= .slice a' (b++q).length c':=by
 obtain⟨k1,k2,k3⟩:=h.2.1 j v b hv hb;obtain⟨v',w',h1,h2,h3,h4⟩:=aE.append gL (c:=c) (k1 hj) hq ag (by decide) (aYf _) ty;have Jb:=(aZa.1 hv).1;have hjL:=(aZa.1 hb).1;have Re:∀(i:Nat) (u:Wg),i≠j→V[i]? =some u→∀g,u.ownBlock=some g→v.ownBlock≠some g:=fun i u hi hu g hg=>h.2.2 i j u v hi hu hv g hg;have gm:∀g,v'.ownBlock=some g→v.ownBlock=some g∨(w.heap.size≤g∧g<w'.heap.size):=fun g hg=>by
  have hlt:=(h2.lt g hg).2;rcases h4 with h4|h4
  ·rw[h4]at hg;exact .inl hg
  ·rw[h4]at hg;cases hg;exact .inr ⟨aZq _,hlt⟩
 have hold:∀(i:Nat) (u:Wg) (l:Wc),V[i]? =some u→L[i]? =some l→∀g,u.ownBlock=some g→g<w.heap.size:=fun i u l hu hl g hg=>by
  obtain⟨p1,p2,_⟩:=h.2.1 i u l hu hl;by_cases hi:i<n
  ·exact((p1 hi).lt g hg).2
  ·exact((p2 (by omega)).lt g hg).2
 obtain⟨a',c',e',_⟩:=h2.at gL;refine⟨v',w',h1,⟨Grow T w w',⟨by rw[aZn,aZn];exact h.1,fun i u l hu hl=> ?_,fun i k u u' Ak hu og g hg=> ?_⟩,h3.mono (fun i _ hi=>k3 i hi),fun _ h=>h⟩,a',c',e'⟩
 ·rw[List.getElem?_set]at hu hl;by_cases e:j=i
  ·subst e;rw[if_pos rfl,if_pos Jb]at hu;rw[if_pos rfl,if_pos hjL]at hl;cases hu;cases hl;exact⟨fun _=>h2,fun hh=>by omega,fun g hg=>(gm g hg).imp (fun hh=>k3 g hh) (fun hh=>hh)⟩
  ·rw[if_neg e]at hu hl;obtain⟨p1,p2,p3⟩:=h.2.1 i u l hu hl;exact⟨fun hi=>(p1 hi).mod h3 (fun g hg e2=>Re i u (fun h=>e h.symm) hu g hg e2),fun hi=>(p2 hi).mod h3 (fun g hg e2=>Re i u (fun h=>e h.symm) hu g hg e2),fun g hg=> .inl (p3 g hg)⟩
 ·rw[List.getElem?_set]at hu og;by_cases e:j=i
  ·subst e;rw[if_pos rfl,if_pos Jb]at hu;rw[if_neg Ak]at og;cases hu;intro gj;rcases gm g hg with hh|hh
   ·exact h.2.2 j k v u' Ak hv og g hh gj
   ·obtain⟨l,hl⟩:∃l,L[k]? =some l:=⟨_,aZb (by rw[←h.1];exact(aZa.1 og).1)⟩;have:=hold k u' l og hl g gj;omega
  ·rw[if_neg e]at hu;by_cases e2:j=k
   ·subst e2;rw[if_pos rfl,if_pos Jb]at og;cases og;intro gj;rcases gm g gj with hh|hh
    ·exact h.2.2 i j u v Ak hu hv g hg hh
    ·obtain⟨l,hl⟩:∃l,L[i]? =some l:=⟨_,aZb (by rw[←h.1];exact(aZa.1 hu).1)⟩;have:=hold i u l hu hl g hg;omega
   ·rw[if_neg e2]at og;exact h.2.2 i k u u' Ak hu og g hg
def wf (j:Nat):Fin 64:=⟨j % 64,aWt _ (by omega)⟩
theorem K3 {j:Nat} (h:j<64):(wf j).val=j:=aW3 h
theorem fO.takeJ {T:Nat→Prop} {t n:Nat} {L:List Lk} {w:We} (h:fO t n L T w) (a:Wb) (l:List aT) (c:Nat) {j:Nat} (hn:1≤n) (dy:n≤64) (hl:aV w a l) (ag:L.length+l.length≤1000000) (hj:j<n) (hf:iF L l j=true):
  Calls Tryz.prog 115 #[ptrV t,.slice a l.length c,.int .i64 (j:Int)] w fun e w'=>e= .returned (.int .i64 0)∧Goes (fO t n (addL L l (wf j))) T w w':=by
 have hv:=K3 (show j<64 by omega);have h1:=fO.take h a l c (wf j) hn dy hl ag (by rw[hv];exact hj) (by rw[hv];exact hf);rw[hv]at h1;exact h1
def takeP (j:Nat) (ro:List aT) (cost:Wj) (s:Pa):Pa:= {s with L:=addL s.L ro (wf j),fl:=s.fl.set j (s.fl.getD j 0+1),co:=s.co.set j (sat (s.co.getD j 0) cost)}
def jZ (j:Nat) (i:Wi) (s:Pa):Pa:= {s with op:=s.op.set j (s.op.getD j []++[i])}
def giveP (E:Ev) (j:Nat) (i:Wi) (ro:List aT) (cost:Wj) (s:Pa):Pa:=
 jZ j i (if E.bat≤(s.op.getD j []).length∨(s.op.getD j []).any (fun k=>dQ (roS s.S k) ro)=true then pushP j (takeP j ro cost s)else takeP j ro cost s)
def popK (K:List Rn) (i:Wi):List Rn:=K.filter fun y=>decide (y.id≠i)
def chK (K:List Rn) (i:Wi):Wi:=((K.find? fun y=>decide (y.id=i)).map Rn.ch).getD 0
def stepP (E:Ev) (s:Pa) (i:Wi):Pa:=
 match itS s.S i with
 |none=>s
 |some x=>match wkP E s x.r.ro (chK s.K i)with
  |some w=>giveP E w i x.r.ro x.r.cost {s with K:=popK s.K i,hi:=put (chK s.K i) w s.hi}
  |none=> {s with K:=popK s.K i,al:=s.al++x.r.ro,sd:=s.sd++[i]}
theorem rH {X Y:List Rn} {x:Rn} (h:((X++x::Y).map Rn.id).Nodup):popK (X++x::Y) x.id=X++Y:=by
 rw[List.map_append,aZo,aZ7,aYc]at h;obtain⟨h1,⟨h2,h3⟩,h4⟩:=h;unfold popK;rw[aZ6,List.filter_cons_of_neg (by simp),aX1.2,aX1.2]
 ·intro y hy;refine Dt (fun e=>h2 ?_);rw[←e];exact aZj.2 ⟨y,hy,rfl⟩
 ·intro y hy;refine Dt (h4 _ (aZj.2 ⟨y,hy,rfl⟩) _ List.mem_cons_self)
theorem DP {X Y:List Rn} {x:Rn} (h:((X++x::Y).map Rn.id).Nodup):chK (X++x::Y) x.id=x.ch:=by
 rw[List.map_append,aZo,aZ7]at h;have h4:=h.2.2;unfold chK;rw[List.find?_append,List.find?_eq_none.2,Option.none_or,List.find?_cons_of_pos (by simp)]
 ·rfl
 ·intro y hy e;have e:=of_decide_eq_true e;exact h4 _ (aZj.2 ⟨y,hy,rfl⟩) _ List.mem_cons_self e
theorem xT {K:List Rn} {x:Rn} (h:x∈K):(popK K x.id).length+1≤K.length:=by
 obtain⟨X,Y,rfl⟩:=aXf h;have h1:=List.length_filter_le (fun y:Rn=>decide (y.id≠x.id)) X;have h2:=List.length_filter_le (fun y:Rn=>decide (y.id≠x.id)) Y;unfold popK;rw[aZ6,List.filter_cons_of_neg (by simp),aZg,aZg,aZu];omega
def yL (K:List Rn) (i:Wi):Prop:=∃X x Y,K=X++x::Y∧x.id=i∧X.any (fun y=>dQ y.l x.l)=false
theorem yL.mem {K:List Rn} {i:Wi} (h:yL K i):∃x∈K,x.id=i:=by
 obtain⟨X,x,Y,rfl,e,_⟩:=h;exact⟨x,by simp,e⟩
theorem yL.pop {K:List Rn} {i j:Wi} (h:yL K i) (aw:i≠j):yL (popK K j) i:=by
 obtain⟨X,x,Y,rfl,rfl,hf⟩:=h;refine⟨popK X j,x,popK Y j,?_,rfl,?_⟩
 ·unfold popK;rw[aZ6,List.filter_cons_of_pos (by simpa using aw)]
 ·rw[aWl]at hf⊢;exact fun y hy=>hf y (List.mem_filter.1 hy).1
theorem R4 {K pre:List Rn}:∀ {i:Wi},i∈gT pre K→∃X x Y,K=X++x::Y∧x.id=i∧(pre++X).any (fun y=>dQ y.l x.l)=false:=by
 induction K generalizing pre with
 |nil=>intro i h;cases h
 |cons z K ih=>
  intro i h;rcases aZh.1 h with h|h
  ·split at h
   ·cases h
   ·rename_i hn;obtain rfl:=aZm.1 h;exact⟨[],z,K,rfl,rfl,by rw[aYx];simpa using hn⟩
  ·obtain⟨X,x,Y,rfl,e,hf⟩:=ih h;exact⟨z::X,x,Y,rfl,e,by rw[aZw]at hf;exact hf⟩
theorem pL {K:List Rn} {i:Wi} (h:i∈readyR K):yL K i:=by
 obtain⟨X,x,Y,h1,h2,h3⟩:=R4 h;exact⟨X,x,Y,h1,h2,by rw[aYq]at h3;exact h3⟩
theorem j7:∀(K pre:List Rn),(gT pre K).Sublist (K.map Rn.id)
 |[],_=>List.Sublist.slnil
 |x::K,pre=>by
  have ih:=j7 K (pre++[x]);show((if pre.any (fun y=>dQ y.l x.l)then []else [x.id])++gT (pre++[x]) K).Sublist (x.id::K.map Rn.id);split
  ·exact ih.cons _
  ·exact ih.cons_cons _
theorem j8 {K:List Rn} (h:(K.map Rn.id).Nodup):(readyR K).Nodup:=h.sublist (j7 K [])
theorem ES {K:List Rn} (h:readyR K=[]):K=[]:=by
 cases K with
 |nil=>rfl
 |cons x K=>cases h
theorem getD_mem {α:Type} (l:List (List α)) (j:Nat):l.getD j []=[]∨l.getD j []∈l:=by
 rw[aZk];cases h:l[j]? with
 |none=>exact .inl rfl
 |some x=>exact .inr (aZi h)
theorem fH {α:Type} {l:List α} {j k:Nat} {v d:α}:(l.set j v).getD k d=if j=k∧k<l.length then v else l.getD k d:=by
 rw[aZk,aZk,List.getElem?_set];by_cases e:j=k
 ·subst e;by_cases h:j<l.length
  ·simp[h]
  ·simp[h]
 ·simp[e]
theorem xV (j:Nat) (s:Pa):(pushP j s).op=s.op.set j []:=by
 unfold pushP;split
 ·rename_i h;apply aXm;intro k;rw[List.getElem?_set];rw[aZk]at h;by_cases e:j=k
  ·subst e;rw[if_pos rfl];by_cases hj:j<s.op.length
   ·rw[if_pos hj];rw[aZb hj]at h⊢;exact congrArg some h
   ·rw[if_neg hj,aY1 (by omega)]
  ·rw[if_neg e]
 ·rfl
theorem rI (j:Nat) (s:Pa):(pushP j s).S=s.S∧(pushP j s).D=s.D∧(pushP j s).K=s.K∧(pushP j s).q=s.q∧(pushP j s).L=s.L∧(pushP j s).al=s.al∧(pushP j s).hi=s.hi∧(pushP j s).dr=s.dr∧(pushP j s).sd=s.sd∧(pushP j s).fl=s.fl∧(pushP j s).co=s.co:=by
 unfold pushP;split<;>exact⟨rfl,rfl,rfl,rfl,rfl,rfl,rfl,rfl,rfl,rfl,rfl⟩
structure eD (E:Ev) (s:Pa):Prop where
 fi:jO s
 kn:(s.K.map Rn.id).Nodup
 b1:1≤E.bat
 b2:E.bat≤64
 n2:E.n≤64
 lo:s.op.length=E.n
 ll:s.la.length=E.n
 hi:∀x∈s.hi,x.2<64
 it:∀y∈s.K,∃x,itS s.S y.id=some x∧x.pl≠0∧y.l=x.r.ro∧y.id=idn (ix y.id)
 oi:∀b∈s.op,∀k∈b,∃x,itS s.S k=some x∧x.pl≠0∧k=idn (ix k)
 ol:∀b∈s.op,b.length≤E.bat
 bl:s.L.length+800*(s.D.length+s.K.length)≤800000
 bg:s.gi.length+(s.D.length+s.K.length)≤9000
 bq:∀q∈s.la,q.length+(s.D.length+s.K.length)≤900
 bb:∀q∈s.la,sumB q+64*(s.D.length+s.K.length)≤90000
 bf:∀j,s.fl.getD j 0+(s.D.length+s.K.length)≤90000
 bs:s.sd.length+(s.D.length+s.K.length)≤9000
 si:∀k∈s.sd,∃x,itS s.S k=some x∧x.pl≠0∧k=idn (ix k)
theorem dI {S:List (Option It)} {i:Nat} {k:Wi} {v:Option It} (h:ix k≠i):itS (S.set i v) k=itS S k:=by
 unfold itS;rw[aZ0 (fun e=>h e.symm)]
theorem MX {S:List (Option It)} {k:Wi} {v:Option It} (h:ix k<S.length):itS (S.set (ix k) v) k=v:=by
 unfold itS;rw[List.getElem?_set_self h];rfl
theorem itS_get {S:List (Option It)} {k:Wi} {x:It} (h:itS S k=some x):S[ix k]? =some (some x):=by
 unfold itS at h;cases h2:S[ix k]? with
 |none=>rw[h2]at h;cases h
 |some o=>rw[h2]at h;exact congrArg some h
theorem mJ {S:List (Option It)} {i:Nat} {x:It} (hx:S[i]? =some (some x)) (hp:x.pl=0) (v:Option It) {k:Wi} (h:∃x,itS S k=some x∧x.pl≠0∧k=idn (ix k)):∃x,itS (S.set i v) k=some x∧x.pl≠0∧k=idn (ix k):=by
 obtain⟨z,h1,h2,h3⟩:=h;have aw:ix k≠i:=fun e=>by
  have:=itS_get h1;rw[e,hx]at this;cases this;exact h2 hp
 exact⟨z,by rw[dI aw];exact h1,h2,h3⟩
theorem eD.put {E:Ev} {s:Pa} (h:eD E s) {y:Nd} {D:List Nd} (hD:s.D=y::D) {i:Nat} {x:It} (hy:y=⟨x.rk,idn i⟩) (hi:ix y.id=i) (hx:s.S[i]? =some (some x)) (hp:x.pl=0):eD E {s with S:=s.S.set i (some {x with pl:=1}),K:=s.K++[⟨y.id,eF s.K y.id x.r.ro,x.r.ro⟩],q:=s.q+1,D:=D}:=by
 have hl:s.D.length=D.length+1:=by rw[hD];rfl
 have jx:=(aZa.1 hx).1;have Gf:(s.K++[(⟨y.id,eF s.K y.id x.r.ro,x.r.ro⟩:Rn)]).length=s.K.length+1:=aZg;have e0:D.length+(s.K++[(⟨y.id,eF s.K y.id x.r.ro,x.r.ro⟩:Rn)]).length=s.D.length+s.K.length:=by omega
 refine⟨h.fi.put hD hy hx hp _,?_,h.b1,h.b2,h.n2,h.lo,h.ll,h.hi,fun u hu=> ?_,fun b hb k hk=>mJ hx hp _ (h.oi b hb k hk),h.ol,?_,?_,?_,?_,?_,?_,fun k hk=>mJ hx hp _ (h.si k hk)⟩
 ·show((s.K++[_]).map Rn.id).Nodup;rw[List.map_append,aZ7];refine⟨h.kn,by simp,fun a ha b hb=> ?_⟩;obtain⟨u,hu,rfl⟩:=aZj.1 ha;obtain rfl:=aZm.1 hb;exact h.fi.kd u hu y (by rw[hD];exact List.mem_cons_self)
 ·rcases aZh.1 hu with hu|hu
  ·obtain⟨z,h1,h2,h3,h4⟩:=h.it u hu;obtain⟨z2,k1,k2,k3⟩:=mJ hx hp (some {x with pl:=1}) ⟨z,h1,h2,h4⟩;have aw:ix u.id≠i:=fun e=>by
    have:=itS_get h1;rw[e,hx]at this;cases this;exact h2 hp
   rw[dI aw,h1]at k1;cases k1;exact⟨z,by show itS (s.S.set i _) u.id=_;rw[dI aw];exact h1,h2,h3,h4⟩
  ·obtain rfl:=aZm.1 hu;refine⟨{x with pl:=1},?_,by simp,rfl,?_⟩
   ·show itS (s.S.set i _) y.id=_;rw[←hi,MX (by rw[hi];exact jx)]
   ·show y.id=idn (ix y.id);rw[hi,hy]
 ·show s.L.length+800*(D.length+_)≤_;rw[e0];exact h.bl
 ·show s.gi.length+(D.length+_)≤_;rw[e0];exact h.bg
 ·intro q hq;show _+(D.length+_)≤_;rw[e0];exact h.bq q hq
 ·intro q hq;show _+64*(D.length+_)≤_;rw[e0];exact h.bb q hq
 ·intro j;show _+(D.length+_)≤_;rw[e0];exact h.bf j
 ·show _+(D.length+_)≤_;rw[e0];exact h.bs
theorem eD.drop {E:Ev} {s:Pa} (h:eD E s) {y:Nd} {D:List Nd} (hD:s.D=y::D) {i:Nat} {x:It} (hy:y=⟨x.rk,idn i⟩) (hx:s.S[i]? =some (some x)) (hp:x.pl=0) (f:Wj×Nat):eD E {s with S:=s.S.set i none,dr:=s.dr++[f],D:=D}:=by
 have hl:s.D.length=D.length+1:=by rw[hD];rfl
 refine⟨h.fi.drop hD hy hx hp f,h.kn,h.b1,h.b2,h.n2,h.lo,h.ll,h.hi,fun u hu=> ?_,fun b hb k hk=>mJ hx hp _ (h.oi b hb k hk),h.ol,?_,?_,?_,?_,?_,?_,fun k hk=>mJ hx hp _ (h.si k hk)⟩
 ·obtain⟨z,h1,h2,h3,h4⟩:=h.it u hu;have aw:ix u.id≠i:=fun e=>by
   have:=itS_get h1;rw[e,hx]at this;cases this;exact h2 hp
  exact⟨z,by show itS (s.S.set i _) u.id=_;rw[dI aw];exact h1,h2,h3,h4⟩
 ·have:=h.bl;show s.L.length+800*(D.length+s.K.length)≤_;omega
 ·have:=h.bg;show s.gi.length+(D.length+s.K.length)≤_;omega
 ·intro q hq;have:=h.bq q hq;show _+(D.length+s.K.length)≤_;omega
 ·intro q hq;have:=h.bb q hq;show _+64*(D.length+s.K.length)≤_;omega
 ·intro j;have:=h.bf j;show s.fl.getD j 0+(D.length+s.K.length)≤_;omega
 ·have:=h.bs;show s.sd.length+(D.length+s.K.length)≤_;omega
theorem nP {E:Ev} {I:Pa→Prop} (hf:∀s,I s→jO s)
  (pi:∀(s:Pa) (y:Nd) (D:List Nd) (i:Nat) (x:It),I s→s.D=y::D→y=⟨x.rk,idn i⟩→ix y.id=i→s.S[i]? =some (some x)→x.pl=0→s.K.length<E.win→bP E.H E.N x.r=0→I {s with S:=s.S.set i (some {x with pl:=1}),K:=s.K++[⟨y.id,eF s.K y.id x.r.ro,x.r.ro⟩],q:=s.q+1,D:=D})
  (hdrop:∀(s:Pa) (y:Nd) (D:List Nd) (i:Nat) (x:It),I s→s.D=y::D→y=⟨x.rk,idn i⟩→ix y.id=i→s.S[i]? =some (some x)→x.pl=0→bP E.H E.N x.r≠0→I {s with S:=s.S.set i none,dr:=s.dr++[(x.n,bP E.H E.N x.r)],D:=D}):
  ∀(n:Nat) (s:Pa),s.D.length=n→I s→I (fillP E s.D s)∧((fillP E s.D s).D=[]∨E.win≤(fillP E s.D s).K.length)∧(fillP E s.D s).D.length+(fillP E s.D s).K.length≤s.D.length+s.K.length:=by
 intro n
 induction n with
 |zero=>
  intro s hn hI;have hD:=aYn hn;rw[nQ hD];exact⟨hI,.inl hD,aZq _⟩
 |succ n ih=>
  intro s hn hI;by_cases hl:s.K.length<E.win
  ·cases hD:s.D with
   |nil=>rw[hD]at hn;cases hn
   |cons y D=>
    have dy:D.length=n:=by rw[hD]at hn;exact Nat.succ.inj hn
    obtain⟨i,x,hy,hx,hp,hi,dm,_⟩:=(hf s hI).head hD;rw[←hD];by_cases h0:bP E.H E.N x.r=0
    ·rw[sX hD hl hi dm h0];obtain⟨h1,h2,h3⟩:=ih _ dy (pi s y D i x hI hD hy hi hx hp hl h0);refine⟨h1,h2,aYb h3 ?_⟩;show D.length+(s.K++[_]).length≤_;rw[aZg,aZx,hD,aZu];omega
    ·rw[qN hD hl hi dm h0];obtain⟨h1,h2,h3⟩:=ih _ dy (hdrop s y D i x hI hD hy hi hx hp h0);refine⟨h1,h2,aYb h3 ?_⟩;show D.length+s.K.length≤_;rw[hD,aZu];omega
  ·rw[qO hl];exact⟨hI,.inr (by omega),aZq _⟩
theorem eD.fill {E:Ev} {s:Pa} (h:eD E s):eD E (fillP E s.D s):=
 (nP (I:=eD E) (fun s h=>h.fi) (fun s y D i x h h1 h2 h3 h4 h5 _ _=>h.put h1 h2 h3 h4 h5) (fun s y D i x h h1 h2 h3 h4 h5 _=>h.drop h1 h2 h4 h5 _) _ s rfl h).1
theorem JL {l:Wd} {P:Nat→Prop}:∀ {xs:Wd} {s:Option Nat} {k:Nat},(∀k,s=some k→P k)→(∀j∈xs,P j)→xs.foldl (pkS l) s=some k→P k
 |[],s,k,hs,_,h=>hs k h
 |x::xs,s,k,hs,hx,h=>JL (xs:=xs) (s:=pkS l s x) (fun j hj=>by
   unfold pkS at hj;split at hj
   ·split at hj
    ·cases hj;exact hx x List.mem_cons_self
    ·rename_i k2;split at hj
     ·cases hj;exact hx x List.mem_cons_self
     ·cases hj;exact hs _ rfl
   ·exact hs j hj) (fun j hj=>hx j (aZp _ hj)) h
theorem CD {m:Nat} {l:Wd} {k:Nat} (h:pkR m l=some k):m.testBit k=true:=
 JL (P:=fun k=>m.testBit k=true) (fun k hk=>by cases hk) (fun j hj=>(List.mem_filter.1 hj).2) h
theorem OA {E:Ev} {s:Pa} {ro:List aT} {ch:Wi} {j:Nat} (h:wkP E s ro ch=some j):l8 s.al ro=false∧(mkP E s ro E.n).testBit j=true:=by
 unfold wkP at h;split at h
 ·cases h
 ·rename_i hc;refine⟨by simpa using hc,?_⟩;split at h
  ·split at h
   ·rename_i hb;cases h;exact hb
   ·exact CD h
  ·exact CD h
theorem rS {E:Ev} {s:Pa} {ro:List aT} {ch:Wi} {j:Nat} (h:wkP E s ro ch=some j):l8 s.al ro=false∧j<E.n∧iF s.L ro j=true∧s.fl.getD j 0<E.fli:=by
 obtain⟨h1,h2⟩:=OA h;unfold mkP at h2;rw[maskOf_testBit,aZy,aZy,aY4]at h2;obtain⟨h3,h4,h5⟩:=h2;have h3:=of_decide_eq_true h3;refine⟨h1,h3,h4,?_⟩;rcases h5 with h5|h5
 ·exact absurd (of_decide_eq_true h5) (by omega)
 ·exact of_decide_eq_true h5
theorem lH (E:Ev) (j:Nat) (i:Wi) (ro:List aT) (c:Wj) (s:Pa):(giveP E j i ro c s).S=s.S∧(giveP E j i ro c s).D=s.D∧(giveP E j i ro c s).K=s.K∧(giveP E j i ro c s).q=s.q∧(giveP E j i ro c s).al=s.al∧(giveP E j i ro c s).hi=s.hi∧(giveP E j i ro c s).dr=s.dr∧(giveP E j i ro c s).sd=s.sd∧(giveP E j i ro c s).L=addL s.L ro (wf j)∧(giveP E j i ro c s).fl=s.fl.set j (s.fl.getD j 0+1)∧(giveP E j i ro c s).co=s.co.set j (sat (s.co.getD j 0) c):=by
 unfold giveP jZ;split
 ·obtain⟨h1,h2,h3,h4,h5,h6,h7,h8,h9,h10,Yp⟩:=rI j (takeP j ro c s);exact⟨h1,h2,h3,h4,h6,h7,h8,h9,h5,h10,Yp⟩
 ·exact⟨rfl,rfl,rfl,rfl,rfl,rfl,rfl,rfl,rfl,rfl,rfl⟩
theorem giveP_cases (E:Ev) (j:Nat) (i:Wi) (ro:List aT) (c:Wj) (s:Pa) (h1:1≤E.bat) (hj:j<s.op.length):
  ((s.op.getD j []).length<E.bat∧(s.op.getD j []).any (fun k=>dQ (roS s.S k) ro)=false∧(giveP E j i ro c s).op=s.op.set j (s.op.getD j []++[i])∧(giveP E j i ro c s).la=s.la∧(giveP E j i ro c s).gi=s.gi)∨
  (s.op.getD j []≠[]∧(giveP E j i ro c s).op=s.op.set j [i]∧(giveP E j i ro c s).la=s.la.set j (s.la.getD j []++[s.op.getD j []])∧(giveP E j i ro c s).gi=s.gi++[(j,s.op.getD j [])]):=by
 by_cases h:E.bat≤(s.op.getD j []).length∨(s.op.getD j []).any (fun k=>dQ (roS s.S k) ro)=true
 ·right;have aw:s.op.getD j []≠[]:=fun e=>by
   rw[e]at h;rcases h with h|h
   ·simp at h;omega
   ·cases h
  have hg:giveP E j i ro c s=jZ j i (pushP j (takeP j ro c s)):=by unfold giveP;rw[if_pos h]
  have hp:pushP j (takeP j ro c s)= {takeP j ro c s with la:=s.la.set j (s.la.getD j []++[s.op.getD j []]),gi:=s.gi++[(j,s.op.getD j [])],op:=s.op.set j []}:=by
   unfold pushP;rw[if_neg (by exact aw)];rfl
  rw[hg,hp];refine⟨aw,?_,rfl,rfl⟩;unfold jZ;dsimp only;rw[fH,if_pos ⟨rfl,hj⟩,List.set_set];rfl
 ·left;have hg:giveP E j i ro c s=jZ j i (takeP j ro c s):=by unfold giveP;rw[if_neg h]
  rw[hg];exact⟨by omega,by simpa using fun e=>h (.inr e),rfl,rfl,rfl⟩
theorem oJ (q:List (Wc)) (b:Wc):sumB (q++[b])=sumB q+b.length:=by
 unfold sumB;rw[List.map_append,List.sum_append];simp
theorem jE {E:Ev} {s:Pa} {i:Wi} {x:It} (hx:itS s.S i=some x):(stepP E s i).S=s.S∧(stepP E s i).D=s.D∧(stepP E s i).K=popK s.K i∧(stepP E s i).q=s.q∧(stepP E s i).dr=s.dr:=by
 unfold stepP;rw[hx];dsimp only;cases wkP E s x.r.ro (chK s.K i)with
 |none=>exact⟨rfl,rfl,rfl,rfl,rfl⟩
 |some w=>
  dsimp only;obtain⟨h1,h2,h3,h4,h5,h6,h7,h8,_⟩:=lH E w i x.r.ro x.r.cost {s with K:=popK s.K i,hi:=put (chK s.K i) w s.hi};exact⟨h1,h2,h3,h4,h7⟩
theorem jO.popped {s s':Pa} (h:jO s) {i:Wi} (h1:s'.S=s.S) (h2:s'.D=s.D) (h3:s'.K=popK s.K i) (h4:s'.q=s.q) (h5:s'.dr=s.dr):jO s' where
 pm:=by rw[h1,h2];exact h.pm
 sr:=by rw[h2];exact h.sr
 qb:=by rw[h2,h4];exact h.qb
 kd:=by rw[h2,h3];exact fun x hx=>h.kd x (List.mem_filter.1 hx).1
 db:=by rw[h2,h5];exact h.db
 ro:=by rw[h1];exact h.ro
 sl:=by rw[h1];exact h.sl
theorem NM {M:List (Wi×Nat)} {c:Wi} {w:Nat} {P:Nat→Prop} (h:∀x∈M,P x.2) (hw:P w):∀x∈put c w M,P x.2:=by
 intro x hx;rcases mem_put hx with rfl|hx
 ·exact hw
 ·exact h x hx
theorem eD.step {E:Ev} {s:Pa} (h:eD E s) {i:Wi} (hr:∃y∈s.K,y.id=i):eD E (stepP E s i):=by
 obtain⟨y,hy,rfl⟩:=hr;obtain⟨x,hx,iz,xa,dx⟩:=h.it y hy;obtain⟨e1,e2,e3,e4,e5⟩:=jE (E:=E) hx;have ag:=xT hy;have jw:=h.bl;have Om:=h.bg;have ep:=h.bs;have dm:∀z∈popK s.K y.id,∃x,itS s.S z.id=some x∧x.pl≠0∧z.l=x.r.ro∧z.id=idn (ix z.id):=fun z hz=>h.it z (List.mem_filter.1 hz).1;have hkn:((popK s.K y.id).map Rn.id).Nodup:=h.kn.sublist (List.filter_sublist.map _);have hfi:=h.fi.popped e1 e2 e3 e4 e5;have lq:x.r.ro.length≤800:=h.fi.ro (ix y.id) x (itS_get hx);obtain⟨s',fd⟩:∃s',stepP E s y.id=s':=⟨_,rfl⟩;rw[fd]at hfi⊢;clear e1 e2 e3 e4 e5;unfold stepP at fd;rw[hx]at fd;dsimp only at fd;cases hw:wkP E s x.r.ro (chK s.K y.id)with
 |none=>
  rw[hw]at fd;dsimp only at fd;subst fd;refine⟨hfi,hkn,h.b1,h.b2,h.n2,h.lo,h.ll,h.hi,dm,h.oi,h.ol,?_,?_,?_,?_,?_,?_,?_⟩
  ·show s.L.length+800*(s.D.length+(popK s.K y.id).length)≤_;omega
  ·show s.gi.length+(s.D.length+(popK s.K y.id).length)≤_;omega
  ·intro q hq;have:=h.bq q hq;show q.length+(s.D.length+(popK s.K y.id).length)≤_;omega
  ·intro q hq;have:=h.bb q hq;show sumB q+64*(s.D.length+(popK s.K y.id).length)≤_;omega
  ·intro j;have:=h.bf j;show s.fl.getD j 0+(s.D.length+(popK s.K y.id).length)≤_;omega
  ·show(s.sd++[y.id]).length+(s.D.length+(popK s.K y.id).length)≤_;rw[aZg,aZx];omega
  ·intro k hk;rcases aZh.1 hk with hk|hk
   ·exact h.si k hk
   ·obtain rfl:=aZm.1 hk;exact⟨x,hx,iz,dx⟩
 |some j=>
  rw[hw]at fd;dsimp only at fd;obtain⟨_,hj,xm,jo⟩:=rS hw;obtain⟨g1,g2,g3,g4,g5,g6,g7,g8,g9,g10,g11⟩:=lH E j y.id x.r.ro x.r.cost {s with K:=popK s.K y.id,hi:=Go.Proofs.YtblbegbjlaokjaaGreatDoor.put (chK s.K y.id) j s.hi};have ou:=giveP_cases E j y.id x.r.ro x.r.cost {s with K:=popK s.K y.id,hi:=Go.Proofs.YtblbegbjlaokjaaGreatDoor.put (chK s.K y.id) j s.hi} h.b1 (by rw[show({s with K:=popK s.K y.id,hi:=Go.Proofs.YtblbegbjlaokjaaGreatDoor.put (chK s.K y.id) j s.hi}:Pa).op=s.op from rfl,h.lo];exact hj);rw[fd]at g1 g2 g3 g4 g5 g6 g7 g8 g9 g10 g11 ou;dsimp only at g1 g2 g3 g4 g5 g6 g7 g8 g9 g10 g11 ou;have nz:s'.op.length=E.n:=by
   rcases ou with⟨_,_,k3,_,_⟩|⟨_,k3,_,_⟩<;>rw[k3,aZn]<;>exact h.lo
  have bw:s'.la.length=E.n:=by
   rcases ou with⟨_,_,_,k3,_⟩|⟨_,_,k3,_⟩<;>rw[k3]
   ·exact h.ll
   ·rw[aZn];exact h.ll
  have dl:∀b∈s'.op,b∈s.op∨(∃c,(c∈s.op∨c=[])∧b=c++[y.id]∧c.length<E.bat):=fun b hb=>by
   rcases ou with⟨k1,_,k3,_,_⟩|⟨_,k3,_,_⟩
   ·rw[k3]at hb;rcases aXi hb with hb|rfl
    ·exact .inl hb
    ·exact .inr ⟨_,(getD_mem s.op j).symm,rfl,k1⟩
   ·rw[k3]at hb;rcases aXi hb with hb|rfl
    ·exact .inl hb
    ·exact .inr ⟨[],.inr rfl,rfl,h.b1⟩
  have vy:s'.gi.length≤s.gi.length+1:=by
   rcases ou with⟨_,_,_,_,k⟩|⟨_,_,_,k⟩<;>rw[k]
   ·omega
   ·rw[aZg];simp
  have Cl:∀q∈s'.la,q∈s.la∨∃c∈s.la,∃b,q=c++[b]∧b.length≤64:=fun q hq=>by
   rcases ou with⟨_,_,_,k,_⟩|⟨_,_,k,_⟩
   ·rw[k]at hq;exact .inl hq
   ·rw[k]at hq;rcases aXi hq with hq|rfl
    ·exact .inl hq
    ·right;have tx:j<s.la.length:=by rw[h.ll];exact hj
     refine⟨_,(by rw[aZk,aZb tx];exact aXt tx),_,rfl,?_⟩;have cq:=h.b2;rcases getD_mem s.op j with e|e
     ·rw[e];simp
     ·exact aYb (h.ol _ e) cq
  refine⟨hfi,by rw[g3];exact hkn,h.b1,h.b2,h.n2,nz,bw,by rw[g6];exact NM (P:=fun x=>x<64) h.hi (aZd hj h.n2),by rw[g3,g1];exact dm,?_,?_,?_,?_,?_,?_,?_,?_,by rw[g8,g1];exact h.si⟩
  ·intro b hb k hk;rw[g1];rcases dl b hb with hb|⟨c,hc,rfl,_⟩
   ·exact h.oi b hb k hk
   ·rcases aZh.1 hk with hk|hk
    ·rcases hc with hc|rfl
     ·exact h.oi c hc k hk
     ·cases hk
    ·obtain rfl:=aZm.1 hk;exact⟨x,hx,iz,dx⟩
  ·intro b hb;rcases dl b hb with hb|⟨c,hc,rfl,hlt⟩
   ·exact h.ol b hb
   ·rw[aZg,aZx];omega
  ·rw[g9,pY,g2,g3];omega
  ·rw[g2,g3];omega
  ·intro q hq;rw[g2,g3];rcases Cl q hq with hq|⟨c,hc,b,rfl,_⟩
   ·have:=h.bq q hq;omega
   ·have:=h.bq c hc;rw[aZg,aZx];omega
  ·intro q hq;rw[g2,g3];rcases Cl q hq with hq|⟨c,hc,b,rfl,hb⟩
   ·have:=h.bb q hq;omega
   ·have:=h.bb c hc;rw[oJ];omega
  ·intro k;rw[g10,g2,g3,fH];have:=h.bf k;split
   ·rename_i e;rw[e.1];omega
   ·omega
  ·rw[g8,g2,g3];omega
def hZ (E:Ev) (s:Pa):Pa:=(readyR (fillP E s.D s).K).foldl (stepP E) (fillP E s.D s)
inductive cX (E:Ev):Pa→Pa→Prop
 |done (s:Pa):readyR (fillP E s.D s).K=[]→cX E s (fillP E s.D s)
 |go (s t:Pa):readyR (fillP E s.D s).K≠[]→cX E (hZ E s) t→cX E s t
theorem qR {E:Ev} {I:Pa→Prop} (lq:∀s,I s→eD E s) (ef:∀s i,I s→yL s.K i→I (stepP E s i)):
  ∀(l:Wc) (s:Pa),l.Nodup→(∀i∈l,yL s.K i)→I s→I (l.foldl (stepP E) s)∧(l.foldl (stepP E) s).K.length+l.length≤s.K.length∧(l.foldl (stepP E) s).D=s.D
 |[],s,_,_,hI=>⟨hI,aZq _,rfl⟩
 |i::l,s,hn,hr,hI=>by
  rw[aYc]at hn;have hri:=hr i List.mem_cons_self;obtain⟨y,hy,Xc⟩:=hri.mem;obtain⟨x,hx,_⟩:=(lq s hI).it y hy;rw[Xc]at hx;obtain⟨_,e2,e3,_⟩:=jE (E:=E) hx;have ag:=xT hy;rw[Xc]at ag;obtain⟨h1,h2,h3⟩:=qR lq ef l (stepP E s i) hn.2 (fun k hk=>by rw[e3];exact(hr k (aZp _ hk)).pop (fun e=>hn.1 (e▸hk))) (ef s i hI hri);refine⟨h1,?_,h3.trans e2⟩;rw[e3]at h2;rw[aWv,aZu];omega
theorem cX.ind {E:Ev} {I:Pa→Prop} (hw:1≤E.win) (lq:∀s,I s→eD E s)
  (pi:∀(s:Pa) (y:Nd) (D:List Nd) (i:Nat) (x:It),I s→s.D=y::D→y=⟨x.rk,idn i⟩→ix y.id=i→s.S[i]? =some (some x)→x.pl=0→s.K.length<E.win→bP E.H E.N x.r=0→I {s with S:=s.S.set i (some {x with pl:=1}),K:=s.K++[⟨y.id,eF s.K y.id x.r.ro,x.r.ro⟩],q:=s.q+1,D:=D})
  (hdrop:∀(s:Pa) (y:Nd) (D:List Nd) (i:Nat) (x:It),I s→s.D=y::D→y=⟨x.rk,idn i⟩→ix y.id=i→s.S[i]? =some (some x)→x.pl=0→bP E.H E.N x.r≠0→I {s with S:=s.S.set i none,dr:=s.dr++[(x.n,bP E.H E.N x.r)],D:=D})
  (ef:∀s i,I s→yL s.K i→I (stepP E s i)) {s t:Pa} (h:cX E s t):I s→I t∧t.K=[]∧t.D=[]:=by
 have rx:∀s,I s→I (fillP E s.D s)∧((fillP E s.D s).D=[]∨E.win≤(fillP E s.D s).K.length):=fun s hI=>by
  obtain⟨h1,h2,_⟩:=nP (I:=I) (fun s h=>(lq s h).fi) pi hdrop _ s rfl hI;exact⟨h1,h2⟩
 induction h with
 |done s hr=>
  intro hI;obtain⟨h1,h2⟩:=rx s hI;have hK:=ES hr;refine⟨h1,hK,?_⟩;rcases h2 with h2|h2
  ·exact h2
  ·rw[hK]at h2;simp at h2;omega
 |go s t _ _ ih=>
  intro hI;have h1:=(rx s hI).1;exact ih (qR lq ef _ _ (j8 (lq _ h1).kn) (fun i hi=>pL hi) h1).1
def allG (s:Pa):Wc:=(s.gi.map Prod.snd).flatten++s.op.flatten
def W6 (D:List Nd) (a b:Wi):Prop:=[a,b].Sublist (D.map Nd.id)
def PC (s:Pa) (w:Nat) (b:Wc):Prop:=(w,b)∈s.gi∨s.op[w]? =some b
def PB (s:Pa) (a b:Wi):Prop:=∃(p w:Nat) (ba:Wc),s.gi[p]? =some (w,ba)∧a∈ba∧((∃(q:Nat) (bb:Wc),p<q∧s.gi[q]? =some (w,bb)∧b∈bb)∨∃bb,s.op[w]? =some bb∧b∈bb)
def cM (E:Ev) (S:List (Option It)) (y:Nd):Option (Wj×Nat):=(itS S y.id).bind fun x=>if bP E.H E.N x.r=0 then none else some (x.n,bP E.H E.N x.r)
theorem WB {l:Wc} (hn:l.Nodup) {a b:Wi} (h1:[a,b].Sublist l) (h2:[b,a].Sublist l):False:=by
 induction l with
 |nil=>cases h1
 |cons x l ih=>
  rw[aYc]at hn;cases h1 with
  |cons _ h1=>
   cases h2 with
   |cons _ h2=>exact ih hn.2 h1 h2
   |cons_cons _ h2=>exact hn.1 (h1.subset (by simp))
  |cons_cons _ h1=>
   cases h2 with
   |cons _ h2=>exact hn.1 (h2.subset (by simp))
   |cons_cons _ h2=>exact hn.1 (by have:=h2.subset (aZm.2 rfl);exact this)
structure nF (E:Ev) (s0 s:Pa):Prop where
 nd:(s0.D.map Nd.id).Nodup
 si:∀(k:Wi) (x:It),itS s.S k=some x→∃x0,itS s0.S k=some x0∧x.r=x0.r∧x.n=x0.n
 un:∀y∈s.D,itS s.S y.id=itS s0.S y.id
 pre:∃P,s0.D=P++s.D∧s.dr=P.filterMap (cM E s0.S)∧(s.K.map Rn.id).Sublist (P.map Nd.id)∧(∀k∈allG s++s.sd,k∈P.map Nd.id)∧P.length=s.dr.length+s.K.length+(allG s).length+s.sd.length
 dj:(s.K.map Rn.id++(allG s++s.sd)).Nodup
 lk:∀(w:Nat) (b:Wc),PC s w b→∀k∈b,∀r∈roS s0.S k,(r.k,r.w,wf w)∈s.L
 al:∀k∈s.sd,∀r∈roS s0.S k,r∈s.al
 pr:∀a b,W6 s0.D a b→dQ (roS s0.S a) (roS s0.S b)=true→b∈allG s→a∉s.K.map Rn.id∧a∉s.D.map Nd.id∧a∉s.sd∧(a∈allG s→PB s a b)
 lo:s.op.length=E.n
 ll:s.la.length=E.n
 lf:s.fl.length=E.n
 ln:E.n≤64
 lg:∀w,w<E.n→s.la[w]? =some ((s.gi.filter fun x=>x.1==w).map Prod.snd)
 fl:∀w,s.fl.getD w 0=sumB (s.la.getD w [])+(s.op.getD w []).length∧s.fl.getD w 0≤E.fli
 gb:∀x∈s.gi,x.2≠[]∧x.2.length≤E.bat∧x.1<E.n
 ob:∀b∈s.op,b.length≤E.bat
 cn:(s.S.filter Option.isSome).length+s.dr.length=(s0.S.filter Option.isSome).length
theorem qQ {L:List (Wc)} {j:Nat} (hj:j<L.length) (v:Wc):(L.set j v).flatten.Perm (v++(L.set j []).flatten):=by
 induction L generalizing j with
 |nil=>simp at hj
 |cons b L ih=>
  cases j with
  |zero=>simp
  |succ j=>
   simp only[zH,List.flatten_cons];have h:=ih (j:=j) (by simpa using hj);refine(h.append_left b).trans ?_;rw[←aZw,←aZw];exact List.Perm.append_right _ List.perm_append_comm
theorem xD {L:List (Wc)} {j:Nat} (hj:j<L.length):L.flatten.Perm (L.getD j []++(L.set j []).flatten):=by
 have h:=qQ hj (L.getD j []);rw[show L.set j (L.getD j [])=L by rw[aZk,aZb hj,zE,List.set_getElem_self]]at h;exact h
theorem DI (E:Ev) (j:Nat) (i:Wi) (ro:List aT) (c:Wj) (s:Pa) (h1:1≤E.bat) (hj:j<s.op.length):(allG (giveP E j i ro c s)).Perm (i::allG s):=by
 have hg:=xD hj;have key:∀X:Wc,(X++(s.op.getD j []++([i]++(s.op.set j []).flatten))).Perm (i::(X++s.op.flatten)):=fun X=>by
  have e:(s.op.getD j []++([i]++(s.op.set j []).flatten)).Perm (i::s.op.flatten):=by
   rw[←aZw];refine(List.Perm.append_right _ List.perm_append_comm).trans ?_;rw[aZw];exact List.Perm.cons i hg.symm
  exact(e.append_left X).trans List.perm_middle
 unfold allG;rcases giveP_cases E j i ro c s h1 hj with⟨_,_,k1,_,k2⟩|⟨_,k1,_,k2⟩
 ·rw[k1,k2];refine((qQ hj _).append_left _).trans ?_;rw[aZw];exact key _
 ·rw[k1,k2,List.map_append,List.flatten_append,aZw];refine(((qQ hj [i]).append_left _).append_left _).trans ?_;have e:[(j,s.op.getD j [])].map Prod.snd=[s.op.getD j []]:=rfl;rw[e,List.flatten_cons,List.flatten_nil,aYx];exact key _
theorem I7 {s:Pa} {k:Wi} (h:k∈allG s):∃w b,PC s w b∧k∈b:=by
 rcases aZh.1 h with h|h
 ·obtain⟨b,hb,hk⟩:=List.mem_flatten.1 h;obtain⟨x,hx,rfl⟩:=aZj.1 hb;exact⟨x.1,x.2,.inl hx,hk⟩
 ·obtain⟨b,hb,hk⟩:=List.mem_flatten.1 h;obtain⟨w,hw,rfl⟩:=List.getElem_of_mem hb;exact⟨w,_,.inr (aZb hw),hk⟩
theorem nF.ro {E:Ev} {s0 s:Pa} (h:nF E s0 s) {k:Wi} {x:It} (hx:itS s.S k=some x):roS s.S k=x.r.ro∧roS s0.S k=x.r.ro:=by
 obtain⟨x0,h0,h1,_⟩:=h.si k x hx;unfold roS;rw[hx,h0];exact⟨rfl,by rw[h1];rfl⟩
theorem nF.start {E:Ev} {s:Pa} (ak:eD E s) (hK:s.K=[]) (hL:s.L=[]) (vy:s.gi=[]) (aj:s.op=List.replicate E.n []) (Cl:s.la=List.replicate E.n []) (jo:s.fl=List.replicate E.n 0) (uu:s.dr=[]) (wl:s.sd=[]):nF E s s:=by
 have df:∀b∈s.op,b=[]:=fun b hb=>by
  rw[aj]at hb;exact(List.mem_replicate.1 hb).2
 have hG:allG s=[]:=by
  unfold allG;rw[vy,aj];simp
 refine⟨?_,fun k x hx=>⟨x,hx,rfl,rfl⟩,fun _ _=>rfl,⟨[],rfl,uu,by rw[hK];exact List.Sublist.slnil,by rw[hG,wl];simp,by rw[hG,uu,hK,wl];rfl⟩,by rw[hK,hG,wl];simp,?_,by rw[wl];simp,by rw[hG];simp,by rw[aj];simp,by rw[Cl];simp,by rw[jo];simp,ak.n2,?_,?_,by rw[vy];simp,fun b hb=>by rw[df b hb];simp,by rw[uu];rfl⟩
 ·have:=ak.fi.sl;exact(ak.fi.pm.map Nd.id).nodup_iff.2 (pO (by omega))
 ·rintro w b (h|h) k hk
  ·rw[vy]at h;cases h
  ·rw[df b (aZi h)]at hk;cases hk
 ·intro w hw;rw[vy,Cl,aY3,if_pos hw];rfl
 ·intro w;have e1:s.fl.getD w 0=0:=by
   rw[jo,aZk,aY3];split<;>rfl
  have e2:s.la.getD w []=[]:=by
   rw[Cl,aZk,aY3];split<;>rfl
  have e3:s.op.getD w []=[]:=by
   rw[aj,aZk,aY3];split<;>rfl
  rw[e1,e2,e3];exact⟨rfl,aYf _⟩
theorem uG {S:List (Option It)} {i:Nat} {x:It} (h:S[i]? =some (some x)) (v:Option It):((S.set i v).filter Option.isSome).length+1=(S.filter Option.isSome).length+(if v.isSome then 1 else 0):=by
 obtain⟨A,B,rfl,rfl⟩:=F3 h;rw[ET,aZ6,aZ6,aZg,aZg];have h1:(List.filter Option.isSome (some x::B)).length=(List.filter Option.isSome B).length+1:=by rw[List.filter_cons_of_pos rfl];rfl
 rw[h1];cases v with
 |none=>
  rw[List.filter_cons_of_neg (by simp)];simp only[aW0,aZr,if_false];omega
 |some y=>
  rw[List.filter_cons_of_pos rfl];simp only[aWz,if_true,aZu]
theorem DJ {s s':Pa} (h1:s'.gi=s.gi) (h2:s'.op=s.op):allG s'=allG s:=by
 unfold allG;rw[h1,h2]
theorem PB.same {s s':Pa} {a b:Wi} (h:PB s a b) (h1:s'.gi=s.gi) (h2:s'.op=s.op):PB s' a b:=by
 unfold PB;rw[h1,h2];exact h
theorem nF.put {E:Ev} {s0 s:Pa} (h:nF E s0 s) (ak:eD E s) {y:Nd} {D:List Nd} (hD:s.D=y::D) {i:Nat} {x:It} (hy:y=⟨x.rk,idn i⟩) (hi:ix y.id=i) (hx:s.S[i]? =some (some x)) (hp:x.pl=0) (hf:bP E.H E.N x.r=0) (c:Wi):nF E s0 {s with S:=s.S.set i (some {x with pl:=1}),K:=s.K++[⟨y.id,c,x.r.ro⟩],q:=s.q+1,D:=D}:=by
 have jx:=(aZa.1 hx).1;have Am:itS s.S y.id=some x:=by unfold itS;rw[hi,hx];rfl
 obtain⟨P,p1,p2,p3,p4,p5⟩:=h.pre;have hyd:∀z∈D,z.id≠y.id:=fun z hz e=>by
  have hn:=h.nd;rw[p1,hD,List.map_append,aZ7]at hn;have:=hn.2.1;rw[aZo,aYc]at this;exact this.1 (by rw[←e];exact aZj.2 ⟨z,hz,rfl⟩)
 have hyP:y.id∉P.map Nd.id:=fun hm=>by
  have hn:=h.nd;rw[p1,hD,List.map_append,aZ7]at hn;exact hn.2.2 _ hm _ (aZj.2 ⟨y,List.mem_cons_self,rfl⟩) rfl
 have hxd:∀z∈D,ix z.id≠i:=fun z hz e=>by
  obtain⟨j,x2,e2,_,_,h4,_⟩:∃(j:Nat) (x2:It),z=⟨x2.rk,idn j⟩∧True∧True∧ix z.id=j∧True:=by
   obtain⟨j,x2,h1,h2,h3⟩:=fS (ak.fi.pm.mem_iff.1 (by rw[hD];exact aZp _ hz));rw[aXe]at h3;have:=(aZa.1 h1).1;have hs:=ak.fi.sl;exact⟨j,x2,h3,trivial,trivial,by rw[h3];exact uS (by omega),trivial⟩
  rw[h4]at e;exact hyd z hz (by rw[e2,hy,e])
 refine⟨h.nd,fun k z hz=> ?_,fun z hz=> ?_,⟨P++[y],by rw[p1,hD,aZw];rfl,?_,?_,fun k hk=> ?_,?_⟩,?_,h.lk,h.al,fun a b h1 h2 h3=> ?_,h.lo,h.ll,h.lf,h.ln,h.lg,h.fl,h.gb,h.ob,?_⟩
 ·dsimp only at hz;by_cases e:ix k=i
  ·have bp:some {x with pl:=1}=some z:=by
    rw[←hz];unfold itS;rw[e,List.getElem?_set_self jx];rfl
   cases bp;obtain⟨x0,h0,h1,h2⟩:=h.si k x (by unfold itS;rw[e,hx];rfl);exact⟨x0,h0,h1,h2⟩
  ·rw[dI e]at hz;exact h.si k z hz
 ·show itS (s.S.set i _) z.id=_;rw[dI (hxd z hz)];exact h.un z (by rw[hD];exact aZp _ hz)
 ·have hd:cM E s0.S y=none:=by
   unfold cM;rw[←h.un y (by rw[hD];exact List.mem_cons_self),Am];simp[hf]
  rw[List.filterMap_append,←p2,List.filterMap_cons,hd];simp
 ·show((s.K++[_]).map Rn.id).Sublist _;rw[List.map_append,List.map_append];exact p3.append (List.Sublist.refl _)
 ·rw[List.map_append];exact aZl _ (p4 k hk)
 ·show(P++[y]).length=s.dr.length+(s.K++[_]).length+(allG s).length+s.sd.length;rw[aZg,aZg,aZx,aZx];omega
 ·show((s.K++[_]).map Rn.id++(allG s++s.sd)).Nodup;rw[List.map_append,aZw,aZ7];have hd:=h.dj;rw[aZ7]at hd;refine⟨hd.1,?_,fun a ha b hb=> ?_⟩
  ·show(y.id::(allG s++s.sd)).Nodup;rw[aYc];exact⟨fun hm=>hyP (p4 _ hm),hd.2.1⟩
  ·rcases aZc.1 hb with hb|hb
   ·exact fun e=>hyP (by rw[show y.id=a from(e.trans hb).symm];exact p3.subset ha)
   ·exact hd.2.2 a ha b hb
 ·obtain⟨k1,k2,k3,k4⟩:=h.pr a b h1 h2 h3;refine⟨fun hm=> ?_,fun hm=>k2 (by rw[hD];exact aZp _ hm),k3,k4⟩;rw[List.map_append]at hm;rcases aZh.1 hm with hm|hm
  ·exact k1 hm
  ·rw[aZm.1 hm]at k2;exact k2 (by rw[hD];exact List.mem_cons_self)
 ·have:=uG hx (some {x with pl:=1});have hc:=h.cn;simp only[aWz,if_true]at this;show((s.S.set i _).filter Option.isSome).length+s.dr.length=_;omega
theorem nF.drop {E:Ev} {s0 s:Pa} (h:nF E s0 s) (ak:eD E s) {y:Nd} {D:List Nd} (hD:s.D=y::D) {i:Nat} {x:It} (hy:y=⟨x.rk,idn i⟩) (hi:ix y.id=i) (hx:s.S[i]? =some (some x)) (hp:x.pl=0) (hf:bP E.H E.N x.r≠0):nF E s0 {s with S:=s.S.set i none,dr:=s.dr++[(x.n,bP E.H E.N x.r)],D:=D}:=by
 have jx:=(aZa.1 hx).1;have Am:itS s.S y.id=some x:=by unfold itS;rw[hi,hx];rfl
 obtain⟨P,p1,p2,p3,p4,p5⟩:=h.pre;have hyd:∀z∈D,z.id≠y.id:=fun z hz e=>by
  have hn:=h.nd;rw[p1,hD,List.map_append,aZ7]at hn;have:=hn.2.1;rw[aZo,aYc]at this;exact this.1 (by rw[←e];exact aZj.2 ⟨z,hz,rfl⟩)
 have hxd:∀z∈D,ix z.id≠i:=fun z hz e=>by
  obtain⟨j,x2,e2,h4⟩:∃(j:Nat) (x2:It),z=⟨x2.rk,idn j⟩∧ix z.id=j:=by
   obtain⟨j,x2,h1,h2,h3⟩:=fS (ak.fi.pm.mem_iff.1 (by rw[hD];exact aZp _ hz));rw[aXe]at h3;have:=(aZa.1 h1).1;have hs:=ak.fi.sl;exact⟨j,x2,h3,by rw[h3];exact uS (by omega)⟩
  rw[h4]at e;exact hyd z hz (by rw[e2,hy,e])
 refine⟨h.nd,fun k z hz=> ?_,fun z hz=> ?_,⟨P++[y],by rw[p1,hD,aZw];rfl,?_,?_,fun k hk=> ?_,?_⟩,h.dj,h.lk,h.al,fun a b h1 h2 h3=> ?_,h.lo,h.ll,h.lf,h.ln,h.lg,h.fl,h.gb,h.ob,?_⟩
 ·dsimp only at hz;by_cases e:ix k=i
  ·have bp:none=some z:=by
    rw[←hz];unfold itS;rw[e,List.getElem?_set_self jx];rfl
   cases bp
  ·rw[dI e]at hz;exact h.si k z hz
 ·show itS (s.S.set i _) z.id=_;rw[dI (hxd z hz)];exact h.un z (by rw[hD];exact aZp _ hz)
 ·have hd:cM E s0.S y=some (x.n,bP E.H E.N x.r):=by
   unfold cM;rw[←h.un y (by rw[hD];exact List.mem_cons_self),Am];simp[hf]
  rw[List.filterMap_append,←p2,List.filterMap_cons,hd];simp
 ·rw[List.map_append];exact p3.trans (List.sublist_append_left _ _)
 ·rw[List.map_append];exact aZl _ (p4 k hk)
 ·show(P++[y]).length=(s.dr++[_]).length+s.K.length+(allG s).length+s.sd.length;rw[aZg,aZg,aZx,aZx];omega
 ·obtain⟨k1,k2,k3,k4⟩:=h.pr a b h1 h2 h3;exact⟨k1,fun hm=>k2 (by rw[hD];exact aZp _ hm),k3,k4⟩
 ·have:=uG hx none;have hc:=h.cn;simp only[aW0,aZr,if_false]at this;show((s.S.set i none).filter Option.isSome).length+(s.dr++[_]).length=_;rw[aZg,aZx];omega
theorem BG {a b:List aT}:dQ a b=true↔∃r∈a,∃t∈b,r.k=t.k∧(r.w||t.w)=true:=by
 unfold dQ;simp only[aYv,aZy,decide_eq_true_eq]
theorem GS {al l m:List aT} (h:dQ l m=true) (hs:∀r∈l,r∈al):l8 al m=true:=by
 obtain⟨r,hr,t,ht,h1,h2⟩:=BG.1 h;unfold l8 uH;exact aYv.2 ⟨r,hs r hr,aYv.2 ⟨t,ht,by rw[Dt h1,h2];rfl⟩⟩
theorem D4 {L:List Lk} {l m:List aT} {j w:Nat} (hj:j<64) (hw:w<64) (hf:iF L m j=true) (h:dQ l m=true) (hs:∀r∈l,(r.k,r.w,wf w)∈L):w=j:=by
 obtain⟨r,hr,t,ht,h1,h2⟩:=BG.1 h;unfold iF at hf;have h3:=aYh.1 (aYh.1 hf t ht) _ (hs r hr);unfold uD at h3;rw[Dt h1,h2,K3 hw]at h3;simpa using h3
theorem wL {l:List aT} {i:Fin 64}:∀ {L:List Lk} {x:Lk},x∈L→x∈addL L l i:=by
 induction l with
 |nil=>intro L x h;exact h
 |cons r l ih=>intro L x h;exact ih (L:=(r.k,r.w,i)::L) (aZp _ h)
theorem FU {l:List aT} {i:Fin 64}:∀ {L:List Lk} {r:aT},r∈l→(r.k,r.w,i)∈addL L l i:=by
 induction l with
 |nil=>intro L r h;cases h
 |cons t l ih=>
  intro L r h;rcases aZc.1 h with rfl|h
  ·exact wL (L:=(r.k,r.w,i)::L) List.mem_cons_self
  ·exact ih (L:=(t.k,t.w,i)::L) h
theorem nF.step {E:Ev} {s0 s:Pa} (h:nF E s0 s) (ak:eD E s) {i:Wi} (hr:yL s.K i):nF E s0 (stepP E s i):=by
 obtain⟨X,y,Y,hK,rfl,hf⟩:=hr;have hy:y∈s.K:=by rw[hK];simp
 obtain⟨x,hx,iz,xa,dx⟩:=ak.it y hy;obtain⟨e1,e2,e3,e4,e5⟩:=jE (E:=E) hx;obtain⟨hro1,Ju⟩:=h.ro hx;have hkn:=ak.kn;have nu:popK s.K y.id=X++Y:=by rw[hK]at hkn⊢;exact rH hkn
 obtain⟨P,p1,p2,p3,p4,p5⟩:=h.pre;have Vx:y.id∈s.K.map Rn.id:=aZj.2 ⟨y,hy,rfl⟩;have hiP:y.id∈P.map Nd.id:=p3.subset Vx;have Gc:=h.dj;rw[aZ7]at Gc;have hinot:∀k∈allG s++s.sd,k≠y.id:=fun k hk e=>Gc.2.2 _ Vx k hk e.symm;have Bt:((X++Y).map Rn.id).Sublist (s.K.map Rn.id):=by
  rw[hK];exact List.Sublist.map _ ((List.Sublist.refl X).append (aYk _ _))
 have hnK:∀a∈(X++Y).map Rn.id,a∈s.K.map Rn.id∧a≠y.id:=fun a ha=>⟨Bt.subset ha,fun e=>by
  rw[hK,List.map_append,aZo,aZ7,aYc]at hkn;rw[List.map_append]at ha;rcases aZh.1 ha with ha|ha
  ·exact hkn.2.2 a ha _ List.mem_cons_self e
  ·exact hkn.2.1.1 (e▸ha)⟩
 have hKlen:s.K.length=(X++Y).length+1:=by rw[hK];simp;omega
 have af:∀R:Wc,R.Perm (y.id::(allG s++s.sd))→((X++Y).map Rn.id++R).Nodup:=fun R hR=>by
  have h0:=h.dj;rw[hK,List.map_append,aZo]at h0;have hp:((X++Y).map Rn.id++R).Perm (X.map Rn.id++y.id::Y.map Rn.id++(allG s++s.sd)):=by
   rw[List.map_append];refine(hR.append_left _).trans ?_;refine List.perm_middle.trans ?_;have e:X.map Rn.id++y.id::Y.map Rn.id++(allG s++s.sd)=X.map Rn.id++y.id::(Y.map Rn.id++(allG s++s.sd)):=by simp
   rw[e,aZw];exact List.perm_middle.symm
  exact hp.nodup_iff.2 h0
 have hbef:∀a,W6 s0.D a y.id→a∉s.D.map Nd.id∧(a∈s.K.map Rn.id→a∈X.map Rn.id)∧a≠y.id:=fun a ha=>by
  refine⟨fun hm=> ?_,fun hm=> ?_,?_⟩
  ·have h2:[y.id,a].Sublist (s0.D.map Nd.id):=by
    rw[p1,List.map_append];exact(List.singleton_sublist.2 hiP).append (List.singleton_sublist.2 hm)
   exact WB h.nd ha h2
  ·rw[hK,List.map_append,aZo]at hm;rcases aZh.1 hm with hm|hm
   ·exact hm
   ·exfalso;rcases aZc.1 hm with rfl|hm
    ·have:=h.nd.sublist ha;simp at this
    ·have h2:[y.id,a].Sublist (s.K.map Rn.id):=by
      rw[hK,List.map_append,aZo];exact((List.singleton_sublist.2 hm).cons_cons y.id).trans (List.sublist_append_right _ _)
     refine WB h.nd ha (h2.trans (p3.trans ?_));rw[p1,List.map_append];exact List.sublist_append_left _ _
  ·rintro rfl;have:=h.nd.sublist ha;simp at this
 have hnX:∀a∈X.map Rn.id,dQ (roS s0.S a) x.r.ro=true→False:=fun a ha hc=>by
  obtain⟨z,hz,rfl⟩:=aZj.1 ha;obtain⟨xz,h1,_,h3,_⟩:=ak.it z (by rw[hK];exact aZl _ hz);rw[(h.ro h1).2,←h3,←xa]at hc;exact(aWl.1 hf z hz) hc
 have hs:∃s',stepP E s y.id=s':=⟨_,rfl⟩;obtain⟨s',fd⟩:=hs;rw[fd]at e1 e2 e3 e4 e5⊢;rw[nu]at e3;unfold stepP at fd;rw[hx]at fd;dsimp only at fd;have dt:(s'.S.filter Option.isSome).length+s'.dr.length=(s0.S.filter Option.isSome).length:=by rw[e1,e5];exact h.cn
 cases hw:wkP E s x.r.ro (chK s.K y.id)with
 |none=>
  rw[hw]at fd;dsimp only at fd;have c1:s'.gi=s.gi:=by rw[←fd]
  have c2:s'.op=s.op:=by rw[←fd]
  have c3:s'.sd=s.sd++[y.id]:=by rw[←fd]
  have c4:s'.al=s.al++x.r.ro:=by rw[←fd]
  have c5:s'.L=s.L:=by rw[←fd]
  have c6:s'.la=s.la:=by rw[←fd]
  have c7:s'.fl=s.fl:=by rw[←fd]
  have cG:=DJ c1 c2;refine⟨h.nd,by rw[e1];exact h.si,by rw[e1,e2];exact h.un,⟨P,by rw[e2];exact p1,by rw[e5];exact p2,by rw[e3];exact Bt.trans p3,?_,?_⟩,?_,?_,?_,fun a b h1 h2 h3=> ?_,by rw[c2];exact h.lo,by rw[c6];exact h.ll,by rw[c7];exact h.lf,h.ln,by rw[c6,c1];exact h.lg,by rw[c7,c6,c2];exact h.fl,by rw[c1];exact h.gb,by rw[c2];exact h.ob,dt⟩
  ·rw[cG,c3];intro k hk;rw[←aZw]at hk;rcases aZh.1 hk with hk|hk
   ·exact p4 k hk
   ·rw[aZm.1 hk];exact hiP
  ·have fy:(s.sd++[y.id]).length=s.sd.length+1:=by simp
   rw[e5,e3,cG,c3,fy];omega
  ·rw[e3,cG,c3,←aZw (allG s)];exact af _ (by
    have:=List.perm_append_comm (l₁:=allG s++s.sd) (l₂:=[y.id]);exact this)
  ·rw[c5];exact fun w b hb=>h.lk w b (by unfold PC at hb;rw[c1,c2]at hb;exact hb)
  ·rw[c3,c4];intro k hk r hr;rcases aZh.1 hk with hk|hk
   ·exact aZl _ (h.al k hk r hr)
   ·rw[aZm.1 hk,Ju]at hr;exact aYi _ hr
  ·rw[cG]at h3;obtain⟨k1,k2,k3,k4⟩:=h.pr a b h1 h2 h3;refine⟨fun hm=>k1 (by rw[e3]at hm;exact(hnK a hm).1),by rw[e2];exact k2,fun hm=> ?_,fun hm=> ?_⟩
   ·rw[c3]at hm;rcases aZh.1 hm with hm|hm
    ·exact k3 hm
    ·rw[aZm.1 hm]at k1;exact k1 Vx
   ·rw[cG]at hm;exact(k4 hm).same c1 c2
 |some j=>
  rw[hw]at fd;dsimp only at fd;obtain⟨jc,hj,xm,jo⟩:=rS hw;have hj64:j<64:=aZd hj h.ln;obtain⟨g1,g2,g3,g4,g5,g6,g7,g8,g9,g10,g11⟩:=lH E j y.id x.r.ro x.r.cost {s with K:=popK s.K y.id,hi:=Go.Proofs.YtblbegbjlaokjaaGreatDoor.put (chK s.K y.id) j s.hi};have pz:j<s.op.length:=by rw[h.lo];exact hj
  have ou:=giveP_cases E j y.id x.r.ro x.r.cost {s with K:=popK s.K y.id,hi:=Go.Proofs.YtblbegbjlaokjaaGreatDoor.put (chK s.K y.id) j s.hi} ak.b1 pz;have qh:=DI E j y.id x.r.ro x.r.cost {s with K:=popK s.K y.id,hi:=Go.Proofs.YtblbegbjlaokjaaGreatDoor.put (chK s.K y.id) j s.hi} ak.b1 pz;rw[fd]at g1 g2 g3 g4 g5 g6 g7 g8 g9 g10 g11 ou qh;dsimp only at g1 g2 g3 g4 g5 g6 g7 g8 g9 g10 g11 ou;replace qh:(allG s').Perm (y.id::allG s):=qh;have nm:s.op[j]? =some (s.op.getD j []):=by rw[aZk,aZb pz];rfl
  --who is in a batch now,was in one,or is the new one
  have Iz:∀w b,PC s' w b→(∀k∈b,(∃b0,PC s w b0∧k∈b0)∨(k=y.id∧w=j)):=fun w b hb k hk=>by
   rcases ou with⟨_,_,k1,_,k2⟩|⟨_,k1,_,k2⟩
   ·rcases hb with hb|hb
    ·rw[k2]at hb;exact .inl ⟨b,.inl hb,hk⟩
    ·rw[k1,List.getElem?_set]at hb;split at hb
     ·rename_i e;subst e;(try rw[if_pos pz]at hb);cases hb;rcases aZh.1 hk with hk|hk
      ·exact .inl ⟨_,.inr nm,hk⟩
      ·exact .inr ⟨aZm.1 hk,rfl⟩
     ·exact .inl ⟨b,.inr hb,hk⟩
   ·rcases hb with hb|hb
    ·rw[k2]at hb;rcases aZh.1 hb with hb|hb
     ·exact .inl ⟨b,.inl hb,hk⟩
     ·have e:=aZm.1 hb;cases e;exact .inl ⟨_,.inr nm,hk⟩
    ·rw[k1,List.getElem?_set]at hb;split at hb
     ·rename_i e;subst e;(try rw[if_pos pz]at hb);cases hb;exact .inr ⟨aZm.1 hk,rfl⟩
     ·exact .inl ⟨b,.inr hb,hk⟩
  --an earlier batch stays so
  have herl:∀a b,PB s a b→PB s' a b:=fun a b ⟨p,w,ba,q1,q2,q3⟩=>by
   have hp:=(aZa.1 q1).1;rcases ou with⟨_,_,k1,_,k2⟩|⟨_,k1,_,k2⟩
   ·refine⟨p,w,ba,by rw[k2];exact q1,q2,?_⟩;rcases q3 with⟨q,bb,u1,u2,u3⟩|⟨bb,u1,u2⟩
    ·exact .inl ⟨q,bb,u1,by rw[k2];exact u2,u3⟩
    ·right;rw[k1,List.getElem?_set];split
     ·rename_i e;subst e;rw[nm]at u1;cases u1;exact⟨_,by first|rfl|rw[if_pos pz],aZl _ u2⟩
     ·exact⟨bb,u1,u2⟩
   ·refine⟨p,w,ba,by rw[k2,aZt hp];exact q1,q2,?_⟩;rcases q3 with⟨q,bb,u1,u2,u3⟩|⟨bb,u1,u2⟩
    ·exact .inl ⟨q,bb,u1,by rw[k2,aZt (aZa.1 u2).1];exact u2,u3⟩
    ·by_cases e:j=w
     ·subst e;rw[nm]at u1;cases u1;exact .inl ⟨s.gi.length,_,hp,by rw[k2,aZ3 (aZq _),aXn];rfl,u2⟩
     ·exact .inr ⟨bb,by rw[k1,aZ0 e];exact u1,u2⟩
  have gm:∃bb,s'.op[j]? =some bb∧y.id∈bb:=by
   rcases ou with⟨_,_,k1,_,_⟩|⟨_,k1,_,_⟩<;>rw[k1,List.getElem?_set_self pz]<;>exact⟨_,rfl,by simp⟩
  refine⟨h.nd,by rw[e1];exact h.si,by rw[e1,e2];exact h.un,⟨P,by rw[e2];exact p1,by rw[e5];exact p2,by rw[e3];exact Bt.trans p3,?_,?_⟩,?_,?_,?_,fun a b h1 h2 h3=> ?_,?_,?_,by rw[g10,aZn];exact h.lf,h.ln,?_,?_,?_,?_,dt⟩
  ·rw[g8];intro k hk;rcases aZh.1 hk with hk|hk
   ·rcases aZc.1 (qh.mem_iff.1 hk)with rfl|hk
    ·exact hiP
    ·exact p4 k (aZl _ hk)
   ·exact p4 k (aYi _ hk)
  ·rw[e5,e3,g8,qh.length_eq,aZu];omega
  ·rw[e3,g8];exact af _ (qh.append_right _)
  ·intro w b hb k hk r hr;rw[g9];rcases Iz w b hb k hk with⟨b0,q1,q2⟩|⟨rfl,rfl⟩
   ·exact wL (h.lk w b0 q1 k q2 r hr)
   ·rw[Ju]at hr;exact FU hr
  ·rw[g8,g5];exact h.al
  ·rw[e2,e3,g8];rcases aZc.1 (qh.mem_iff.1 h3)with rfl|hb
   ·rw[Ju]at h2;obtain⟨q1,q2,q3⟩:=hbef a h1;refine⟨fun hm=>hnX a (q2 (hnK a hm).1) h2,q1,fun hm=> ?_,fun hm=> ?_⟩
    ·have:=GS h2 (h.al a hm);rw[jc]at this;cases this
    ·have de:a∈allG s:=by
      rcases aZc.1 (qh.mem_iff.1 hm)with e|e
      ·exact absurd e q3
      ·exact e
     obtain⟨w,ba,u1,u2⟩:=I7 de;have hw64:w<64:=by
      rcases u1 with u1|u1
      ·exact aZd (h.gb _ u1).2.2 h.ln
      ·have:=(aZa.1 u1).1;rw[h.lo]at this;exact aZd this h.ln
     obtain rfl:=D4 hj64 hw64 xm h2 (fun r hr=>h.lk w ba u1 a u2 r hr);rcases u1 with u1|u1
     ·obtain⟨p,hp,hpe⟩:=List.getElem_of_mem u1;have hpg:s.gi[p]? =some (w,ba):=by rw[aZb hp,hpe]
      refine⟨p,w,ba,?_,u2,.inr gm⟩;rcases ou with⟨_,_,_,_,k2⟩|⟨_,_,_,k2⟩<;>rw[k2]
      ·exact hpg
      ·rw[aZt hp];exact hpg
     ·rw[nm]at u1;cases u1;rcases ou with⟨_,k0,_,_,_⟩|⟨_,_,_,k2⟩
      ·exfalso;have h5:=aWl.1 k0 a u2;obtain⟨z,hz,_⟩:=ak.oi _ (aZi nm) a u2;have h6:=h.ro hz;rw[h6.1,←h6.2]at h5;exact h5 h2
      ·exact⟨s.gi.length,w,_,by rw[k2,aZ3 (aZq _),aXn];rfl,u2,.inr gm⟩
   ·obtain⟨k1,k2,k3,k4⟩:=h.pr a b h1 h2 hb;refine⟨fun hm=>k1 (hnK a hm).1,k2,k3,fun hm=> ?_⟩;rcases aZc.1 (qh.mem_iff.1 hm)with rfl|hm
    ·exact absurd Vx k1
    ·exact herl a b (k4 hm)
  ·rcases ou with⟨_,_,k1,_,_⟩|⟨_,k1,_,_⟩<;>rw[k1,aZn]<;>exact h.lo
  ·rcases ou with⟨_,_,_,k1,_⟩|⟨_,_,k1,_⟩<;>rw[k1]
   ·exact h.ll
   ·rw[aZn];exact h.ll
  ·intro w ny;rcases ou with⟨_,_,_,k1,k2⟩|⟨_,_,k1,k2⟩<;>rw[k1,k2]
   ·exact h.lg w ny
   ·rw[List.getElem?_set,aZ6,List.map_append];have hlj:=h.lg j hj;split
    ·rename_i e;subst e;rw[if_pos (by rw[h.ll];exact hj),aZk,hlj];simp
    ·rename_i e;rw[h.lg w ny];simp[e]
  ·intro w;obtain⟨f1,f2⟩:=h.fl w;rw[g10,fH];rcases ou with⟨_,_,k0,k1,_⟩|⟨_,k0,k1,_⟩<;>rw[k0,k1,fH]
   ·by_cases e:j=w
    ·subst e;rw[if_pos ⟨rfl,by rw[h.lf];exact hj⟩,if_pos ⟨rfl,pz⟩,aZg,aZx];exact⟨by omega,jo⟩
    ·rw[if_neg (fun hh=>e hh.1),if_neg (fun hh=>e hh.1)];exact⟨f1,f2⟩
   ·rw[fH];by_cases e:j=w
    ·subst e;rw[if_pos ⟨rfl,by rw[h.lf];exact hj⟩,if_pos ⟨rfl,by rw[h.ll];exact hj⟩,if_pos ⟨rfl,pz⟩,oJ,aZx];exact⟨by omega,jo⟩
    ·rw[if_neg (fun hh=>e hh.1),if_neg (fun hh=>e hh.1),if_neg (fun hh=>e hh.1)];exact⟨f1,f2⟩
  ·intro z hz;rcases ou with⟨_,_,_,_,k1⟩|⟨k0,_,_,k1⟩<;>rw[k1]at hz
   ·exact h.gb z hz
   ·rcases aZh.1 hz with hz|hz
    ·exact h.gb z hz
    ·rw[aZm.1 hz];exact⟨k0,h.ob _ (aZi nm),hj⟩
  ·intro b hb;rcases ou with⟨k0,_,k1,_,_⟩|⟨_,k1,_,_⟩<;>rw[k1]at hb
   ·rcases aXi hb with hb|rfl
    ·exact h.ob b hb
    ·rw[aZg,aZx];omega
   ·rcases aXi hb with hb|rfl
    ·exact h.ob b hb
    ·exact ak.b1
theorem EQ {j:Nat} {s:Pa} (h:s.op.getD j []=[]):pushP j s=s:=by
 unfold pushP;rw[if_pos h]
theorem AF {j:Nat} {s:Pa} (h:s.op.getD j []≠[]):pushP j s= {s with la:=s.la.set j (s.la.getD j []++[s.op.getD j []]),gi:=s.gi++[(j,s.op.getD j [])],op:=s.op.set j []}:=by
 unfold pushP;rw[if_neg h]
theorem nF.push {E:Ev} {s0 s:Pa} (h:nF E s0 s) {j:Nat} (hj:j<E.n):nF E s0 (pushP j s):=by
 by_cases hn:s.op.getD j []=[]
 ·rw[EQ hn];exact h
 rw[AF hn];have pz:j<s.op.length:=by rw[h.lo];exact hj
 have nm:s.op[j]? =some (s.op.getD j []):=by rw[aZk,aZb pz];rfl
 obtain⟨s',fd⟩:∃s':Pa,s'= {s with la:=s.la.set j (s.la.getD j []++[s.op.getD j []]),gi:=s.gi++[(j,s.op.getD j [])],op:=s.op.set j []}:=⟨_,rfl⟩;rw[←fd];have c1:s'.gi=s.gi++[(j,s.op.getD j [])]:=by rw[fd]
 have c2:s'.op=s.op.set j []:=by rw[fd]
 have c3:s'.la=s.la.set j (s.la.getD j []++[s.op.getD j []]):=by rw[fd]
 have qh:(allG s').Perm (allG s):=by
  unfold allG;rw[c1,c2,List.map_append,List.flatten_append,aZw];refine List.Perm.append_left _ ?_;have e:[(j,s.op.getD j [])].map Prod.snd=[s.op.getD j []]:=rfl;rw[e,List.flatten_cons,List.flatten_nil,aYx];exact(xD pz).symm
 have Iz:∀w b,PC s' w b→b=[]∨PC s w b:=fun w b hb=>by
  rcases hb with hb|hb
  ·rw[c1]at hb;rcases aZh.1 hb with hb|hb
   ·exact .inr (.inl hb)
   ·have e:=aZm.1 hb;cases e;exact .inr (.inr nm)
  ·rw[c2,List.getElem?_set]at hb;split at hb
   ·rename_i e;subst e;(try rw[if_pos pz]at hb);cases hb;exact .inl rfl
   ·exact .inr (.inr hb)
 obtain⟨P,p1,p2,p3,p4,p5⟩:=h.pre;have hS:s'.S=s.S:=by rw[fd]
 have hD:s'.D=s.D:=by rw[fd]
 have hK:s'.K=s.K:=by rw[fd]
 have uu:s'.dr=s.dr:=by rw[fd]
 have wl:s'.sd=s.sd:=by rw[fd]
 have hL:s'.L=s.L:=by rw[fd]
 have Vk:s'.al=s.al:=by rw[fd]
 have jo:s'.fl=s.fl:=by rw[fd]
 refine⟨h.nd,by rw[hS];exact h.si,by rw[hS,hD];exact h.un,⟨P,by rw[hD];exact p1,by rw[uu];exact p2,by rw[hK];exact p3,?_,?_⟩,?_,?_,by rw[wl,Vk];exact h.al,fun a b h1 h2 h3=> ?_,by rw[c2,aZn];exact h.lo,by rw[c3,aZn];exact h.ll,by rw[jo];exact h.lf,h.ln,?_,?_,?_,?_,by rw[hS,uu];exact h.cn⟩
 ·rw[wl];intro k hk;rcases aZh.1 hk with hk|hk
  ·exact p4 k (aZl _ (qh.mem_iff.1 hk))
  ·exact p4 k (aYi _ hk)
 ·rw[uu,hK,wl,qh.length_eq];exact p5
 ·rw[hK,wl];exact((qh.append_right _).append_left _).nodup_iff.2 h.dj
 ·intro w b hb k hk;rw[hL];rcases Iz w b hb with rfl|hb
  ·cases hk
  ·exact h.lk w b hb k hk
 ·rw[hK,hD,wl];obtain⟨k1,k2,k3,k4⟩:=h.pr a b h1 h2 (qh.mem_iff.1 h3);refine⟨k1,k2,k3,fun hm=> ?_⟩;obtain⟨p,w,ba,q1,q2,q3⟩:=k4 (qh.mem_iff.1 hm);have hp:=(aZa.1 q1).1;refine⟨p,w,ba,by rw[c1,aZt hp];exact q1,q2,?_⟩;rcases q3 with⟨q,bb,u1,u2,u3⟩|⟨bb,u1,u2⟩
  ·exact .inl ⟨q,bb,u1,by rw[c1,aZt (aZa.1 u2).1];exact u2,u3⟩
  ·by_cases e:j=w
   ·subst e;rw[nm]at u1;cases u1;exact .inl ⟨s.gi.length,_,hp,by rw[c1,aZ3 (aZq _),aXn];rfl,u2⟩
   ·exact .inr ⟨bb,by rw[c2,aZ0 e];exact u1,u2⟩
 ·intro w hw;rw[c3,c1,List.getElem?_set,aZ6,List.map_append];split
  ·rename_i e;subst e;rw[if_pos (by rw[h.ll];exact hj),aZk,h.lg j hj];simp
  ·rename_i e;rw[h.lg w hw];simp[e]
 ·intro w;obtain⟨f1,f2⟩:=h.fl w;rw[jo,c3,c2,fH,fH];by_cases e:j=w
  ·subst e;rw[if_pos ⟨rfl,by rw[h.ll];exact hj⟩,if_pos ⟨rfl,pz⟩,oJ];exact⟨by rw[aYw];omega,f2⟩
  ·rw[if_neg (fun hh=>e hh.1),if_neg (fun hh=>e hh.1)];exact⟨f1,f2⟩
 ·intro z hz;rw[c1]at hz;rcases aZh.1 hz with hz|hz
  ·exact h.gb z hz
  ·rw[aZm.1 hz];exact⟨hn,h.ob _ (aZi nm),hj⟩
 ·intro b hb;rw[c2]at hb;rcases aXi hb with hb|rfl
  ·exact h.ob b hb
  ·simp
def endP (k:Nat) (s:Pa):Pa:=(List.range k).foldl (fun s j=>pushP j s) s
theorem kJ (k:Nat) (s:Pa):endP (k+1) s=pushP k (endP k s):=by
 unfold endP;rw[List.range_succ,aXl];rfl
theorem sV (k:Nat) (s:Pa):(endP k s).S=s.S∧(endP k s).D=s.D∧(endP k s).K=s.K∧(endP k s).dr=s.dr∧(endP k s).sd=s.sd∧(endP k s).fl=s.fl∧(endP k s).co=s.co∧(endP k s).L=s.L:=by
 induction k with
 |zero=>exact⟨rfl,rfl,rfl,rfl,rfl,rfl,rfl,rfl⟩
 |succ k ih=>
  rw[kJ];obtain⟨h1,h2,h3,h4,h5,h6,h7,h8,h9,h10,Yp⟩:=rI k (endP k s);obtain⟨g1,g2,g3,g4,g5,g6,g7,g8⟩:=ih;exact⟨h1.trans g1,h2.trans g2,h3.trans g3,h8.trans g4,h9.trans g5,h10.trans g6,Yp.trans g7,h5.trans g8⟩
theorem nF.ends {E:Ev} {s0 s:Pa} (h:nF E s0 s):∀k,k≤E.n→nF E s0 (endP k s)∧∀j,j<k→(endP k s).op.getD j []=[]
 |0,_=>⟨h,fun j hj=>by omega⟩
 |k+1,hk=>by
  obtain⟨h1,h2⟩:=h.ends k (by omega);rw[kJ];refine⟨h1.push (by omega),fun j hj=> ?_⟩;rw[xV,fH];split
  ·rfl
  ·rename_i e;by_cases ej:k=j
   ·subst ej;rw[aZk,aY1 (by have:=h1.lo;omega)];rfl
   ·exact h2 j (by omega)
structure FN (E:Ev) (s0 t:Pa):Prop where
 lw:nF E s0 t
 K:t.K=[]
 D:t.D=[]
 op:t.op.flatten=[]
theorem nF.atEnd {E:Ev} {s0 s:Pa} (h:nF E s0 s) (hK:s.K=[]) (hD:s.D=[]):FN E s0 (endP E.n s):=by
 obtain⟨h1,h2⟩:=h.ends E.n (aZq _);obtain⟨_,e2,e3,_⟩:=sV E.n s;refine⟨h1,e3.trans hK,e2.trans hD,List.flatten_eq_nil_iff.2 fun b hb=> ?_⟩;obtain⟨j,hj,rfl⟩:=List.getElem_of_mem hb;have:=h2 j (by rw[←h1.lo];exact hj);rw[aZk,aZb hj]at this;exact this
theorem FN.drops {E:Ev} {s0 t:Pa} (h:FN E s0 t):t.dr=s0.D.filterMap (cM E s0.S):=by
 obtain⟨P,p1,p2,_⟩:=h.lw.pre;rw[h.D,aYx]at p1;rw[p1];exact p2
def qV (t:Pa):Wc:=(t.gi.map Prod.snd).flatten
theorem FN.allG {E:Ev} {s0 t:Pa} (h:FN E s0 t):allG t=qV t:=by
 unfold Go.Proofs.YtblbegbjlaokjaaGreatDoor.allG;rw[h.op,aYx];rfl
theorem FN.count {E:Ev} {s0 t:Pa} (h:FN E s0 t):s0.D.length=t.dr.length+(qV t).length+t.sd.length:=by
 obtain⟨P,p1,p2,p3,p4,p5⟩:=h.lw.pre;rw[h.D,aYx]at p1;rw[h.K,h.allG]at p5;rw[p1];exact p5
theorem FN.nodup {E:Ev} {s0 t:Pa} (h:FN E s0 t):(qV t++t.sd).Nodup:=by
 have:=h.lw.dj;rw[h.K,h.allG]at this;exact this
theorem FN.order {E:Ev} {s0 t:Pa} (h:FN E s0 t) {a b:Wi} (h1:W6 s0.D a b) (h2:dQ (roS s0.S a) (roS s0.S b)=true) (h3:b∈qV t):
  a∉t.sd∧(a∈qV t→∃(p q w:Nat) (ba bb:Wc),p<q∧t.gi[p]? =some (w,ba)∧a∈ba∧t.gi[q]? =some (w,bb)∧b∈bb):=by
 obtain⟨_,_,k3,k4⟩:=h.lw.pr a b h1 h2 (by rw[h.allG];exact h3);refine⟨k3,fun hm=> ?_⟩;obtain⟨p,w,ba,q1,q2,q3⟩:=k4 (by rw[h.allG];exact hm);rcases q3 with⟨q,bb,u1,u2,u3⟩|⟨bb,u1,u2⟩
 ·exact⟨p,q,w,ba,bb,u1,q1,q2,u2,u3⟩
 ·have:b∈t.op.flatten:=List.mem_flatten.2 ⟨bb,aZi u1,u2⟩;rw[h.op]at this;cases this
def sO (S:List (Option It)) (k:Wi):List (Option It):=match itS S k with
 |some x=>S.set (ix k) (some {x with pl:=0})
 |none=>S
def wZ (t:Pa):List (Option It):=t.sd.foldl sO t.S
theorem LV (S:List (Option It)) (k:Wi):((sO S k).filter Option.isSome).length=(S.filter Option.isSome).length:=by
 unfold sO;cases h:itS S k with
 |none=>rfl
 |some x=>
  have:=uG (itS_get h) (some {x with pl:=0});simp only[aWz,if_true]at this;dsimp only;omega
theorem G3 (l:Wc):∀(S:List (Option It)),((l.foldl sO S).filter Option.isSome).length=(S.filter Option.isSome).length:=by
 induction l with
 |nil=>intro S;rfl
 |cons i l ih=>
  intro S;rw[aWv,ih,LV]
end Go.Proofs.YtblbegbjlaokjaaGreatDoor