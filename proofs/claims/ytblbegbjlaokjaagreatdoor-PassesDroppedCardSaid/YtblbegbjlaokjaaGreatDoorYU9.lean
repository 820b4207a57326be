/- The lemmas of the proof, part YO9: how the program and its data lie in memory, and what its functions do. -/
import Derived.Test.YtblbegbjlaokjaaGreatDoorYU8
set_option linter.unusedSimpArgs false
set_option linter.unusedVariables false
set_option linter.unusedSectionVars false

set_option maxRecDepth 20000
set_option maxHeartbeats 3200000
namespace Go.Proofs.YtblbegbjlaokjaaGreatDoor
open Go.RowKit
open Go.ChangeMaps (setBlock)
attribute [local go_sem↓] f9 gG gJ
attribute [local go_sem] Value.cells aJ aC eB dR cW kc_size aL aO aP aQ aI bH
section
attribute [local go_sem↓] dE cD dD nB jX mX
attribute [local go_sem] bI dZ eT lO pK
theorem UQ (a b:Wj) (w:We):(Instr.buildSlice 67 2 #[(0,u64v a),(1,u64v b)]).run Tryz.prog w= .ok (.slice (some ⟨w.heap.size,0,none⟩) 2 2) (w.alloc (.cells #[u64v a,u64v b] 23)):=by kernel_rfl
theorem xY (x:cT):(b9 x)[46]? =some (u64v x.cost):=fC (pre:=dF x) 7
theorem ER (x:cT) (h:46<(b9 x).size):(b9 x)[46]=u64v x.cost:=aU (xY x) h
attribute [local go_sem] xY ER
def O9 (n j:Nat) (V:List Wg) (L:List (Wc)) (b:Wc) (v:Wg):aK:=fun T w=>BatL n (V.set j v) (L.set j b) T w∧∃a c,v= .slice a b.length c
theorem xH (n j:Nat) (V:List Wg) (L:List (Wc)) (b:Wc) (v:Wg):aH (O9 n j V L b v):=(BatL.good _ _ _).and (aH.pure _)
theorem LT {n j p:Nat} {V:List Wg} {L:List (Wc)} {T:Nat→Prop} {w:We} (h:BatL n V L T w) (hj:j<n) {b:Wc} (hb:L[j]? =some b) {v:Wg} (hv:V[j]? =some v) {i:Wi} {U:Wh} {fr:Nat×Nat} (kp:w.heap[p]? =some (.cells #[.int .i64 i.toInt] U fr)) (ag:b.length≤64) (ty:Wh):
  ∃v' w',(Builtin.append_ #[53,53] ty #[v,.slice (some ⟨p,0,none⟩) 1 1]).run Tryz.prog w= .ok v' w'∧Mod T w w'∧O9 n j V L (b++[i]) v' (Grow T w w') w':=by
 obtain⟨v',w',az,⟨T',g1,g2,g3⟩,a',c',e'⟩:=h.app hj hb hv (q:=[i]) (c:=1) (aS.one kp i rfl rfl) (by simp only[aZx];omega) ty;exact⟨v',w',az,g2,(BatL.good _ _ _).gr _ _ _ (fun a ha=>g3 a ha) g1,a',c',e'⟩
theorem QO {p d j:Nat} {E:Ev} {s:Pa} {T:Nat→Prop} {w:We} (h:bY p d E s T w) (hT:∀a,T a→a<w.heap.size) (hj:j<E.n) (id:Wi) {y:cT} (hy:aV w y.ro.a y.ro.l) (hyT:∀g o,y.ro.a=some ⟨g,o,none⟩→¬T g) (xa:y.ro.l.length≤1000)
  (hf:iF s.L y.ro.l j=true) (hL:s.L.length≤900000) {b:Wc} (hb:s.op[j]? =some b) {q:List (Wc)} (hq:s.la[j]? =some q) (jw:b.length≤64) (hql:q.length≤1000) (jg:sumB q≤100000) (vy:s.gi.length≤10000)
  (Oq:∀k∈b,∃x,s.S[ix k]? =some (some x)∧k=idn (ix k)∧ix k<4096∧x.r.ro.length≤1000000) (jo:s.fl.getD j 0≤100000):
  Calls Tryz.prog 74 #[ptrV p,.int .i64 id.toInt,.int .i64 (j:Int),.agg (b9 y)] w fun e w'=>e= .returned (.tuple #[])∧Goes (bY p d E (giveP E j id y.ro.l y.cost s)) T w w':=by
 obtain⟨M,hp,hd,aq,hS⟩:=h;have hG:=parts.good M E s;obtain⟨T0,⟨_,kp⟩,_⟩:=hS.get (i:=0) rfl;obtain⟨T1,⟨_,kd⟩,_⟩:=hS.get (i:=1) rfl;rw[hp]at kp;rw[hd]at kd;unfold pac at kp;unfold iE at kd;rw[hd]at kp;have HS:=Hi (Ai hS (Ai hT (Ai hp (Ai hd aq))));have HY:=Hi (Ai hy (Ai hyT (Ai xa (Ai hf hL))));have HB:=Hi (Ai hb (Ai hq (Ai jw (Ai hql (Ai jg (Ai vy (Ai Oq jo)))))));clear hS hG hT hp aq hy hyT xa hf hL hb hq jw hql jg vy Oq jo;go_enter Tryz.func74,Tryz.ntmps74;go_upto_region 0 with fail;have Lkp:=aA kp;have Lkd:=aA kd;refine ZP0 [3,3] ?_;refine Zb fun p4 od=> ?_;refine Zb fun p7 Gw=> ?_;obtain⟨ne_p7_p4,Gw⟩:=Bx.set_none Gw;refine TD.nil (fun w1 hr=> ?_);replace kp:=hr.q kp;replace kd:=hr.q kd;obtain⟨gp4,kp4⟩:=hr.b p4;obtain⟨gp7,kp7⟩:=hr.b p7;have m1:=Hi hr.mod;clear hr;have h47:p4≠p7:=by omega
 go_upto_region 1 with fail;have Lkp:=aA kp;have Lkd:=aA kd;have Lkp4:=aA kp4;have Lkp7:=aA kp7;refine ZP [1,0,0,1,0,0,1,0,1,0,5] ?_
 iterate 10 first|refine Zd ?_|refine Zv ?_
 refine Zi fun w2 hr=> ?_;replace kp:=hr.q kp;replace kd:=hr.q kd;replace kp4:=hr.q kp4;replace kp7:=hr.q kp7;have m2:=Hi (m1.out.then0 hr.mod);clear hr;obtain⟨s1,fk⟩:∃s1:Pa,s1= {s with L:=addL s.L y.ro.l (wf j)}:=⟨_,rfl⟩;have br:Calls Tryz.prog 115 #[ptrV M.D.t,.slice y.ro.a y.ro.l.length y.ro.c,.int .i64 (j:Int)] w2 fun e w'=>e= .returned (.int .i64 0)∧Goes (bW (parts M E s1)) T w2 w':=by
  obtain⟨hS,hT,hp,cm,aq⟩:=HS.out;obtain⟨hy,hyT,xa,hf,hL⟩:=HY.out;have hG:=parts.good M E s;have hlt:∀x,T x→x<w2.heap.size:=fun x hx=>aZd (hT x hx) m2.out.size;have ag:s.L.length+y.ro.l.length≤1000000:=by omega
  have ti:=hy.mod0 m2.out;rw[fk];exact bW.callW (R:=fun e _=>e= .returned (.int .i64 0)) hG hlt (hS.mod0 hG m2.out) (i:=7) (K:=fO M.D.t E.n s.L) (K':=fO M.D.t E.n (addL s.L y.ro.l (wf j))) rfl (fun T3 ht hB=>fO.takeJ hB y.ro.a y.ro.l y.ro.c aq.n1 aq.n2 ti ag hj hf)
 have Fp:Hid ((w.heap.size≤p4∧p4<w2.heap.size)∧w.heap.size≤p7∧p7<w2.heap.size):=Hi ⟨⟨by omega,aA kp4⟩,by omega,aA kp7⟩;(refine bJ (by simp only[zK];rfl) (by rfl) ?y14 br (fun wn hP=> ?n14);(case y14=>(go_simp;(try(first|with_reducible rfl|(constructor<;>with_reducible rfl)))));try simp only[zL]);refine TE.nil ?_;clear br kp kd;obtain⟨w3,hw3⟩:∃w3,wn=w3:=⟨_,rfl⟩;rw[hw3]at hP⊢;clear hw3;obtain⟨T3,tt,qc,yn⟩:=hP;have kp4:=qc.at kp4 (fun ht=>by have:=HS.out.2.1 _ ht;omega);have kp7:=qc.at kp7 (fun ht=>by have:=HS.out.2.1 _ ht;have:=m1.out.size;omega);obtain⟨U0,⟨_,kp⟩,_⟩:=tt.get (i:=0) rfl;obtain⟨U1,⟨_,kd⟩,_⟩:=tt.get (i:=1) rfl;obtain⟨U10,⟨_,kf⟩,_⟩:=tt.get (i:=10) rfl;rw[HS.out.2.2.1]at kp;rw[hd]at kd;unfold pac at kp;unfold iE at kd;rw[hd]at kp;rw[HS.out.2.2.2.2.fv,HS.out.2.2.2.2.cv]at kd;have pd:Hid (∀x,T3 x→x<w3.heap.size):=Hi (cQ (fun x hx=>aZd (HS.out.2.1 x hx) m2.out.size) qc yn);have hnT4:Hid (¬T3 p4∧¬T3 p7):=Hi ⟨fun ht=>by
  have hh:=Fp.out;rcases yn _ ht with h|h
  ·have:=HS.out.2.1 _ h;omega
  ·omega,fun ht=>by
  have hh:=Fp.out;rcases yn _ ht with h|h
  ·have:=HS.out.2.1 _ h;omega
  ·omega⟩
 obtain⟨f,Vs⟩:∃f,s.fl[j]? =some f:=⟨_,aZb (by rw[HS.out.2.2.2.2.fl];exact hj)⟩;have hfb:f≤100000:=by
  have:=HB.out.2.2.2.2.2.2.2;rw[aZk,Vs]at this;exact this
 have He:IntKind.i64.wrap ((f:Int)+1)=((f+1:Nat):Int):=by rw[IntKind.wrap_i64];omega
 have e1:s1.fl=s.fl:=by rw[fk]
 rw[e1]at kf;have iu:(s.fl.map natV).toArray.setIfInBounds j (.int .i64 ((f+1:Nat):Int))=((s.fl.set j (f+1)).map natV).toArray:=by
  rw[zF,aX4];rfl
 have f0:(s.fl.map natV).toArray[j]? =some (.int .i64 (f:Int)):=by rw[zA,aZv,Vs];rfl
 generalize(s.fl.map natV).toArray=F at *;have f1:∀h:j<F.size,F[j]= .int .i64 (f:Int):=fun h=>aU f0 h;have f2:=(aZf.1 f0).1;have H3:=Hi (Ai tt (Ai qc (Ai yn fk)));have HF:=Hi (Ai iu Vs);clear tt qc yn fk iu Vs f0 e1;obtain⟨m1n,Jf⟩:∃m1n:Int,((f+1:Nat):Int)=m1n:=⟨_,rfl⟩;rw[Jf]at He;have qg:=Hi Jf;clear Jf;have q1:p≠M.fb:=aB kp kf (by simp);have q2:d≠M.fb:=aB kd kf (by simp);have q3:p4≠M.fb:=aB kp4 kf (by simp);have q4:p7≠M.fb:=aB kp7 kf (by simp);go_upto_region 2 with fail;have Lkp:=aA kp;have Lkd:=aA kd;have Lkp4:=aA kp4;have Lkp7:=aA kp7;have Lkf:=aA kf;refine ZP0 [1,0,0,1,0,0,1,0,0,1,0,0,5] ?_
 iterate 12 first|refine Zd ?_|refine Zv ?_
 refine Zi fun wE hr=> ?_;replace kp:=hr.mod.at0 kp;replace kd:=hr.mod.at0 kd;replace kp4:=hr.mod.at0 kp4;replace kp7:=hr.mod.at0 kp7;replace kf:=hr.mod.at0 kf;have mE:=hr.mod;refine ZS ?_;refine ZN kf fun w4 kf mS=> ?_;replace kp:=mS.at_ne kp (by omega);replace kd:=mS.at_ne kd (by omega);replace kp4:=mS.at_ne kp4 (by omega);replace kp7:=mS.at_ne kp7 (by omega);rw[←qg.out,HF.out.1]at kf;have ms:Mod (fun i=>i=M.fb) w3 w4:=(mE.mono (fun _ _ h=>h.elim)).trans mS;obtain⟨s2,fe⟩:∃s2:Pa,s2= {s1 with fl:=s.fl.set j (f+1)}:=⟨_,rfl⟩;have h4:Hid (Goes (bW (parts M E s2)) T3 w3 w4):=by
  obtain⟨tt,qc,yn,fk⟩:=H3.out;obtain⟨Ts,h1,h2,h3⟩:=tt;have ph:CeL M.fb (s1.fl.map natV).toArray 3 (Ts 10) w3:=h1 10 _ rfl;obtain⟨k1,k2⟩:=bW.step (parts.good M E s1) pd.out (i:=10) (by simp[parts]) h1 h2 h3 (K':=CeL M.fb ((s.fl.set j (f+1)).map natV).toArray 3) (Goes.into ⟨ph.1,kf⟩ (ms.mono (fun x _ hx=>by rw[hx];exact ph.1)));rw[fe];exact Hi ⟨_,k1,k2,fun _ h=>h⟩
 clear kf ms mS mE q1 q2 q3 q4 hr;obtain⟨T4,vt,Ax,uq⟩:=h4.out;obtain⟨U11,⟨_,kc⟩,_⟩:=vt.get (i:=11) rfl;have e2:s2.co=s.co:=by rw[fe,H3.out.2.2.2]
 rw[e2]at kc;obtain⟨co,Ov⟩:∃co,s.co[j]? =some co:=⟨_,aZb (by rw[HS.out.2.2.2.2.co];exact hj)⟩;have c0:(s.co.map u64v).toArray[j]? =some (u64v co):=by rw[zA,aZv,Ov];rfl
 have hsc:∀v:Wj,(s.co.map u64v).toArray.setIfInBounds j (u64v v)=((s.co.set j v).map u64v).toArray:=fun v=>by
  rw[zF,aX4]
 generalize(s.co.map u64v).toArray=G at *;have c1:∀h:j<G.size,G[j]=u64v co:=fun h=>aU c0 h;have c2:=(aZf.1 c0).1;have H4:=Hi (Ai vt (Ai Ax (Ai uq (Ai fe (Ai hsc Ov)))));clear vt Ax uq fe hsc Ov c0 e2;go_upto_region 3 with fail;have Lkp:=aA kp;have Lkd:=aA kd;have Lkp4:=aA kp4;have Lkp7:=aA kp7;have Lkc:=aA kc;refine iR (T0:=fun _=>False) (K:=fun _ _=>True) (κ:=fun i=>[0,0,0,0,0,0,0,0,0,0,0,0,0,0,0,0,0,0,0,0,3,6,0,6].getD i 0) (υ:=fun i=>[[],[],[],[],[],[],[],[],[],[],[],[],[],[],[],[],[],[],[],[],[],[52],[],[]].getD i []) [0,1,2,3,4,5,6,7,8,9,10,11,12,13,14,15,16,17,18,19,20,21] [22,23] (by kernel_rfl) (by kernel_rfl) (aH.true).cl (trivial) (fun _ h=>h.elim) ?_;have gK:=aH.true
 iterate 20 first|refine Zg ?_|refine Zh ?_
 (refine TG.bslice (by simp only[zK];rfl) rfl (by rfl) rfl rfl ?hx48 (UQ co y.cost) (fun p52 Rq _=> ?n48);(case hx48=>(simp only[aYr,aZo,aYo,zM];(try rfl)));try simp only[zL]);(refine ZG (fun v=>v=u64v (sat co y.cost)) gK ?_ (s:=fun T wq kq ltq ae ub=>by have kp52:=ub.box (p:=p52) (by first|exact Bx.set_same _ _ _|(simp only[Bx.set_same];rfl)) (by first|decide|exact aZm.2 rfl|simp);dsimp only[Value.cells]at kp52;have nUp52:=(ub p52 _ (by first|exact Bx.set_same _ _ _|(simp only[Bx.set_same];rfl)) (by first|decide|exact aZm.2 rfl|simp)).1;exact(SY p52 co y.cost wq kp52).mono (fun e w' h=>⟨_,h.1,rfl,h.2⟩));rintro v49 hC;subst hC;try simp only[zL]);refine TG.nil (fun w5 ⟨TR,hr⟩=> ?_);replace kp:=hr.q kp;replace kd:=hr.q kd;replace kp4:=hr.q kp4;replace kp7:=hr.q kp7;replace kc:=hr.q kc;obtain⟨gp52,nTp52,kp52⟩:=hr.b p52;clear gK;have m5:=hr.mod;have g52:p52≠M.cb:=by have:=aA kc;omega
 have q1:p≠M.cb:=aB kp kc (by simp);have q2:d≠M.cb:=aB kd kc (by simp);have q3:p4≠M.cb:=aB kp4 kc (by simp);have q4:p7≠M.cb:=aB kp7 kc (by simp);clear hr;refine Ze ?_;refine Zz ?_;refine ZS ?_;refine ZN kc fun wn kc mS=> ?_;rw[H4.out.2.2.2.2.1]at kc;have ms:Mod (fun i=>i=M.cb) w4 wn:=(m5.mono (fun _ _ h=>h.elim)).trans mS;have kp4:=mS.at_ne kp4 q3;have kp7:=mS.at_ne kp7 q4;obtain⟨w6,hw6⟩:∃w6,wn=w6:=⟨_,rfl⟩;rw[hw6]at kc ms kp4 kp7⊢;clear hw6 mS m5 kp52 q1 q2 q3 q4 g52 kp kd;have h6:Hid (Goes (bW (parts M E (takeP j y.ro.l y.cost s))) T4 w4 w6):=by
  obtain⟨vt,Ax,uq,fe,hsc,Ov⟩:=H4.out;obtain⟨Ts,h1,h2,h3⟩:=vt;have Au:=cQ pd.out Ax uq;have ns:CeL M.cb (s2.co.map u64v).toArray 23 (Ts 11) w4:=h1 11 _ rfl;obtain⟨k1,k2⟩:=bW.step (parts.good M E s2) Au (i:=11) (by simp[parts]) h1 h2 h3 (K':=CeL M.cb ((s.co.set j (sat co y.cost)).map u64v).toArray 23) (Goes.into ⟨ns.1,kc⟩ (ms.mono (fun x _ hx=>by rw[hx];exact ns.1)));have Eb:s.fl.getD j 0=f:=by rw[aZk,HF.out.2];rfl
  have nh:s.co.getD j 0=co:=by rw[aZk,Ov];rfl
  have Fa:takeP j y.ro.l y.cost s= {s2 with co:=s.co.set j (sat co y.cost)}:=by
   unfold takeP;rw[Eb,nh,fe,H3.out.2.2.2]
  rw[Fa];exact Hi ⟨_,k1,k2,fun _ h=>h⟩
 clear kc ms kf;obtain⟨T6,eu,ke,ji⟩:=h6.out;obtain⟨s3,ij⟩:∃s3,takeP j y.ro.l y.cost s=s3:=⟨_,rfl⟩;rw[ij]at eu;obtain⟨U0,⟨_,kp⟩,_⟩:=eu.get (i:=0) rfl;obtain⟨U1,⟨_,kd⟩,_⟩:=eu.get (i:=1) rfl;obtain⟨U14,⟨_,kob⟩,_⟩:=eu.get (i:=14) rfl;obtain⟨U15,Ys,_⟩:=eu.get (i:=15) rfl;rw[HS.out.2.2.1]at kp;rw[hd]at kd;have Yo:=Hi (Ai kp kd);unfold pac at kp;unfold iE at kd;rw[hd,HS.out.2.2.2.2.ov]at kp;have aj:s3.op=s.op:=by rw[←ij];rfl
 have ft:(s3.op++s3.gi.map Prod.snd)[j]? =some b:=by rw[aj,aZt (by rw[HS.out.2.2.2.2.op];exact hj)];exact HB.out.1
 have re:=Ys.1;rw[aZg,aj,HS.out.2.2.2.2.op]at re;obtain⟨v,hv⟩:∃v,M.V[j]? =some v:=⟨_,aZb (by omega)⟩;obtain⟨a,c,jv,hat,_⟩:=((Ys.2.1 j v b hv ft).1 hj).at gL;subst jv;obtain⟨C,hC⟩:∃C,(M.V.take E.n).toArray=C:=⟨_,rfl⟩;have k0:C[j]? =some (.slice a b.length c):=by
  rw[←hC,zA,aXx hj];exact hv
 have k1:∀h:j<C.size,C[j]= .slice a b.length c:=fun h=>aU k0 h;have k2:=(aZf.1 k0).1;rw[hC]at kob;have H6:=Hi (Ai eu (Ai ke (Ai ji (Ai ij (Ai hv (Ai hat hC))))));clear eu ke ji ij hv hat hC ft re aj Ys;have HY6:Hid (aV w6 y.ro.a y.ro.l):=Hi (by
  rcases HY.out.1 with he|⟨g,o,C0,U0,fr0,ha,hg,_⟩
  ·exact .inl he
  ·have Vw:=aA hg;have vx:=HY.out.2.1 g o ha;have z2:=m2.out.size;have z3:=H3.out.2.1.size;have z4:=H4.out.2.1.size;have n3:¬T3 g:=fun ht=>by
    rcases H3.out.2.2.1 g ht with h|h
    ·exact vx h
    ·omega
   have n4:¬T4 g:=fun ht=>by
    rcases H4.out.2.2.1 g ht with h|h
    ·exact n3 h
    ·omega
   have li:∀b2 o2,y.ro.a=some ⟨b2,o2,none⟩→b2=g:=fun b2 o2 hb=>by
    rw[ha]at hb;cases hb;rfl
   exact(((HY.out.1.mod0 m2.out).mod H3.out.2.1 (fun b2 o2 hb=>by rw[li b2 o2 hb];exact vx)).mod H4.out.2.1 (fun b2 o2 hb=>by rw[li b2 o2 hb];exact n3)).mod H6.out.2.1 (fun b2 o2 hb=>by rw[li b2 o2 hb];exact n4))
 have HPA:Hid (∀wq,Mod (fun _=>False) w6 wq→∃Tq,bY p d E s3 Tq wq∧Mod T w wq∧(∀a,Tq a→T a∨(w.heap.size≤a∧a<wq.heap.size))∧¬Tq p4∧∀x,Tq x→x<wq.heap.size):=Hi (fun wq hq=>by
  obtain⟨hS,hT,hp,cm,aq⟩:=HS.out;obtain⟨eu,ke,ji,ij,hv,hat,hC⟩:=H6.out;have n4:¬T4 p4:=fun ht=>by
   have z3:=H3.out.2.1.size;rcases H4.out.2.2.1 _ ht with h|h
   ·exact hnT4.out.1 h
   ·have:=Fp.out;omega
  have n6:¬T6 p4:=fun ht=>by
   have z3:=H3.out.2.1.size;have z4:=H4.out.2.1.size;rcases ji _ ht with h|h
   ·exact n4 h
   ·have:=Fp.out;omega
  have l3:=cQ (S:=T) (T:=T3) (w:=w3) pd.out ((Mod.refl T w3)) (T1:=T3) (fun x hx=> .inl hx);have l4:=cQ pd.out H4.out.2.1 H4.out.2.2.1;have l6:=cQ l4 ke ji;refine⟨T6,⟨M,hp,cm,?_,eu.mod0 (parts.good M E s3) hq⟩,?_,fun a ha=> ?_,n6,fun x hx=>aZd (l6 x hx) hq.size⟩
  ·rw[←ij];exact⟨aq.win,aq.bat,aq.fli,aq.n1,aq.n2,aq.fv,aq.cv,aq.sv,aq.ov,by show(s.fl.set j _).length=E.n;rw[aZn];exact aq.fl,by show(s.co.set j _).length=E.n;rw[aZn];exact aq.co,aq.sp,aq.op,aq.la,aq.gw,aq.gl⟩
  ·obtain⟨_,_,g,_⟩:Goes (bY p d E s3) T w wq:=by
    refine Goes.trans (K1:=bY p d E s) (m2.out.mono (fun _ _ h=>h.elim)) (fun x hx=> .inl hx) ?_;refine Goes.trans (K1:=bY p d E s) H3.out.2.1 H3.out.2.2.1 ?_;refine Goes.trans (K1:=bY p d E s) H4.out.2.1 H4.out.2.2.1 ?_;refine Goes.trans (K1:=bY p d E s) ke ji ?_;exact⟨T6,(bY.good p d E s3).cl _ _ _ (by
     refine⟨M,hp,cm,?_,eu⟩;rw[←ij];exact⟨aq.win,aq.bat,aq.fli,aq.n1,aq.n2,aq.fv,aq.cv,aq.sv,aq.ov,by show(s.fl.set j _).length=E.n;rw[aZn];exact aq.fl,by show(s.co.set j _).length=E.n;rw[aZn];exact aq.co,aq.sp,aq.op,aq.la,aq.gw,aq.gl⟩) (hq.mono (fun _ _ h=>h.elim)),hq.mono (fun _ _ h=>h.elim),fun x hx=> .inl hx⟩
   exact g
  ·have z2:=m2.out.size;have z3:=H3.out.2.1.size;have z4:=H4.out.2.1.size;have z6:=ke.size;have zq:=hq.size;rcases ji a ha with h|h
   ·rcases H4.out.2.2.1 a h with h|h
    ·rcases H3.out.2.2.1 a h with h|h
     ·exact .inl h
     ·exact .inr (by omega)
    ·exact .inr (by omega)
   ·exact .inr (by omega))
 have Pm:s.op.getD j []=b:=by rw[aZk,HB.out.1];rfl
 have HGD:=Hi Pm;clear Pm;go_upto_region 5 with fail;go_cut [83]from 56 to 84 (fun s83 wx=>∃z:Bool,s83= .bool z∧Hid (z=true↔(E.bat≤b.length∨b.any (fun k=>dQ (roS s.S k) y.ro.l)=true))∧Hid (Mod (fun _=>False) w6 wx))
 case first=>
  by_cases ql:E.bat≤b.length
  ·have zy:M.D.bat≤b.length:=by rw[HS.out.2.2.2.2.bat];exact ql
   have hdc:=Dt zy;have HZ:=Hi ql;have Lkp:=aA kp;have Lkd:=aA kd;have Lkp4:=aA kp4;have Lkp7:=aA kp7;have Lkob:=aA kob;refine ZP [1,0,0,1,0,0,1,0,1,0,0,1,0,0,0,1,0,0,0,0,0,0,0,0,0,0,0,0] ?_
   iterate 28 first|refine Zo ?_|refine Zv ?_|refine Zd ?_
   refine TD.nil (fun w7 hr=> ?_);replace kp:=hr.q kp;replace kd:=hr.q kd;replace kp4:=hr.q kp4;replace kp7:=hr.q kp7;replace kob:=hr.q kob;have Cw:=Hi hr.mod;clear hr hdc ql zy;go_wp2_with fail;go_meet;exact⟨true,rfl,Hi ⟨fun _=> .inl HZ.out,fun _=>rfl⟩,Cw⟩
  ·have zy:¬M.D.bat≤b.length:=by rw[HS.out.2.2.2.2.bat];exact ql
   have hdc:=Df zy;have hct:Hid (∀wq,Mod (fun _=>False) w6 wq→Calls Tryz.prog 118 #[.slice a b.length c,W0 p4 p7] wq fun e w'=>e= .returned (.bool (b.any fun k=>dQ (roS s.S k) y.ro.l))∧Mod (fun _=>False) wq w'):=Hi (fun wq hq=>by
    obtain⟨eu,ke,ji,ij,hv,hat,hC⟩:=H6.out;have ae:=eu.mod0 (parts.good M E s3) hq;obtain⟨U2,Uz,_⟩:=ae.get (i:=2) rfl;have hsS:s3.S=s.S:=by rw[←ij];rfl
    refine MD (hat.mod0 hq) (by have:=HB.out.2.2.1;omega) p4 p7 _ (fun k hk wr hr=> ?_);obtain⟨x,hx,wg,hk4,Bv⟩:=HB.out.2.2.2.2.2.2.1 k hk;have lq:roS s.S k=x.r.ro:=by
     unfold roS itS;rw[hx];rfl
    rw[lq];have hme:=ND (p:=p) (D:=M.D) (X:=M.X) (pb:=p4) (rb:=p7) (y:=y) (hr.at0 (hq.at0 Yo.out.1)) (hr.at0 (hq.at0 (by rw[hd];exact Yo.out.2))) ((BT.good M.D.b s3.S).cl _ _ _ Uz (hr.mono (fun _ _ h=>h.elim))) (i:=ix k) (by rw[hsS];exact hx) Bv (hr.at0 (hq.at0 kp4)) (hr.at0 (hq.at0 kp7)) (by
     have hy6:aV w6 y.ro.a y.ro.l:=HY6.out;exact(hy6.mod0 hq).mod0 hr) (by have:=HY.out.2.2.1;omega)
    rw[wg,bR (by omega)];exact hme)
   obtain⟨z,hz⟩:∃z,(b.any fun k=>dQ (roS s.S k) y.ro.l)=z:=⟨_,rfl⟩;have HZ:Hid (z=true↔(E.bat≤b.length∨b.any (fun k=>dQ (roS s.S k) y.ro.l)=true)):=Hi ⟨fun h=> .inr (hz.trans h),fun h=>by
    rcases h with h|h
    ·exact absurd h ql
    ·exact hz.symm.trans h⟩
   rw[hz]at hct;clear hz;have Lkp:=aA kp;have Lkd:=aA kd;have Lkp4:=aA kp4;have Lkp7:=aA kp7;have Lkob:=aA kob;refine ZR (fun _ _ v=>v= .bool z) [1,0,0,1,0,0,1,0,1,0,0,1,0,0,0,1,0,0,1,0,0,1,0,0,1,0,2,0] ?_
   iterate 26 first|refine Zd ?_|refine Zv ?_
   (refine Zc ?_ (s:=by intro wq ae;exact(hct.out wq ae).mono (fun e w' h=>⟨_,h.1,rfl,h.2⟩));rintro _ rfl;try simp only[zL]);refine Zv ?_;refine TD.nil (fun w7 hr=> ?_);replace kp:=hr.q kp;replace kd:=hr.q kd;replace kp4:=hr.q kp4;replace kp7:=hr.q kp7;replace kob:=hr.q kob;have Cw:=Hi hr.mod;clear hr hdc ql zy;go_wp2_with fail;go_meet;exact⟨z,rfl,HZ,Cw⟩
 obtain⟨z,rfl,HZ,Cw⟩:=hcut;have kp4:=Cw.out.at0 kp4;clear kp kd kob kp7 k0 k1 k2;obtain⟨Tq,hPq,hmq,Fy,hnq,hlq⟩:=HPA.out wc Cw.out;have HQ:=Hi (Ai hPq (Ai hmq (Ai Fy (Ai hnq hlq))));clear hPq hmq Fy hnq hlq HPA
 go_upto_if 83 with fail
 go_cut []from 84 to 87 (fun wx=>Hid (∃s4 Tq,bY p d E s4 Tq wx∧Mod T w wx∧(∀a,Tq a→T a∨(w.heap.size≤a∧a<wx.heap.size))∧¬Tq p4∧(∀x,Tq x→x<wx.heap.size)∧giveP E j id y.ro.l y.cost s=jZ j id s4∧∀b4,s4.op[j]? =some b4→b4.length≤64)∧wx.heap[p4]? =some (.cells #[ptrV p] 114 (0,0)))
 case first=>
  cases z with
  |true=>
   have HGV:Hid (giveP E j id y.ro.l y.cost s=jZ j id (pushP j s3)):=Hi (by
    unfold giveP;rw[HGD.out,if_pos (HZ.out.1 rfl),H6.out.2.2.2.1])
   have HPO:Hid (∀b4,(pushP j s3).op[j]? =some b4→b4.length≤64):=Hi (fun b4 h4=>by
    have aj:(pushP j s3).op=s.op.set j []∨(pushP j s3).op=s.op:=by
     unfold pushP;rw[←H6.out.2.2.2.1];split
     ·exact .inr rfl
     ·exact .inl rfl
    rcases aj with h|h<;>rw[h]at h4
    ·rw[List.getElem?_set]at h4;split at h4
     ·split at h4<;>cases h4;simp
     ·exact absurd rfl ‹_›
    ·rw[HB.out.1]at h4;cases h4;exact HB.out.2.2.1)
   have HPU:Hid (Calls Tryz.prog 33 #[ptrV p,.int .i64 (j:Int)] wc fun e w'=>e= .returned (.tuple #[])∧Goes (bY p d E (pushP j s3)) Tq wc w'):=Hi (by
    have ij:=H6.out.2.2.2.1;exact CE HQ.out.1 HQ.out.2.2.2.2 hj (by rw[←ij];exact HB.out.1) (by rw[←ij];exact HB.out.2.1) HB.out.2.2.1 HB.out.2.2.2.1 HB.out.2.2.2.2.1 (by rw[←ij];exact HB.out.2.2.2.2.2.1))
   go_wp2_with fail;go_at_call 33;refine HPU.out.mono ?_;rintro e w8 ⟨rfl,T8,hP8,Gi,yp⟩;have kp4:=Gi.at kp4 HQ.out.2.2.2.1;have z7:=HQ.out.2.1.size;have z8:=Gi.size;have ay:Hid (∃s4 Tq,bY p d E s4 Tq w8∧Mod T w w8∧(∀a,Tq a→T a∨(w.heap.size≤a∧a<w8.heap.size))∧¬Tq p4∧(∀x,Tq x→x<w8.heap.size)∧giveP E j id y.ro.l y.cost s=jZ j id s4∧∀b4,s4.op[j]? =some b4→b4.length≤64):=Hi ⟨_,T8,hP8,HQ.out.2.1.then Gi (fun i hi ht=>(HQ.out.2.2.1 i ht).resolve_right (by omega)),fun a ha=>by
    rcases yp a ha with h|h
    ·rcases HQ.out.2.2.1 a h with h|h
     ·exact .inl h
     ·exact .inr (by omega)
    ·exact .inr (by omega),fun ht=>by
    rcases yp _ ht with h|h
    ·exact HQ.out.2.2.2.1 h
    ·have:=Fp.out;have:=H3.out.2.1.size;have:=H4.out.2.1.size;have:=H6.out.2.1.size;have:=Cw.out.size;omega,cQ HQ.out.2.2.2.2 Gi yp,HGV.out,HPO.out⟩
   clear hP8 Gi yp;go_wp2_with fail;go_meet;exact⟨ay,kp4⟩
  |false=>
   have ay:Hid (∃s4 Tq,bY p d E s4 Tq wc∧Mod T w wc∧(∀a,Tq a→T a∨(w.heap.size≤a∧a<wc.heap.size))∧¬Tq p4∧(∀x,Tq x→x<wc.heap.size)∧giveP E j id y.ro.l y.cost s=jZ j id s4∧∀b4,s4.op[j]? =some b4→b4.length≤64):=Hi ⟨s3,Tq,HQ.out.1,HQ.out.2.1,HQ.out.2.2.1,HQ.out.2.2.2.1,HQ.out.2.2.2.2,by
    unfold giveP;rw[HGD.out,if_neg (fun h=>by have:=HZ.out.2 h;cases this),H6.out.2.2.2.1],fun b4 h4=>by
    rw[←H6.out.2.2.2.1]at h4;have h5:s.op[j]? =some b4:=h4;rw[HB.out.1]at h5;cases h5;exact HB.out.2.2.1⟩
   go_wp2_with fail;go_meet;exact⟨ay,kp4⟩
 case rest=>
  obtain⟨hcut,kp4⟩:=hcut;obtain⟨s4,T9,⟨M9,qv,Gb,dq,mo⟩,mu,Fx,hn9,xv,xp,jw⟩:=hcut.out;obtain⟨b4,Ga⟩:∃b4,s4.op[j]? =some b4:=⟨_,aZb (by rw[dq.op];exact hj)⟩;obtain⟨Ts,h1,h2,h3⟩:=mo;have hP0:CeL M9.p (pac M9.X) 121 (Ts 0) wc:=h1 0 _ rfl;have Ih:CeL M9.ob (M9.V.take E.n).toArray 53 (Ts 14) wc:=h1 14 _ rfl;have yl:BatL E.n M9.V (s4.op++s4.gi.map Prod.snd) (Ts 15) wc:=h1 15 _ rfl;have kp:=hP0.2;have kob:=Ih.2;rw[qv]at kp;unfold pac at kp;rw[dq.ov]at kp;have ft:(s4.op++s4.gi.map Prod.snd)[j]? =some b4:=by rw[aZt (by rw[dq.op];exact hj)];exact Ga
  have re:=yl.1;rw[aZg,dq.op]at re;obtain⟨v,hv⟩:∃v,M9.V[j]? =some v:=⟨_,aZb (by omega)⟩;obtain⟨a4,c4,jv,_⟩:=((yl.2.1 j v b4 hv ft).1 hj).at gL;rw[jv]at hv;obtain⟨C4,vp⟩:∃C4,(M9.V.take E.n).toArray=C4:=⟨_,rfl⟩;have k0:C4[j]? =some (.slice a4 b4.length c4):=by
   rw[←vp,zA,aXx hj];exact hv
  have k1:∀h:j<C4.size,C4[j]= .slice a4 b4.length c4:=fun h=>aU k0 h;have k2:=(aZf.1 k0).1;rw[vp]at kob;have Ik:=jw b4 Ga;obtain⟨W,hW⟩:∃W,Ts 15=W:=⟨_,rfl⟩;rw[hW]at yl;have nW1:¬W p:=by rw[←hW,←qv];exact h3 0 15 _ (by decide) hP0.1
  have nW2:¬W p4:=fun hw=>hn9 (h2 15 _ (by rw[hW];exact hw));have nW3:¬W M9.ob:=by rw[←hW];exact h3 14 15 _ (by decide) Ih.1
  have H15:=Hi yl;have qz:Hid (∀i,W i→i<wc.heap.size):=Hi (fun i hi=>xv i (h2 15 i (by rw[hW];exact hi)));have H9:=Hi (Ai qv (Ai Gb (Ai dq (Ai h1 (Ai h2 (Ai h3 (Ai mu (Ai Fx (Ai xv (Ai Ga (Ai ft (Ai hv (Ai vp (Ai xp (Ai Ik hW)))))))))))))));clear hcut qv Gb dq h1 h2 h3 mu Fx xv Ga ft hv vp xp Ik hW hn9 jw hP0 Ih yl re jv;go_upto_region 7 with fail;have Lkp:=aA kp;have Lkp4:=aA kp4;have Lkob:=aA kob;refine iR (T0:=W) (K:=BatL E.n M9.V (s4.op++s4.gi.map Prod.snd)) (κ:=fun i=>[0,0,0,0,0,0,0,0,0,0,0,0,0,3,6,0,6].getD i 0) (υ:=fun i=>[[],[],[],[],[],[],[],[],[],[],[],[],[],[],[100],[],[]].getD i []) [0,1,2,3,4,5,6,7,8,9,10,11,12,13,14] [15,16] (by kernel_rfl) (by kernel_rfl) (BatL.good E.n M9.V (s4.op++s4.gi.map Prod.snd)).cl (H15.out) (qz.out) ?_;have gK:=BatL.good E.n M9.V (s4.op++s4.gi.map Prod.snd);(refine Zk ?_ (hy:=by intro wq ae;have kpq:=ae.atn kp;have kp4q:=ae.atn kp4;have kobq:=ae.atn kob;go_simp;try with_reducible rfl))
  iterate 2 refine Zg ?_
  (refine Zk ?_ (hy:=by intro wq ae;have kpq:=ae.atn kp;have kp4q:=ae.atn kp4;have kobq:=ae.atn kob;go_simp;try with_reducible rfl));refine Zg ?_;(refine Zk ?_ (hy:=by intro wq ae;have kpq:=ae.atn kp;have kp4q:=ae.atn kp4;have kobq:=ae.atn kob;go_simp;try with_reducible rfl))
  iterate 2 refine Zg ?_
  (refine Zk ?_ (hy:=by intro wq ae;have kpq:=ae.atn kp;have kp4q:=ae.atn kp4;have kobq:=ae.atn kob;go_simp;try with_reducible rfl))
  iterate 2 refine Zg ?_
  (refine Zk ?_ (hy:=by intro wq ae;have kpq:=ae.atn kp;have kp4q:=ae.atn kp4;have kobq:=ae.atn kob;go_simp;try with_reducible rfl));refine Zg ?_;(refine TG.bslice (by simp only[zK];rfl) rfl (by rfl) rfl rfl ?To (GD id) (fun p100 hp100 _=> ?n121);(case To=>(simp only[aYr,aZo,aYo,zM];(try rfl)));try simp only[zL]);(refine TG.appK (X:= ?X122) (Y:= ?Y122) (O9 E.n j M9.V (s4.op++s4.gi.map Prod.snd) (b4++[id])) (xH E.n j M9.V (s4.op++s4.gi.map Prod.snd) (b4++[id])) (by simp only[zK];rfl) rfl (by rfl) rfl ?Tp ?Tz (fun T wq kq ltq ae ub=> ?y122) ?n122;(case Tp=>simp only[zM];try rfl);(case Tz=>simp only[zM];try rfl);(case y122=>(have kpq:=ae.atn kp;have kp4q:=ae.atn kp4;have kobq:=ae.atn kob;have kp100:=ub.box (p:=p100) (by first|exact Bx.set_same _ _ _|(simp only[Bx.set_same];rfl)) (by first|decide|exact aZm.2 rfl|simp);dsimp only[Value.cells]at kp100;have nUp100:=(ub p100 _ (by first|exact Bx.set_same _ _ _|(simp only[Bx.set_same];rfl)) (by first|decide|exact aZm.2 rfl|simp)).1;exact LT kq hj H9.out.2.2.2.2.2.2.2.2.2.2.1 H9.out.2.2.2.2.2.2.2.2.2.2.2.1 kp100 H9.out.2.2.2.2.2.2.2.2.2.2.2.2.2.2.1 _));rintro v122 ⟨wI,TI,hI⟩;replace gK:=(xH E.n j M9.V (s4.op++s4.gi.map Prod.snd) (b4++[id])) v122;skip;(try clear hI TI wI);try simp only[zL]);refine TG.nil (fun w10 ⟨TR,hr⟩=> ?_);replace kp:=hr.mod.atn kp;replace kp4:=hr.mod.atn kp4;replace kob:=hr.mod.atn kob;obtain⟨gp100,nTp100,kp100⟩:=hr.b p100;clear gK;have Vm:=hr.k;obtain⟨qk,a6,c6,rfl⟩:=Vm;have Iv:Hid (Goes (BatL E.n (M9.V.set j (.slice a6 (b4++[id]).length c6)) ((s4.op++s4.gi.map Prod.snd).set j (b4++[id]))) W wc w10):=Hi ⟨TR,qk,hr.mod,fun a ha=>by
   rcases aYt a wc.heap.size with h|h
   ·exact .inl (hr.old a h ha)
   ·exact .inr ⟨h,hr.lt a ha⟩⟩
  obtain⟨n6,ju⟩:∃n6,(b4++[id]).length=n6:=⟨_,rfl⟩;rw[ju]at Iv⊢;have Uo:=Hi ju;clear qk hr ju kp100 kp kp4;refine Ze ?_;refine Zz ?_;refine ZS ?_;refine ZN kob fun wn kob mS=> ?_;have MS12:=Hi (Ai mS kob);clear mS kob;obtain⟨w12,Te⟩:∃w12,wn=w12:=⟨_,rfl⟩;rw[Te]at MS12⊢;clear Te;refine bodyPost_end (v:= .tuple #[]) (results_none rfl _ _ _) rfl ⟨rfl,?_⟩;obtain⟨qv,Gb,dq,h1,h2,h3,mu,Fx,xv,Ga,ft,hv,vp,xp,Ik,hW⟩:=H9.out;rw[xp];rw[←hW]at Iv;obtain⟨mS,kob⟩:=MS12.out;refine Goes.trans (K1:=bY p d E s4) mu Fx ?_;obtain⟨g1,g2⟩:=bW.step (parts.good M9 E s4) xv (i:=15) (by simp[parts]) h1 h2 h3 Iv.out;have At:=cQ xv g2 (T1:=Grow T9 wc w10) (fun _ h=>h);refine Goes.trans (K1:=bY p d E s4) g2 (T1:=Grow T9 wc w10) (fun _ h=>h) ?_;obtain⟨Ts2,f1,f2,f3⟩:=g1;have xy:CeL M9.ob (M9.V.take E.n).toArray 53 (Ts2 14) w10:=f1 14 _ rfl;have hV:C4.setIfInBounds j (Value.slice a6 n6 c6)=((M9.V.set j (Value.slice a6 n6 c6)).take E.n).toArray:=by
   rw[←vp,zF,List.take_set]
  rw[hV]at kob;obtain⟨k1,k2⟩:=bW.step (iG (parts.good M9 E s4) (BatL.good _ _ _) 15) At (i:=14) (by simp[parts]) f1 f2 f3 (K':=CeL M9.ob ((M9.V.set j (Value.slice a6 n6 c6)).take E.n).toArray 53) (Goes.into ⟨xy.1,kob⟩ (mS.mono (fun x _ hx=>by rw[hx];exact xy.1)));have aj:jZ j id s4= {s4 with op:=s4.op.set j (b4++[id])}:=by
   unfold jZ;rw[aZk,Ga];rfl
  rw[aj];refine⟨_,⟨{M9 with V:=M9.V.set j (Value.slice a6 n6 c6)},qv,Gb,?_,?_⟩,k2,fun _ h=>h⟩
  ·exact⟨dq.win,dq.bat,dq.fli,dq.n1,dq.n2,dq.fv,dq.cv,dq.sv,dq.ov,dq.fl,dq.co,dq.sp,by show(s4.op.set j (b4++[id])).length=E.n;rw[aZn];exact dq.op,dq.la,by show M9.G.map _=(s4.gi.map Prod.fst).zip ((M9.V.set j (Value.slice a6 n6 c6)).drop E.n);rw[List.drop_set_of_lt hj];exact dq.gw,dq.gl⟩
  ·rw[List.set_append_left _ _ (by rw[dq.op];exact hj)]at k1;exact k1
end
section
attribute [local go_sem↓] dE cD dD nB jX mX
attribute [local go_sem] bI dZ eT lO pK BQ kS
structure oW (p d:Nat) (E:Ev) (s:Pa) (T:Nat→Prop) (w:We) (Ti:Nat→Prop) (wx:We):Prop where
 pa:bY p d E s Ti wx
 m:Mod T w wx
 sub:∀a,Ti a→T a∨(w.heap.size≤a∧a<wx.heap.size)
 lt:∀a,Ti a→a<wx.heap.size
 tw:dP wx
 n0:¬Ti 0
theorem oW.go {p d:Nat} {E:Ev} {s s':Pa} {T Ti:Nat→Prop} {w wx wy:We} (h:oW p d E s T w Ti wx) (g:Goes (bY p d E s') Ti wx wy):∃Tj,oW p d E s' T w Tj wy∧Mod Ti wx wy∧∀a,Tj a→Ti a∨(wx.heap.size≤a∧a<wy.heap.size):=by
 obtain⟨Tj,g1,g2,g3⟩:=g;have z1:=h.m.size;have z2:=g2.size;refine⟨Tj,⟨g1,h.m.then g2 (fun i hi ht=>(h.sub i ht).resolve_right (by omega)),fun a ha=> ?_,cQ h.lt g2 g3,h.tw.mod g2 h.n0,fun h0=> ?_⟩,g2,g3⟩
 ·rcases g3 a ha with k|k
  ·rcases h.sub a k with k|k
   ·exact .inl k
   ·exact .inr (by omega)
  ·exact .inr (by omega)
 ·rcases g3 0 h0 with k|k
  ·exact h.n0 k
  ·obtain⟨C,U,fr,t1,_⟩:=h.tw;have:=aA t1;omega
theorem oW.mod0 {p d:Nat} {E:Ev} {s:Pa} {T Ti:Nat→Prop} {w wx wy:We} (h:oW p d E s T w Ti wx) (m:Mod (fun _=>False) wx wy):oW p d E s T w Ti wy:=
 ⟨(bY.good p d E s).cl _ _ _ h.pa (m.mono (fun _ _ h=>h.elim)),h.m.then0 m,fun a ha=>(h.sub a ha).imp id (fun k=>⟨k.1,aZd k.2 m.size⟩),fun a ha=>aZd (h.lt a ha) m.size,h.tw.mod0 m,h.n0⟩
theorem oW.goes {p d:Nat} {E:Ev} {s:Pa} {T Ti:Nat→Prop} {w wx:We} (h:oW p d E s T w Ti wx):Goes (bY p d E s) T w wx:=⟨Ti,h.pa,h.m,h.sub⟩
theorem oW.start {p d:Nat} {E:Ev} {s:Pa} {T:Nat→Prop} {w:We} (h:bY p d E s T w) (hT:∀a,T a→a<w.heap.size) (h0:¬T 0) (ht:dP w):oW p d E s T w T w:=⟨h,Mod.refl _ _,fun _ h=> .inl h,hT,ht,h0⟩
theorem MK {E:Ev} {s1:Pa} (h:eD E s1) {i:Nat} {y:Wi} (hy:(readyR s1.K)[i]? =some y):
  eD E (((readyR s1.K).take i).foldl (stepP E) s1)∧yL (((readyR s1.K).take i).foldl (stepP E) s1).K y∧((readyR s1.K).take (i+1)).foldl (stepP E) s1=stepP E (((readyR s1.K).take i).foldl (stepP E) s1) y:=by
 have key:∀(l:Wc) (s:Pa),eD E s→l.Nodup→(∀k∈l,yL s.K k)→eD E (l.foldl (stepP E) s)∧∀k,k∉l→yL s.K k→yL (l.foldl (stepP E) s).K k:=by
  intro l
  induction l with
  |nil=>exact fun s h _ _=>⟨h,fun k _ hk=>hk⟩
  |cons a l ih=>
   intro s h hn hr;rw[aYc]at hn;have ha:=hr a List.mem_cons_self;obtain⟨z,hz,hza⟩:=ha.mem;obtain⟨x,hx,_⟩:=h.it z hz;rw[hza]at hx;have e3:=(jE (E:=E) hx).2.2.1;obtain⟨h1,h2⟩:=ih (stepP E s a) (h.step ⟨z,hz,hza⟩) hn.2 (fun k hk=>by rw[e3];exact(hr k (aZp _ hk)).pop (fun e=>hn.1 (e▸hk)));refine⟨h1,fun k hk yg=>h2 k (fun hm=>hk (aZp _ hm)) ?_⟩;rw[e3];exact yg.pop (fun e=>hk (e▸List.mem_cons_self))
 have ct:=j8 h.kn;have Fa:readyR s1.K=(readyR s1.K).take i++y::(readyR s1.K).drop (i+1):=by
  have hi:=(aZa.1 hy).1;obtain⟨_,e⟩:=aZa.1 hy;rw[←e,List.getElem_cons_drop,aY9]
 have io:∀k∈(readyR s1.K).take i,yL s1.K k:=fun k hk=>pL (List.mem_of_mem_take hk);have Wq:y∉(readyR s1.K).take i:=fun hm=>by
  rw[Fa,aZ7]at ct;exact ct.2.2 y hm y List.mem_cons_self rfl
 obtain⟨h1,h2⟩:=key _ s1 h (ct.sublist (List.take_sublist _ _)) io;refine⟨h1,h2 y Wq (pL (aZi hy)),?_⟩;rw[aYa,hy,aXl];rfl
structure wG (R:Wc) (g o:Nat) (T:Nat→Prop) (w:We):Prop where
 sl:aS ic 1 w (some ⟨g,o,none⟩) R
 nt:¬T g
 lt:g<w.heap.size
theorem wG.go {R:Wc} {g o:Nat} {T T':Nat→Prop} {w w':We} (h:wG R g o T w) (m:Mod T w w') (hT:∀a,T' a→T a∨(w.heap.size≤a∧a<w'.heap.size)):wG R g o T' w':=
 ⟨h.sl.mod m (fun b o e=>by cases e;exact h.nt),fun ht=>by
  rcases hT g ht with k|k
  ·exact h.nt k
  ·have:=h.lt;omega,aZd h.lt m.size⟩
theorem wG.mod0 {R:Wc} {g o:Nat} {T:Nat→Prop} {w w':We} (h:wG R g o T w) (m:Mod (fun _=>False) w w'):wG R g o T w':=h.go (m.mono (fun _ _ h=>h.elim)) (fun _ h=> .inl h)
theorem AH {z z2:bT} (h:dM z=dM z2):b9 z.r=b9 z2.r:=by rw[←jK,h,jK]
theorem NU {p d:Nat} {E:Ev} {s:Pa} {T:Nat→Prop} {w:We} (h:bY p d E s T w) (hT:∀a,T a→a<w.heap.size) (h0:¬T 0) (gq:dP w) (ak:eD E s):
  Calls Tryz.prog 32 #[ptrV p] w fun e w'=>e= .returned (.bool (decide (readyR (fillP E s.D s).K≠[])))∧Goes (bY p d E (hZ E s)) T w w':=by
 have rx:=QL h hT ak.fi;have Jq:=ak.fill;have ud:hZ E s=(readyR (fillP E s.D s).K).foldl (stepP E) (fillP E s.D s):=rfl;rw[ud];generalize fillP E s.D s=s1 at *;have hG0:=oW.start h hT h0 gq;obtain⟨R,hR⟩:∃R,readyR s1.K=R:=⟨_,rfl⟩;rw[hR];have HF:=Hi (Ai rx (Ai Jq hG0));have hRL:R.length≤1000:=by
  have h1:=(j7 s1.K []).length_le;rw[aZs]at h1;have h2:=Jq.bl;have h3:(gT [] s1.K).length=R.length:=congrArg List.length hR;omega
 have xd:=Hi hR;clear rx Jq ud hG0 h hT h0 gq ak hR;go_enter Tryz.func32,Tryz.ntmps32;go_wp2_with fail;go_at_call 68;refine HF.out.1.mono ?_;rintro e w1 ⟨rfl,mr⟩;obtain⟨T1,Lm,pg,Cf⟩:=HF.out.2.2.go mr;clear mr pg Cf;obtain⟨M,hp,hd,aq,hS⟩:=Lm.pa;obtain⟨T0,⟨_,kp⟩,_⟩:=hS.get (i:=0) rfl;obtain⟨T3,g3,s3⟩:=hS.get (i:=3) rfl;have Gz:r9 M.X.g s1.q s1.K T3 w1:=⟨g3,fun a ha=>Lm.lt a (s3 a ha)⟩;have vf:=J1 Gz;rw[xd.out]at vf;rw[hp]at kp;unfold pac at kp;have HR:=Hi vf;have H1:=Hi Lm;clear Lm hp hd aq hS g3 s3 Gz vf;go_wp2_with fail;go_at_call 69;refine HR.out.mono ?_;rintro e w2 ⟨a,rfl,fy,-,gm,m2⟩;have Dj:=H1.out.mod0 m2;have Mk:∀b o,a=some ⟨b,o,none⟩→¬T1 b∧(aS ic 1 w2 a R):=fun b o e=>⟨fun ht=>by
  have k1:=gm _ e;have k2:=H1.out.lt b ht;have k1:w1.heap.size≤b:=k1;omega,fy⟩
 have Nn:Hid (∃Ti,oW p d E ((R.take 0).foldl (stepP E) s1) T w Ti w2∧aS ic 1 w2 a R∧∀b o,a=some ⟨b,o,none⟩→¬Ti b):=Hi ⟨T1,by rw[List.take_zero];exact Dj,fy,fun b o e=>(Mk b o e).1⟩;clear fy gm Dj Mk kp m2;go_wp2_with fail;go_loopw [20] (fun s20 ws=>∃i:Nat,i≤R.length∧s20= .int .i64 (i:Int)∧Hid (∃Ti,oW p d E ((R.take i).foldl (stepP E) s1) T w Ti ws∧aS ic 1 ws a R∧∀b o,a=some ⟨b,o,none⟩→¬Ti b)) (fun s20 _=>R.length-(intOf s20).toNat)
 case atStart=>exact⟨0,aYf _,rfl,Nn⟩
 case round=>
  obtain⟨i,hi,rfl,HI⟩:=hrel;by_cases hlt:i<R.length
  ·obtain⟨y,hy⟩:∃y,R[i]? =some y:=⟨_,aZb hlt⟩;obtain⟨Ti,hG,fy,Mk⟩:=HI.out;have Pi:=MK HF.out.2.1 (by rw[xd.out];exact hy);rw[xd.out]at Pi;obtain⟨ak,⟨X,x,Y,hK,Cr,hf⟩,ez⟩:=Pi;subst Cr;generalize(R.take i).foldl (stepP E) s1=si at hG ak hK ez;obtain⟨g,o,C,U,fr,e,kg,hx,dh⟩:=fy.block hy;subst e;simp only[aYp]at hx dh;have vv:C[o+i]? =some (.int .i64 x.id.toInt):=by
    have h1:=congrArg (fun A=>A[0]?) hx;rw[aYl]at h1;split at h1
    ·rw[aXz]at h1;exact h1
    ·omega
   have nh:∀h:o+i<C.size,C[o+i]= .int .i64 x.id.toInt:=fun h=>aU vv h;have hxK:x∈si.K:=by rw[hK];simp
   obtain⟨xi,ww,iz,Bv,dx⟩:=ak.it x hxK;have hkn:=ak.kn;have nu:popK si.K x.id=X++Y:=by rw[hK]at hkn⊢;exact rH hkn
   have In:chK si.K x.id=x.ch:=by rw[hK]at hkn⊢;exact DP hkn
   obtain⟨M,hp,hd,aq,hS⟩:=hG.pa;obtain⟨T0,⟨_,kp⟩,_⟩:=hS.get (i:=0) rfl;obtain⟨T3,g3,s3⟩:=hS.get (i:=3) rfl;have Gz:r9 M.X.g si.q si.K T3 wr:=⟨g3,fun a ha=>hG.lt a (s3 a ha)⟩;have zz:=GI Gz x hxK;obtain⟨s2,fe⟩:∃s2:Pa,s2= {si with K:=X++Y}:=⟨_,rfl⟩;have Bj:Calls Tryz.prog 71 #[ptrV M.X.g,.int .i64 x.id.toInt] wr fun e w'=>e= .returned (.int .i64 0)∧Goes (bW (parts M E s2)) Ti wr w':=by
    rw[fe];exact bW.callX (R:=fun e _=>e= .returned (.int .i64 0)) (parts.good M E si) hG.lt hS (i:=3) (K:=GL M.X.g si.q si.K) (K':=GL M.X.g si.q (X++Y)) rfl (fun T3 bd ht hg=>GL.pop (by rw[hK]at hg;exact hg) ht hf)
   rw[hp]at kp;unfold pac at kp;have HC:=Hi (Ai zz Bj);have HS:=Hi (Ai hG (Ai hp (Ai hd (Ai aq fe))));have HX:=Hi (Ai ww (Ai iz (Ai dx (Ai nu In))));have HN:=Hi (Ai ak (Ai ez (wG.mk (T:=Ti) fy (Mk g o rfl) (aA kg))));clear hG fy Mk ak hK hf ez dh hx hxK ww iz Bv dx hkn nu In hp hd aq hS g3 s3 Gz zz Bj fe hy;go_wp2_with fail;go_at_call 70;refine HC.out.1.mono ?_;rintro e w3 ⟨rfl,rfl⟩;go_wp2_with fail;go_at_call 71;refine HC.out.2.mono ?_;rintro e w4 ⟨rfl,mr⟩;obtain⟨hG,hp,hd,aq,fe⟩:=HS.out;obtain⟨ww,iz,dx,nu,In⟩:=HX.out;obtain⟨ak,ez,Ep⟩:=HN.out;have Vu:Goes (bY p d E s2) Ti w3 w4:=by
    obtain⟨T4,a1,a2,a3⟩:=mr;exact⟨T4,⟨M,hp,hd,aq.same (by rw[fe]) (by rw[fe]) (by rw[fe]) (by rw[fe]) (by rw[fe]),a1⟩,a2,a3⟩
   obtain⟨T4,Cd,m4,uq⟩:=hG.go Vu;have Gq:=Ep.go m4 uq;obtain⟨M4,od,Ma,hMk4,vt⟩:=Cd.pa;obtain⟨U0,⟨_,kpa⟩,_⟩:=vt.get (i:=0) rfl;obtain⟨U1,⟨_,kda⟩,_⟩:=vt.get (i:=1) rfl;obtain⟨U2,hB4,_⟩:=vt.get (i:=2) rfl;rw[od]at kpa;have Hf:s2.S[ix x.id]? =some (some xi):=by rw[fe];exact itS_get ww
   have Bv:ix x.id<4096:=by
    have h1:=(aZa.1 (itS_get ww)).1;have h2:=ak.fi.sl;omega
   have Pt:x.id.toInt=((ix x.id:Nat):Int):=by
    conv=>lhs;rw[dx]
    exact bR (by omega)
   have Mz:Hid (∀(wq:We) (TT:Nat→Prop),Mod (fun _=>False) w4 wq→Calls Tryz.prog 72 #[ptrV p,.int .i64 x.id.toInt] wq fun e w'=>∃v,e= .returned v∧Mod (fun _=>False) wq w'∧PF w4.heap.size xi v (Grow TT wq w') w'):=Hi (fun wq TT hq=>by
    rw[Pt];exact I0 w4.heap.size hq.size TT (hq.at0 kpa) (hq.at0 kda) ((BT.good _ _).cl _ _ _ hB4 (hq.mono (fun _ _ h=>h.elim))) Hf)
   have H4:=Hi (Ai Cd (Ai Gq Bv));clear hG hp hd aq fe ww iz dx nu In ak ez Ep Vu mr m4 uq Cd Gq od Ma hMk4 vt kpa kda hB4 Hf Bv Pt kp kg nh vv;go_upto_region 8 with fail;refine wp_gpass0 (T0:=fun _=>False) (K:=fun _ _=>True) (κ:=fun i=>[0,0,6,0,3,4].getD i 0) (υ:=fun _=>[]) [0,1,2,3,4,5] (by kernel_rfl) (by kernel_rfl) (aH.true).cl (trivial) (fun _ h=>h.elim) ?_;have gK:=aH.true
   iterate 2 refine Zg ?_
   (refine ZJ (PF w4.heap.size xi) (nT w4.heap.size xi) gK ?_ (s:=fun T wq kq ltq ae ub=>by exact Mz.out wq T ae);rintro v3 ⟨wI,TI,hI⟩;replace gK:=gK.and ((nT w4.heap.size xi) v3);(obtain⟨_,z,rfl,_⟩:=hI.k);(try clear hI TI wI);try simp only[zL]);refine Zg ?_;(refine TG.allocB (by simp only[zK];rfl) rfl (by rfl) rfl rfl alRdy (fun p8 yw _=> ?n5);try simp only[zL]);(refine TG.storeB (d:= ?d6) (T:= ?T6) (y:= ?y6) (p:= ?p6) (b:= ?b6) (v:= ?v6) (by simp only[zK];rfl) rfl (by rfl) ?yt ?hop6 ?hev6 ?hx6 ?hb6 ?Sw (fun w1 dz=> ?hy6) ?ju;(case yt=>rfl);(case hop6=>rfl);(case hev6=>(simp only[zM];(try rfl)));(case hx6=>simp only[zM];try rfl);(case hb6=>first|exact Bx.set_same _ _ _|(simp only[Bx.set_same];rfl));(case Sw=>exact⟨rfl,rfl⟩);(case hy6=>(go_simp;(try first|with_reducible rfl|(rw[setCell_blk dz];rfl))));try simp only[zL]);refine TG.nil (fun w5 ⟨TR,hr⟩=> ?_);obtain⟨gp8,nTp8,kp8⟩:=hr.b p8;clear gK;obtain⟨_,z2,hz,lv,il,lz⟩:=hr.k;rename_i Dr _ _;clear Dr;injection hz with hz
   have m5:=hr.mod;rw[AH hz]at kp8;have Fs:=H4.out.1.mod0 m5;have sh:=H4.out.2.1.mod0 m5;have mg:z2.r.ro.l=xi.r.ro:=congrArg (fun u:It=>u.r.ro) lv;have yk:z2.r.cost=xi.r.cost:=congrArg (fun u:It=>u.r.cost) lv;have Bl:xi.r.ro.length≤800:=HN.out.1.fi.ro (ix x.id) xi (itS_get HX.out.1);obtain⟨o1,qq⟩:∃o1,wkP E si xi.r.ro (chK si.K x.id)=o1:=⟨_,rfl⟩;have Uu:Hid (Calls Tryz.prog 73 #[ptrV p,.slice z2.r.ro.a z2.r.ro.l.length z2.r.ro.c,.int .i64 x.ch.toInt] w5 fun e w'=>e= .returned (.tuple #[.int .i64 ((o1.getD 0:Nat):Int),.bool o1.isSome])∧Mod (fun _=>False) w5 w'):=Hi (by
    have h1:=K4 Fs.pa Fs.lt Fs.tw z2.r.ro.a z2.r.ro.l z2.r.ro.c il.ok.ro (by rw[mg];omega) x.ch (by rw[HS.out.2.2.2.2];exact HN.out.1.hi);have h2:wkP E s2 z2.r.ro.l x.ch=o1:=by
     rw[mg,←HX.out.2.2.2.2,←qq,HS.out.2.2.2.2];rfl
    rw[h2]at h1;exact h1)
   have H5:=Hi (Ai Fs (Ai sh (Ai mg (Ai yk (Ai Bl (Ai qq (Ai il (aYb m5.size (aZq _)))))))));have HP8:Hid (w4.heap.size≤p8):=Hi gp8;clear hr hz lv il lz m5 Fs sh mg yk Bl qq gp8;go_wp2_with fail;go_at_call 73;refine Uu.out.mono ?_;rintro e w6 ⟨rfl,m6⟩;have kp8:=m6.at0 kp8;have H6:=Hi (Ai (H5.out.1.mod0 m6) (H5.out.2.1.mod0 m6));have uj:=Hi m6;clear m6 Uu Mz;cases o1 with
   |some j=>
    obtain⟨-,hj,xm,-⟩:=rS H5.out.2.2.2.2.2.1;obtain⟨xf,qe⟩:=H6.out;obtain⟨M6,rh,yt,oq,eu⟩:=xf.pa;obtain⟨U0,⟨_,kp⟩,_⟩:=eu.get (i:=0) rfl;obtain⟨U13,⟨_,es,cl,kh,Mh⟩,_⟩:=eu.get (i:=13) rfl;rw[rh]at kp;unfold pac at kp;have HMH:=Hi Mh;have HJ:=Hi (Ai hj xm);have HM:=Hi (Ai rh (Ai yt (Ai oq eu)));have Mm:p≠M6.X.hb:=aB kp kh (by simp);have hp8b:p8≠M6.X.hb:=aB kp8 kh (by simp);clear xf qe rh yt oq eu Mh hj xm;go_upto_region 11 with fail;have Lkp:=aA kp;have Lkp8:=aA kp8;have Lkh:=aA kh;refine ZP0 [0,0,0,1,0,0,5] ?_
    iterate 6 first|refine Zv ?_|refine Zd ?_
    refine Zi fun wE hr=> ?_;replace kp:=hr.mod.at0 kp;replace kp8:=hr.mod.at0 kp8;replace kh:=hr.mod.at0 kh;have mE:=hr.mod;obtain⟨es13,cl13,Jv,Mkh⟩:=HMH.out.update IT Tryz.underlying119 wE kh x.ch j;refine ZV (Jv) ?_;refine ZN kh fun w7 kh mS=> ?_;(try simp only[Array.setIfInBounds,zL]at kh);replace kp:=mS.at_ne kp (by omega);replace kp8:=mS.at_ne kp8 (by omega);have ms:Mod (fun i=>i=M6.X.hb) w6 w7:=(mE.mono (fun _ _ h=>h.elim)).trans mS;have Ul:=Hi (Ai kh Mkh);have zc:=Hi ms;clear mE mS ms kh Mkh Mm hp8b kp;obtain⟨s3,ij⟩:∃s3:Pa,s3= {s2 with hi:=put x.ch j s2.hi}:=⟨_,rfl⟩;have hgiv:Hid (∃T7,oW p d E s3 T w T7 w7∧wG R g o T7 w7∧Calls Tryz.prog 74 #[ptrV p,.int .i64 x.id.toInt,.int .i64 (j:Int),.agg (b9 z2.r)] w7 fun e w'=>e= .returned (.tuple #[])∧Goes (bY p d E (stepP E si x.id)) T7 w7 w'):=Hi (by
     obtain⟨xf,qe⟩:=H6.out;obtain⟨rh,yt,oq,eu⟩:=HM.out;obtain⟨ak,ez,Ep⟩:=HN.out;obtain⟨ww,iz,dx,nu,In⟩:=HX.out;obtain⟨Fs,sh,mg,yk,Bl,qq,il,_⟩:=H5.out;obtain⟨Ts,h1,h2,h3⟩:=eu;have qu:OG M6.X.hb s2.hi (Ts 13) w6:=h1 13 _ rfl;obtain⟨k1,k2⟩:=bW.step (parts.good M6 E s2) xf.lt (i:=13) (by simp[parts]) h1 h2 h3 (K':=OG M6.X.hb (put x.ch j s2.hi)) (Goes.into ⟨qu.1,_,_,Ul.out.1,Ul.out.2⟩ (zc.out.mono (fun a _ ha=>by rw[ha];exact qu.1)));have hg7:Goes (bY p d E s3) T4 w6 w7:=by
      rw[ij];exact⟨_,⟨M6,rh,yt,oq.same rfl rfl rfl rfl rfl,k1⟩,k2,fun _ h=>h⟩
     obtain⟨T7,vq,m7,Dp⟩:=xf.go hg7;refine⟨T7,vq,qe.go m7 Dp,?_⟩;have te:s3= {si with K:=popK si.K x.id,hi:=put (chK si.K x.id) j si.hi}:=by rw[ij,HS.out.2.2.2.2,nu,In]
     have pz:j<si.op.length:=by rw[ak.lo];exact HJ.out.1
     have tx:j<si.la.length:=by rw[ak.ll];exact HJ.out.1
     have ef:stepP E si x.id=giveP E j x.id z2.r.ro.l z2.r.cost s3:=by
      unfold stepP;rw[ww];dsimp only;rw[qq];dsimp only;rw[mg,yk,te]
     rw[ef];have ham:=m7.size;have Wp:=aXt pz;have Az:=aXt tx;have jw:=ak.ol _ Wp;have cq:=ak.b2;have hbq:=ak.bq _ Az;have Ch:=ak.bb _ Az;have vl:=il.ok.ro;have hm67:Mod (fun i=>i=M6.X.hb) w5 w7:=(uj.out.mono (fun _ _ h=>h.elim)).trans zc.out;have hzT:∀b2 o2,z2.r.ro.a=some ⟨b2,o2,none⟩→¬T7 b2∧b2≠M6.X.hb:=fun b2 o2 e=>by
      have r1:=(il.inn.ro b2 o2 e).1;have r2:=(il.inn.ro b2 o2 e).2;have r3:=uj.out.size;have hl4:=H4.out.1.lt;have nb:b2≠M6.X.hb:=fun e2=>by
       have:=hl4 _ (h2 13 _ qu.1|>fun h=>by exact h);omega
      refine⟨fun ht=> ?_,nb⟩;rcases Dp b2 ht with k|k
      ·have:=hl4 b2 k;omega
      ·omega
     refine QO vq.pa vq.lt HJ.out.1 x.id (y:=z2.r) (vl.mod hm67 (fun b2 o2 e=>(hzT b2 o2 e).2)) (fun b2 o2 e=>(hzT b2 o2 e).1) (by rw[mg];omega) (by rw[mg,te];exact HJ.out.2) (by rw[te];have:=ak.bl;show si.L.length≤_;omega) (b:=si.op[j]) (by rw[te];exact aZb pz) (q:=si.la[j]) (by rw[te];exact aZb tx) (by omega) (by omega) (by omega) (by rw[te];have:=ak.bg;show si.gi.length≤_;omega) (fun k hk=> ?_) (by rw[te];have:=ak.bf j;show si.fl.getD j 0≤_;omega);obtain⟨xk,q1,q2,q3⟩:=ak.oi _ Wp k hk;have q4:=itS_get q1;have q5:=(aZa.1 q4).1;have q6:=ak.fi.sl;have q7:=ak.fi.ro _ _ q4;exact⟨xk,by rw[te];exact q4,q3,by omega,by omega⟩)
    obtain⟨T7,vq,Gr,ao⟩:=hgiv.out;have Mv:=Hi (Ai vq (Ai Gr ao));clear vq Gr ao;go_wp2_with fail;go_at_call 74;refine Mv.out.2.2.mono ?_;rintro e w8 ⟨rfl,mr⟩;have ay:Hid (∃Ti,oW p d E ((R.take (i+1)).foldl (stepP E) s1) T w Ti w8∧aS ic 1 w8 (some ⟨g,o,none⟩) R∧∀b o',some (⟨g,o,none⟩:Addr)=some ⟨b,o',none⟩→¬Ti b):=Hi (by
     obtain⟨T8,zg,m8,yp⟩:=Mv.out.1.go mr;have kk:=Mv.out.2.1.go m8 yp;rw[HN.out.2.1];exact⟨T8,zg,kk.sl,fun b o' e=>by cases e;exact kk.nt⟩)
    clear mr;go_wp2_with fail;go_roundw
    case rel=>exact⟨i+1,by omega,by go_num,ay⟩
    case measure=>simp[intOf];omega
   |none=>
    obtain⟨xf,qe⟩:=H6.out;obtain⟨M6,rh,yt,oq,eu⟩:=xf.pa;obtain⟨U0,⟨_,kp⟩,_⟩:=eu.get (i:=0) rfl;rw[rh]at kp;unfold pac at kp;obtain⟨s3,ij⟩:∃s3:Pa,s3= {s2 with al:=si.al++xi.r.ro}:=⟨_,rfl⟩;have HM:=Hi (Ai rh (Ai yt (Ai oq eu)));have Cb:=Hi ij;clear xf qe rh yt oq eu ij;go_upto_region 13 with fail;have Lkp:=aA kp;have Lkp8:=aA kp8;refine ZP [0,0,0,1,0,1,5] ?_
    iterate 6 first|refine Zv ?_|refine Zd ?_
    refine Zi fun w7 hr=> ?_;replace kp:=hr.q kp;replace kp8:=hr.q kp8;have M7:=Hi hr.mod;clear hr;have ib:Calls Tryz.prog 75 #[ptrV M6.X.ab,.slice z2.r.ro.a z2.r.ro.l.length z2.r.ro.c] w7 fun e w'=>e= .returned (.tuple #[])∧Goes (bW (parts M6 E s3)) T4 w7 w':=by
     obtain⟨xf,qe⟩:=H6.out;obtain⟨rh,yt,oq,eu⟩:=HM.out;obtain⟨Fs,sh,mg,yk,Bl,qq,il,_⟩:=H5.out;have Vk:s2.al=si.al:=by rw[HS.out.2.2.2.2]
     have hlt:∀a,T4 a→a<w7.heap.size:=fun a ha=>aZd (xf.lt a ha) M7.out.size;have Fg:aV w7 z2.r.ro.a z2.r.ro.l:=(il.ok.ro.mod0 uj.out).mod0 M7.out;rw[Cb.out,←mg,←Vk];exact bW.callX (R:=fun e _=>e= .returned (.tuple #[])) (parts.good M6 E s2) hlt (eu.mod0 (parts.good M6 E s2) M7.out) (i:=9) (K:=iT M6.X.ab (addB [] s2.al)) (K':=iT M6.X.ab (addB [] (s2.al++z2.r.ro.l))) rfl (fun T3 bd ht hg=>iT.add hg z2.r.ro.a z2.r.ro.l z2.r.ro.c Fg (by rw[mg];omega))
    (refine bJ (by simp only[zK];rfl) (by rfl) ?y21 ib (fun wn hP=> ?n21);(case y21=>(go_simp;(try(first|with_reducible rfl|(constructor<;>with_reducible rfl)))));try simp only[zL]);refine TE.nil ?_;clear ib kp kp8;obtain⟨w8,Tg⟩:∃w8,wn=w8:=⟨_,rfl⟩;rw[Tg]at hP⊢;clear Tg;have Vv:Goes (bY p d E s3) T4 w7 w8:=by
     obtain⟨rh,yt,oq,eu⟩:=HM.out;obtain⟨T8,a1,a2,a3⟩:=hP;rw[Cb.out]at a1⊢;exact⟨T8,⟨M6,rh,yt,oq.same rfl rfl rfl rfl rfl,a1⟩,a2,a3⟩
    obtain⟨T8,zg,m8,yp⟩:=(H6.out.1.mod0 M7.out).go Vv;have kk:=(H6.out.2.mod0 M7.out).go m8 yp;obtain⟨M8,yw,Oz,fq,Fw⟩:=zg.pa;obtain⟨U0,⟨_,kp⟩,_⟩:=Fw.get (i:=0) rfl;rw[yw]at kp;unfold pac at kp;have H8:=Hi (Ai zg (Ai kk (Ai yw (Ai Oz (Ai fq Fw)))));clear zg kk yw Oz fq Fw Vv hP m8 yp;go_upto_region 14 with fail;have Lkp:=aA kp;refine ZP0 [0,0,0,0,0,1,0,3,5,0,0,0,6] ?_
    iterate 7 first|refine Zv ?_|refine Zd ?_
    refine Zy (GD x.id) fun p77 hp77=> ?_;refine Zi fun w9 hr=> ?_;replace kp:=hr.q kp;obtain⟨gp77,kp77⟩:=hr.b p77;have M9:=Hi hr.mod;clear hr;have qj:∃v6 w6,(Builtin.append_ #[53,53] 53 #[M8.X.av,.slice (some ⟨p77,0,none⟩) 1 1]).run Tryz.prog w9= .ok v6 w6∧Goes (bW ((parts M8 E s3).set 17 (RowL ic 1 3 v6 (s3.sd++[x.id])))) T8 w9 w6∧∃a6 n6 c6,v6= .slice a6 n6 c6:=by
     obtain⟨zg,kk,yw,Oz,fq,Fw⟩:=H8.out;have hG:=parts.good M8 E s3;obtain⟨Ts,h1,h2,h3⟩:=Fw.mod0 hG M9.out;have yc:RowL ic 1 3 M8.X.av s3.sd (Ts 17) w9:=h1 17 _ rfl;have wl:s3.sd.length≤9000:=by
      have:=HN.out.1.bs;rw[Cb.out,HS.out.2.2.2.2];show si.sd.length≤_;omega
     obtain⟨v6,w6,az,hg⟩:=RowL.app gL yc (q:=[x.id]) (c:=1) (aS.one kp77 x.id rfl rfl) (by simp only[aZx];omega) (by decide) 53;obtain⟨k1,k2⟩:=bW.step hG (fun a ha=>aZd (zg.lt a ha) M9.out.size) (i:=17) (by simp[parts]) h1 h2 h3 hg;obtain⟨T9,bk,_⟩:=id hg;obtain⟨a6,c6,e6,_⟩:=bk.1.at gL;exact⟨v6,w6,az,⟨_,k1,k2,fun _ h=>h⟩,a6,_,c6,e6⟩
    obtain⟨v6,w10,az,hg10,a6,n6,c6,rfl⟩:=qj;obtain⟨T10,zm,Aw,zo⟩:=hg10;obtain⟨U7,⟨_,kp10⟩,_⟩:=zm.get (i:=0) rfl;rw[H8.out.2.2.1]at kp10;unfold pac at kp10;have H10:=Hi (Ai zm (Ai Aw zo));clear zm Aw zo kp kp77;refine ZA az ?_;refine Ze ?_;refine Ze ?_;refine Ze ?_;refine Zz ?_;refine ZS ?_;refine ZN kp10 fun wn kp10 mS=> ?_;(try simp only[Array.setIfInBounds,zL]at kp10);clear az;have MS11:=Hi (Ai mS kp10);clear mS kp10;obtain⟨w11,Bu⟩:∃w11,wn=w11:=⟨_,rfl⟩;rw[Bu]at MS11⊢;clear Bu;have ay:Hid (∃Ti,oW p d E ((R.take (i+1)).foldl (stepP E) s1) T w Ti w11∧aS ic 1 w11 (some ⟨g,o,none⟩) R∧∀b o',some (⟨g,o,none⟩:Addr)=some ⟨b,o',none⟩→¬Ti b):=Hi (by
     obtain⟨zg,kk,yw,Oz,fq,Fw⟩:=H8.out;obtain⟨zm,Aw,zo⟩:=H10.out;obtain⟨ak,ez,Ep⟩:=HN.out;obtain⟨ww,iz,dx,nu,In⟩:=HX.out;obtain⟨Fs,sh,mg,yk,Bl,qq,il,_⟩:=H5.out;have Ia:=zg.mod0 M9.out;have At:=cQ Ia.lt Aw zo;have hGp:∀K∈((parts M8 E s3).set 17 (RowL ic 1 3 (.slice a6 n6 c6) (s3.sd++[x.id]))),aH K:=iG (parts.good M8 E s3) (RowL.good _ _ _ _ _) 17;obtain⟨Ts,h1,h2,h3⟩:=zm;have jl:CeL M8.p (pac M8.X) 121 (Ts 0) w10:=h1 0 _ rfl;obtain⟨k1,k2⟩:=bW.step hGp At (i:=0) (by simp[parts]) h1 h2 h3 (K':=CeL M8.p (pac {M8.X with av:= .slice a6 n6 c6}) 121) (Goes.into ⟨jl.1,by rw[yw];unfold pac;exact MS11.out.2⟩ (MS11.out.1.mono (fun a _ ha=>by rw[ha,←yw];exact jl.1)));have ef:stepP E si x.id= {s3 with sd:=s3.sd++[x.id]}:=by
      unfold stepP;rw[ww];dsimp only;rw[qq];dsimp only;rw[Cb.out,HS.out.2.2.2.2,nu]
     have mr:Goes (bY p d E (stepP E si x.id)) T8 w9 w11:=by
      rw[ef];refine Goes.trans (K1:=bY p d E s3) Aw zo ?_;exact⟨_,⟨{M8 with X:= {M8.X with av:= .slice a6 n6 c6}},yw,Oz,⟨fq.win,fq.bat,fq.fli,fq.n1,fq.n2,fq.fv,fq.cv,fq.sv,fq.ov,fq.fl,fq.co,fq.sp,fq.op,fq.la,fq.gw,fq.gl⟩,k1⟩,k2,fun _ h=>h⟩
     obtain⟨Tf,Vg,mf,hTf⟩:=Ia.go mr;have Gs:=(kk.mod0 M9.out).go mf hTf;rw[ez];exact⟨Tf,Vg,Gs.sl,fun b o' e=>by cases e;exact Gs.nt⟩)
    go_wp2_with fail;go_roundw
    case rel=>exact⟨i+1,by omega,by go_num,ay⟩
    case measure=>simp[intOf];omega
  ·obtain rfl:i=R.length:=by omega
   have Yg:Hid (decide (0<(R.length:Int))=decide (R≠[])):=Hi (by
    cases R with
    |nil=>rfl
    |cons r R=>simp)
   have HE:Hid (Goes (bY p d E (R.foldl (stepP E) s1)) T w wr):=Hi (by
    obtain⟨Ti,hG,_⟩:=HI.out;rw[aY5]at hG;exact hG.goes)
   go_wp2_with fail;go_ret;refine⟨?_,HE.out⟩;rw[←Yg.out];simp
end
theorem ID:oM Tryz.prog 22 129 qT 1 8 where
 u:=Tryz.underlying22
 info:=by
  obtain⟨i0,hi,cy,bj,bp⟩:=info_parts (show(Tryz.prog.info? 129).map (fun i=>(i.zero,i.size,i.bytes))=some (some (fv 0),1,8)by kernel_rfl);exact⟨i0,_,hi,cy,bj,bp,rfl⟩
 pos:=by omega
 size:=fun _=>rfl
 one:=fun x u hu=>by
  simp only[qT,aZc,aZe,or_false]at hu;rcases hu with rfl<;>rfl
def BD (b:Bool):Wa:= #[.bool b]
theorem UO:oM Tryz.prog 26 4 BD 1 1 where
 u:=Tryz.underlying26
 info:=by
  obtain⟨i0,hi,cy,bj,bp⟩:=info_parts (show(Tryz.prog.info? 4).map (fun i=>(i.zero,i.size,i.bytes))=some (some (.bool false),1,1)by kernel_rfl);exact⟨i0,_,hi,cy,bj,bp,rfl⟩
 pos:=by omega
 size:=fun _=>rfl
 one:=fun x u hu=>by
  simp only[BD,aZc,aZe,or_false]at hu;rcases hu with rfl<;>rfl
theorem PZ (w:We):(Instr.buildSlice 22 0 #[]).run Tryz.prog w= .ok (.slice (some ⟨w.heap.size,0,none⟩) 0 0) (w.alloc (.cells #[] 129)):=by kernel_rfl
theorem G5 (w:We) (a:Wb) (n c:Nat):(binOp .eql 22 (.slice a n c) (.slice none 0 0)).run Tryz.prog w= .ok (.bool a.isNone) w:=by
 cases a<;>kernel_rfl
theorem yX {w:We} {a:Wb} {l:Wd} {c:Nat} (hl:aS qT 1 w a l) (ag:l.length≤1000000):Calls Tryz.prog 39 #[.slice a l.length c] w fun e w'=>∃v,e= .returned v∧aE qT 1 129 w' w.heap.size v l∧Mod (fun _=>False) w w':=by
 have he:=G5;cases a with
 |none=>
  obtain rfl:l=[]:=by
   rcases hl with h|⟨_,_,_,_,_,h,_⟩
   ·exact h
   ·cases h
  go_enter Tryz.func39,Tryz.ntmps39;go_wp2_with fail;go_ret;exact⟨_,rfl,aE.nil _ _,Mod.refl _ _⟩
 |some p=>
  have HL:=Hi hl;have ep:=PZ;generalize bw:l.length=ll at *;have cr:=Hi bw;clear hl bw;go_enter Tryz.func39,Tryz.ntmps39;go_upto_region 3 with fail;refine ZP0 [3,0,5,0] ?_;refine Zy ep fun p5 ip=> ?_;refine Zv ?_;refine Zi fun w1 hr=> ?_;obtain⟨gp5,kp5⟩:=hr.b p5;have m1:=hr.mod;clear hr;obtain⟨v3,w6,az,im,m6,ju⟩:=aE.append ID (c:=c) (mM (f:=qT) (n:=1) gp5 kp5) (HL.out.mod0 m1) (by simp;have:=cr.out;omega) (by decide) m1.size 22;have mF:Mod (fun _=>False) w w6:=m1.then m6 (fun i hi e=>by
   have e2:p5=i:=aZz e;omega)
  rw[cr.out]at az;have HO:=Hi im;clear ju m6 im;refine ZA az ?_;refine Ze ?_;refine TE.nil ?_;go_wp2_with fail;go_ret;exact⟨_,rfl,HO.out,mF⟩
theorem PY (w:We):(Instr.buildSlice 26 0 #[]).run Tryz.prog w= .ok (.slice (some ⟨w.heap.size,0,none⟩) 0 0) (w.alloc (.cells #[] 4)):=by kernel_rfl
theorem G4 (w:We) (a:Wb) (n c:Nat):(binOp .eql 26 (.slice a n c) (.slice none 0 0)).run Tryz.prog w= .ok (.bool a.isNone) w:=by
 cases a<;>kernel_rfl
theorem yW {w:We} {a:Wb} {l:List Bool} {c:Nat} (hl:aS BD 1 w a l) (ag:l.length≤1000000):Calls Tryz.prog 40 #[.slice a l.length c] w fun e w'=>∃v,e= .returned v∧aE BD 1 4 w' w.heap.size v l∧Mod (fun _=>False) w w':=by
 have he:=G4;cases a with
 |none=>
  obtain rfl:l=[]:=by
   rcases hl with h|⟨_,_,_,_,_,h,_⟩
   ·exact h
   ·cases h
  go_enter Tryz.func40,Tryz.ntmps40;go_wp2_with fail;go_ret;exact⟨_,rfl,aE.nil _ _,Mod.refl _ _⟩
 |some p=>
  have HL:=Hi hl;have ep:=PY;generalize bw:l.length=ll at *;have cr:=Hi bw;clear hl bw;go_enter Tryz.func40,Tryz.ntmps40;go_upto_region 3 with fail;refine ZP0 [3,0,5,0] ?_;refine Zy ep fun p5 ip=> ?_;refine Zv ?_;refine Zi fun w1 hr=> ?_;obtain⟨gp5,kp5⟩:=hr.b p5;have m1:=hr.mod;clear hr;obtain⟨v3,w6,az,im,m6,ju⟩:=aE.append UO (c:=c) (mM (f:=BD) (n:=1) gp5 kp5) (HL.out.mod0 m1) (by simp;have:=cr.out;omega) (by decide) m1.size 26;have mF:Mod (fun _=>False) w w6:=m1.then m6 (fun i hi e=>by
   have e2:p5=i:=aZz e;omega)
  rw[cr.out]at az;have HO:=Hi im;clear ju m6 im;refine ZA az ?_;refine Ze ?_;refine TE.nil ?_;go_wp2_with fail;go_ret;exact⟨_,rfl,HO.out,mF⟩
theorem VR (n:Nat) (hn:n≤100000) (w:We):(Instr.makeSlice 67 (.int .i64 (n:Int)) (.int .i64 (n:Int))).run Tryz.prog w= .ok (.slice (some ⟨w.heap.size,0,none⟩) n n) (w.alloc (.cells (List.replicate n (.int .u64 0)).toArray 23)):=by
 obtain⟨i0,hi,cy,bj,bp⟩:=info_parts (show(Tryz.prog.info? 23).map (fun i=>(i.zero,i.size,i.bytes))=some (some (.int .u64 0),1,8)by kernel_rfl);have:=run_make (P:=Tryz.prog) w 67 23 i0 _ Tryz.underlying67 hi cy .i64 .i64 (n:Int) (n:Int) (by omega) (by omega) (by rw[bp];omega) (by omega);have hc:madeCells #[.int .u64 0] n=(List.replicate n (.int .u64 0)).toArray:=by
  apply aZ1.1;rw[toList_madeCells_one]
 rw[bj,aYp]at this;simpa[Value.cells,hc] using this
theorem VQ (n:Nat) (hn:n≤100000) (w:We):(Instr.makeSlice 102 (.int .i64 (n:Int)) (.int .i64 (n:Int))).run Tryz.prog w= .ok (.slice (some ⟨w.heap.size,0,none⟩) n n) (w.alloc (.cells (List.replicate n (.slice none 0 0)).toArray 53)):=by
 obtain⟨i0,hi,cy,bj,bp⟩:=info_parts (show(Tryz.prog.info? 53).map (fun i=>(i.zero,i.size,i.bytes))=some (some (.slice none 0 0),1,24)by kernel_rfl);have:=run_make (P:=Tryz.prog) w 102 53 i0 _ Tryz.underlying102 hi cy .i64 .i64 (n:Int) (n:Int) (by omega) (by omega) (by rw[bp];omega) (by omega);have hc:madeCells #[.slice none 0 0] n=(List.replicate n (.slice none 0 0)).toArray:=by
  apply aZ1.1;rw[toList_madeCells_one]
 rw[bj,aYp]at this;simpa[Value.cells,hc] using this
structure Dm where
 D:Dk
 sb:Nat
 fb:Nat
 cb:Nat
 sc:Nat
 sx:List Wg
def dparts (X:Dm) (d:Nat) (E:Ev) (s:Pa):List aK:=
 [CeL d (iE X.D) 69,BT X.D.b s.S,tT X.D.q E.H,vZ X.D.sn E.N,fO X.D.t E.n s.L,nE X.D.ln E.n s.la,CeL X.fb (s.fl.map natV).toArray 3,CeL X.cb (s.co.map u64v).toArray 23,CeL X.sb (E.spd.map fv++X.sx).toArray 129]
structure OF (X:Dm) (E:Ev) (s:Pa):Prop where
 win:X.D.win=E.win
 bat:X.D.bat=E.bat
 fli:X.D.fli=E.fli
 n1:1≤E.n
 n2:E.n≤64
 fv:X.D.fv= .slice (some ⟨X.fb,0,none⟩) E.n E.n
 cv:X.D.cv= .slice (some ⟨X.cb,0,none⟩) E.n E.n
 sv:X.D.sp= .slice (some ⟨X.sb,0,none⟩) E.n X.sc
 fl:s.fl.length=E.n
 co:s.co.length=E.n
 sp:E.spd.length=E.n
 la:s.la.length=E.n
structure wB (X:Dm) (E:Ev) (s:Pa):Prop extends OF X E s where
 cf:∃(hold:Int) (oa:Wb) (on oc:Nat),X.D.hold= .int .i64 hold∧X.D.own= .slice oa on oc∧cfB E.n X.D.room E.win E.bat E.fli hold on=true
def OE (d:Nat) (E:Ev) (s:Pa):aK:=fun T w=>∃X:Dm,OF X E s∧bW (dparts X d E s) T w
def DA (d:Nat) (E:Ev) (s:Pa):aK:=fun T w=>∃X:Dm,wB X E s∧bW (dparts X d E s) T w
theorem dparts.good (X:Dm) (d:Nat) (E:Ev) (s:Pa):∀K∈dparts X d E s,aH K:=by
 intro K hK;simp only[dparts,aZc,aZe,or_false]at hK;rcases hK with rfl|rfl|rfl|rfl|rfl|rfl|rfl|rfl|rfl
 ·exact CeL.good _ _ _
 ·exact BT.good _ _
 ·exact tT.good _ _
 ·exact vZ.good _ _
 ·exact fO.good _ _ _
 ·exact nE.good _ _ _
 ·exact CeL.good _ _ _
 ·exact CeL.good _ _ _
 ·exact CeL.good _ _ _
theorem DA.good (d:Nat) (E:Ev) (s:Pa):aH (DA d E s) where
 cl:=fun T w w' ⟨M,h1,h4⟩ hm=>⟨M,h1,(bW.good (dparts.good M d E s)).cl _ _ _ h4 hm⟩
 gr:=fun T T' w hT ⟨M,h1,h4⟩=>⟨M,h1,(bW.good (dparts.good M d E s)).gr _ _ _ hT h4⟩
theorem bW.nil (w:We):bW [] (fun _=>False) w:=⟨fun _ _=>False,fun i K h=>(by cases h),fun _ _ h=>h,fun _ _ _ _ h=>h.elim⟩
theorem bW.add {Ks:List aK} {K:aK} {T T':Nat→Prop} {w:We} (h:bW Ks T w) (hK:K T' w) (hd:∀a,T' a→¬T a):bW (K::Ks) (fun a=>T a∨T' a) w:=by
 obtain⟨Ts,h1,h2,h3⟩:=h;refine⟨fun i=>match i with|0=>T'|i+1=>Ts i,fun i L hL=> ?_,fun i a ha=> ?_,fun i j a ig hi hj=> ?_⟩
 ·cases i with
  |zero=>cases hL;exact hK
  |succ i=>exact h1 i L hL
 ·cases i with
  |zero=>exact .inr ha
  |succ i=>exact .inl (h2 i a ha)
 ·cases i with
  |zero=>
   cases j with
   |zero=>exact ig rfl
   |succ j=>exact hd a hi (h2 j a hj)
  |succ i=>
   cases j with
   |zero=>exact hd a hj (h2 i a hi)
   |succ j=>exact h3 i j a (fun e=>ig (by rw[e])) hi hj
theorem bW.pick {Ks Ks':List aK} (f:Nat→Nat) (hf:∀i j,i<Ks'.length→j<Ks'.length→f i=f j→i=j) (h:∀(i:Nat) (K:aK),Ks'[i]? =some K→Ks[f i]? =some K) {T:Nat→Prop} {w:We} (hS:bW Ks T w):bW Ks' T w:=by
 obtain⟨Ts,h1,h2,h3⟩:=hS;refine⟨fun i a=>i<Ks'.length∧Ts (f i) a,fun i K hK=> ?_,fun i a ha=>h2 _ a ha.2,fun i j a ig hi hj=>h3 _ _ a (fun e=>ig (hf i j hi.1 hj.1 e)) hi.2 hj.2⟩;have hl:=(aZa.1 hK).1
 have:(fun a=>i<Ks'.length∧Ts (f i) a)=Ts (f i):=by
  funext a;exact propext ⟨fun h=>h.2,fun h=>⟨hl,h⟩⟩
 show K (fun a=>i<Ks'.length∧Ts (f i) a) w;rw[this];exact h1 _ _ (h i K hK)
def LN (l:Wd) (v:Wg):aK:=RowL qT 1 129 v l
theorem YD {w:We} {a:Wb} {l:Wd} {c:Nat} (T:Nat→Prop) (hl:aS qT 1 w a l) (ag:l.length≤1000000):Calls Tryz.prog 39 #[.slice a l.length c] w fun e w'=>∃v,e= .returned v∧Mod (fun _=>False) w w'∧LN l v (Grow T w w') w':=
 (yX hl ag).mono fun e w' h=>by
  obtain⟨v,h1,h2,h3⟩:=h;exact⟨v,h1,h3,⟨h2.1,by
   rcases h2.2 with h|⟨g,cap,cur,e,_,hg,r⟩
   ·exact .inl h
   ·exact .inr ⟨g,cap,cur,e,aYf _,hg,r⟩⟩,fun g hg=> .inr (h2.lt g hg)⟩
def PA (n:Nat) (v:Wg):aK:=fun _ _=>∃a c,v= .slice a n c
theorem XU {w:We} {a:Wb} {l:List Bool} {c:Nat} (T:Nat→Prop) (hl:aS BD 1 w a l) (ag:l.length≤1000000):Calls Tryz.prog 40 #[.slice a l.length c] w fun e w'=>∃v,e= .returned v∧Mod (fun _=>False) w w'∧PA l.length v (Grow T w w') w':=
 (yW hl ag).mono fun e w' h=>by
  obtain⟨v,h1,h2,h3⟩:=h;obtain⟨a2,c2,e2,_⟩:=h2.at UO;exact⟨v,h1,h3,a2,c2,e2⟩
theorem BR (n:Nat) (v:Wg):aH (PA n v):=⟨fun _ _ _ h _=>h,fun _ _ _ _ h=>h⟩
def XF (v:Wg):aK:=fun T w=>∃q,v=ptrV q∧tT q [] T w
theorem IN (v:Wg):aH (XF v):=aH.ex fun q=>(aH.pure _).and (tT.good _ _)
def XG (lo:Nat) (v:Wg):aK:=fun T w=>∃n b,v=ptrV n∧lo<b∧vZ n [] (fun a=>T a∧b≤a) w
theorem IP (lo:Nat) (v:Wg):aH (XG lo v) where
 cl:=fun T w w' ⟨n,b,h1,h2,h3⟩ hm=>⟨n,b,h1,h2,(vZ.good _ _).cl _ _ _ h3 (hm.mono (fun a _ ha ht=>ha ht.1))⟩
 gr:=fun T T' w hT ⟨n,b,h1,h2,h3⟩=>⟨n,b,h1,h2,(vZ.good _ _).gr _ _ _ (fun a ha=>⟨hT a ha.1,ha.2⟩) h3⟩
theorem qnL (w:We) (T:Nat→Prop):Calls Tryz.prog 41 #[] w fun e w'=>∃v,e= .returned v∧Mod (fun _=>False) w w'∧XF v (Grow T w w') w':=
 (RC w).mono fun e w' h=>by
  obtain⟨q,h1,h2,h3,h4⟩:=h;obtain⟨R,nx,hk,hq⟩:=h3;exact⟨_,h1,h4,q,rfl,⟨R,nx,hk,hq⟩,.inr ⟨h2,aA hk⟩⟩
theorem JD (w:We):Calls Tryz.prog 42 #[] w fun e w'=>∃n,e= .returned (ptrV n)∧iV (fun i=>w.heap.size≤i∧i<w'.heap.size) w' n []∧Mod (fun _=>False) w w':=by
 have Gk:= @run_makeMap Tryz.prog;go_enter Tryz.func42,Tryz.ntmps42;go_wp2_with fail;go_ret;obtain⟨h1,h2,h3⟩:=qS w (.map #[] 0) (.map #[] 0) (.cells #[.map (some w.heap.size),.map (some (w.heap.size+1))] 167);exact⟨_,rfl,⟨w.heap.size,w.heap.size+1,_,_,_,_,[],h3,h1,aR.empty O5 kv,h2,aR.empty kv id,by omega,⟨by omega,aA h3⟩,⟨by omega,aA h1⟩,⟨by omega,aA h2⟩,(fun p hp=>by cases hp),fun p hp=>by cases hp⟩,(((Mod.refl _ _).alloc _).alloc _).alloc _⟩
theorem snL (w:We) (T:Nat→Prop) (lo:Nat) (nz:lo<w.heap.size):Calls Tryz.prog 42 #[] w fun e w'=>∃v,e= .returned v∧Mod (fun _=>False) w w'∧XG lo v (Grow T w w') w':=
 (JD w).mono fun e w' h=>by
  obtain⟨n,h1,h4,h5⟩:=h;exact⟨_,h1,h5,n,w.heap.size,rfl,nz,iV.mono h4 (fun a ha=>⟨.inr ha,ha.1⟩)⟩
def Z2 (room:Nat) (v:Wg):aK:=fun T w=>∃b,v= .tuple #[ptrV b,.int .i64 0]∧BT b (List.replicate room none) T w
theorem Z6 (w:We) (T:Nat→Prop) {n:Nat} (h1:1≤n) (h2:n≤4096) (h0:0<w.heap.size):Calls Tryz.prog 43 #[.int .i64 (n:Int)] w fun e w'=>∃v,e= .returned v∧Mod (fun _=>False) w w'∧Z2 n v (Grow T w w') w':=
 (LY w h1 h2).mono fun e w' h=>by
  obtain⟨b,h1,h2⟩:=h;have h3:BH w (fun i=>False∧i≠0) b (List.replicate n none) w':=by
   obtain⟨s,h,R,C,Ts,Th,Tr,HB,hS,hp,hT,m⟩:=h2;exact⟨s,h,R,C,Ts,Th,Tr,HB,hS,hp,fun i hi=>⟨.inr ((hT i hi).1.resolve_left (fun h=>h)),(hT i hi).2⟩,m.mono (fun i _ h=>h.elim)⟩
  exact⟨_,h1,h3.mt.mono (fun i _ h=>h),b,rfl,(BT.good _ _).gr _ _ _ (fun a ha=>ha.elim (fun h=>h.elim) .inr) (h3.bt h0)⟩
def Z4 (n:Nat) (v:Wg):aK:=fun T w=>∃t,v= .tuple #[ptrV t,.int .i64 0]∧fO t n [] T w
theorem tbL (w:We) (T:Nat→Prop) {n:Nat} (h1:1≤n) (h2:n≤64):Calls Tryz.prog 44 #[.int .i64 (n:Int)] w fun e w'=>∃v,e= .returned v∧Mod (fun _=>False) w w'∧Z4 n v (Grow T w w') w':=
 (RF n w h1 h2).mono fun e w' h=>by
  obtain⟨t,hb,wb,h1,h2,h3,h4,h5,h6⟩:=h;obtain⟨_,l1,_,_,_,_,_,_,l2,_,l3,_⟩:=id h5;exact⟨_,h1,h6,t,rfl,hb,wb,h5,.inr ⟨h2,aA l1⟩,.inr ⟨h3,aA l2⟩,.inr ⟨h4,aA l3⟩⟩
def Z3 (n:Nat) (v:Wg):aK:=fun T w=>∃p,v= .tuple #[ptrV p,.int .i64 0]∧nE p n (List.replicate n []) T w
theorem lnL (w:We) (T:Nat→Prop) {n:Nat} (h1:1≤n) (h2:n≤64):Calls Tryz.prog 45 #[.int .i64 (n:Int)] w fun e w'=>∃v,e= .returned v∧Mod (fun _=>False) w w'∧Z3 n v (Grow T w w') w':=
 (R0 w h1 h2).mono fun e w' h=>by
  obtain⟨p,h1,⟨T2,h2,h3⟩,h4⟩:=h;exact⟨_,h1,h4,p,rfl,(nE.good _ _ _).gr _ _ _ (fun a ha=> .inr (h3 a ha)) h2⟩
theorem GG (l:Wd):cellsOf qT l=l.map fv:=by
 induction l with
 |nil=>rfl
 |cons a l ih=>
  show(qT a).toList++cellsOf qT l=_;rw[ih];rfl
theorem MJ {T:Nat→Prop} {w:We} {a:Wb} {n c:Nat} {l:Wd} (h:LN l (.slice a n c) T w) (hn:1≤n):∃g sx,a=some ⟨g,0,none⟩∧CeL g (l.map fv++sx).toArray 129 T w:=by
 obtain⟨⟨h1,h2⟩,h3⟩:=h;rcases h2 with⟨e,_⟩|⟨g,cap,cur,e,hb,hg,se,tv,fz,ht⟩
 ·cases e;omega
 ·injection e with e1 e2 e3
  subst e1;subst e2;refine⟨g,cur.toList.drop (l.length*1),rfl,h3 g rfl,?_⟩;rw[hg];have e4:l.map fv=cur.toList.take (l.length*1):=by rw[ht,GG]
  rw[e4,aY9]
def OY (room n:Nat):Pa:=⟨List.replicate room none,[],[],0,[],[],[],[],[],[],[],List.replicate n [],List.replicate n 0,List.replicate n 0⟩
theorem NJ (w:We) (sa:Wb) (sn sc:Nat) (room win bat fli:Int) (l1 l2 l3 fw:Wg) (hold:Int) (oa:Wb) (on oc:Nat) (jc:cfB sn room win bat fli hold on=false):
  Calls Tryz.prog 11 #[.agg (oY (.slice sa sn sc) room win bat fli l1 l2 l3 fw hold (.slice oa on oc))] w fun e w'=>e= .returned (.tuple #[.pointer none,.int .i64 1])∧Mod (fun _=>False) w w':=by
 have hc:=fun wq=>uF sa sn sc room win bat fli l1 l2 l3 fw hold oa on oc wq;rw[jc]at hc;unfold oY at hc⊢;have HC:=Hi hc;clear jc hc;go_enter Tryz.func11,Tryz.ntmps11;go_upto_region 0 with fail;refine ZP0 [3,0,0] ?_;refine Zb fun p1 fx=> ?_
 iterate 2 refine Zv ?_
 refine TD.nil (fun w1 hr=> ?_);obtain⟨gp1,kp1⟩:=hr.b p1;have m1:=hr.mod;clear hr;go_wp2_with fail;go_at_call 38;refine(HC.out w1).mono ?_;rintro e w2 ⟨rfl,m2⟩;go_wp2_with fail;exact bodyPost_ret (results_tmp2 rfl _ _ _) rfl ⟨rfl,m1.then0 m2⟩
theorem KO {P:Wl} {ops:Array Oper} {Q:Exit→Act→We→Prop} {i:Nat} {r:Wd} {a:Act} {o:Oper} {w w':We} {T:Wh} {x y:Wm} {X Y:Wg} (ho:ops[i]? =some o) (hw:Region.wanted o (yielded ops a.tmps)=true) (hd:o.dst=none)
  (aj:o.op= .store T x y) (hx:a.eval x=X) (hy:a.eval y=Y) (hr:(Instr.storeAt T X Y).run P w= .ok () w') (h:wpOps P ops Q r a w'):wpOps P ops Q (i::r) a w:=by
 unfold wpOps;simp only[ho,hw,if_true];refine .inl ?_;unfold Oper.wp;have he:(execOp a.eval o).run P w= .ok .skip w':=by
  subst hx;subst hy;simp[execOp,aj,hr]
 rw[he];simpa[Oper.upon,Act.put,hd] using h
theorem ZT {P:Wl} {ops:Array Oper} {Q:Exit→Act→We→Prop} {i:Nat} {r:Wd} {a:Act} {w w':We} {o:Oper} {T:Wh} {x y:Wm} {X Y:Wg} (h:wpOps P ops Q r a w') (ho:ops[i]? =some o:=by simp only[zK];rfl) (hw:Region.wanted o (yielded ops a.tmps)=true:=by rfl) (hd:o.dst=none:=by rfl) (aj:o.op= .store T x y:=by rfl) (hx:a.eval x=X:=by(try simp only[zM]);(try rfl)) (hy:a.eval y=Y:=by(try simp only[zM]);(try rfl)) (hr:(Instr.storeAt T X Y).run P w= .ok () w':=by go_simp;try with_reducible rfl):wpOps P ops Q (i::r) a w:=KO ho hw hd aj hx hy hr h
theorem x5 {P:Wl} {ops:Array Oper} {Q:Exit→Act→We→Prop} {i:Nat} {r:Wd} {a:Act} {o:Oper} {w:We} {T:Wh} {z:Wa} (ho:ops[i]? =some o) (hw:Region.wanted o (yielded ops a.tmps)=true) (aj:o.op= .alloc T)
  (hr:∀w,(Instr.alloc T true (.tuple #[])).run P w= .ok (.pointer (some ⟨w.heap.size,0,none⟩)) (w.alloc (.cells z T)))
  (h:∀q w',w.heap.size=q→w'.heap[q]? =some (.cells z T (0,0))→Mod (fun _=>False) w w'→wpOps P ops Q r (a.put o.dst (.pointer (some ⟨q,0,none⟩))) w'):wpOps P ops Q (i::r) a w:=
 rM ho hw (by simp[execOp,aj,hr w]) (h _ _ rfl (heap_alloc_new _ _) ((Mod.refl _ _).alloc _))
theorem SH {P:Wl} {ops:Array Oper} {Q:Exit→Act→We→Prop} {r:Wd} {a:Act} {w:We} {p:Nat} {o1 o':Obj} (hb:w.heap[p]? =some o1) (h:∀w',w'.heap[p]? =some o'→Mod (fun i=>i=p) w w'→wpOps P ops Q r a w'):wpOps P ops Q r a (setBlock w p o'):=
 h _ (aF w _ (aA hb)) (bM w p o')
theorem SI {P:Wl} {ops:Array Oper} {Q:Exit→Act→We→Prop} {r:Wd} {a:Act} {w:We} {p i:Nat} {cs:Wa} {U:Wh} {fr:Nat×Nat} {v:Wg} (hb:w.heap[p]? =some (.cells cs U fr))
  (h:∀w',w'.heap[p]? =some (.cells (cs.setIfInBounds i v) U fr)→Mod (fun i=>i=p) w w'→wpOps P ops Q r a w'):wpOps P ops Q r a (w.setCell ⟨p,i,none⟩ v):=by
 rw[setCell_blk hb];exact SH hb h
theorem kE {P:Wl} {ops:Array Oper} {Q:Exit→Act→We→Prop} {i:Nat} {r:Wd} {a:Act} {o:Oper} {w:We} {f:Wn} {args:Wa} {R:Wg→We→Prop} (ho:ops[i]? =some o) (hw:Region.wanted o (yielded ops a.tmps)=true)
  (hy:(execOp a.eval o).run P w= .ok (.enter f args) w) (hc:Calls P f args w fun e w'=>∃v,e= .returned v∧R v w') (hn:∀v w',R v w'→wpOps P ops Q r (a.put o.dst v) w'):wpOps P ops Q (i::r) a w:=by
 unfold wpOps;simp only[ho,hw,if_true];refine .inl ?_;unfold Oper.wp;rw[hy,Oper.upon_enter];refine hc.mono ?_;rintro e w' ⟨v,rfl,h⟩;exact hn v w' h
theorem UL (sp room win bat fli l1 l2 l3 fw hold own:Wg) (n q sn fb cb:Nat) (w:We):(Instr.build 69 #[(0,.agg #[sp,room,win,bat,fli,l1,l2,l3,fw,hold,own]),(4,ptrV q),(5,ptrV sn),(6,.slice (some ⟨fb,0,none⟩) n n),(7,.slice (some ⟨cb,0,none⟩) n n)]).run Tryz.prog w= .ok (.agg #[sp,room,win,bat,fli,l1,l2,l3,fw,hold,own,.pointer none,.pointer none,.pointer none,ptrV q,ptrV sn,.slice (some ⟨fb,0,none⟩) n n,.slice (some ⟨cb,0,none⟩) n n]) w:=by kernel_rfl
theorem BS (l:Wd) (v:Wg):aH (LN l v):=RowL.good _ _ _ _ _
theorem JC (w:We) (sa:Wb) (spd:Wd) (sc:Nat) (ff:aS qT 1 w sa spd) (room win bat fli:Nat) (l1 l2 l3 fw:Wj) (hold:Int) (oa:Wb) (own:List Bool) (oc:Nat) (how:aS BD 1 w oa own) (Gn:own.length≤1000000) (jc:cfB spd.length room win bat fli hold own.length=true):
  Calls Tryz.prog 11 #[.agg (oY (.slice sa spd.length sc) room win bat fli (u64v l1) (u64v l2) (u64v l3) (u64v fw) hold (.slice oa own.length oc))] w fun e w'=>∃d,e= .returned (.tuple #[ptrV d,.int .i64 0])∧(∃T,DA d ⟨win,bat,fli,spd.length,spd,[],[]⟩ (OY room spd.length) T w'∧∀a,T a→w.heap.size≤a∧a<w'.heap.size)∧Mod (fun _=>False) w w':=by
 obtain⟨n,hn⟩:∃n,spd.length=n:=⟨_,rfl⟩;obtain⟨on,xw⟩:∃on,own.length=on:=⟨_,rfl⟩;rw[hn,xw]at jc⊢;have hc:=fun wq=>uF sa n sc room win bat fli (u64v l1) (u64v l2) (u64v l3) (u64v fw) hold oa on oc wq;rw[jc]at hc;have Im:=jc;unfold cfB BY at Im;simp only[aZy,decide_eq_true_eq]at Im;have wi:1≤n∧n≤64∧1≤room∧room≤4096:=by omega
 obtain⟨je,Jh,sy,yd⟩:=wi;unfold oY at hc⊢;have HC:=Hi hc;have HA:=Hi (Ai ff (Ai hn (Ai how (Ai xw (Ai jc Gn)))));clear jc Im hc ff hn how xw Gn;go_enter Tryz.func11,Tryz.ntmps11;go_upto_region 0 with fail;refine ZP0 [3,0,0] ?_;refine Zb fun p1 fx=> ?_
 iterate 2 refine Zv ?_
 refine TD.nil (fun w1 hr=> ?_);obtain⟨gp1,kp1⟩:=hr.b p1;have m1:=hr.mod;clear hr;go_wp2_with fail;go_at_call 38;refine(HC.out w1).mono ?_;rintro e w2 ⟨rfl,m2⟩;have kp1:=m2.at0 kp1;have M2:=Hi (m1.then0 m2);have Uq:Hid (w.heap.size≤p1):=Hi gp1;have LP1:=Hi (aA kp1);clear m1 m2 HC;go_upto_region 4 with fail;have Lkp1:=aA kp1;refine iR (T0:=fun _=>False) (K:=fun _ _=>True) (κ:=fun i=>[0,0,6,0,0,6,0,6,0,6].getD i 0) (υ:=fun _=>[]) [0,1,2,3,4,5,6] [7,8,9] (by kernel_rfl) (by kernel_rfl) (aH.true).cl (trivial) (fun _ h=>h.elim) ?_;have gK:=aH.true;refine Zg ?_;refine Zh ?_;(refine ZJ (LN spd) (BS spd) gK ?_ (s:=fun T wq kq ltq ae ub=>by exact(by have hc:=YD (c:=sc) T (HA.out.1.mod0 (M2.out.then0 ae)) (by rw[HA.out.2.1];omega);rw[HA.out.2.1]at hc;exact hc));rintro v9 ⟨wI,TI,hI⟩;replace gK:=gK.and ((BS spd) v9);(obtain⟨fa,fc,hfe,_⟩:=hI.k.2.1.at ID;rw[HA.out.2.1]at hfe;subst hfe);(try clear hI TI wI);try simp only[zL]);refine Zg ?_;refine Zh ?_;(refine ZJ (PA on) (BR on) gK ?_ (s:=fun T wq kq ltq ae ub=>by exact(by have hc:=XU (c:=oc) T (HA.out.2.2.1.mod0 (M2.out.then0 ae)) HA.out.2.2.2.2.2;rw[HA.out.2.2.2.1]at hc;exact hc));rintro v12 ⟨wI,TI,hI⟩;replace gK:=gK.and ((BR on) v12);(obtain⟨oa2,oc2,rfl⟩:=hI.k.2);(try clear hI TI wI);try simp only[zL]);refine Zg ?_;refine TG.nil (fun w3 ⟨TR,hr⟩=> ?_);replace kp1:=hr.q kp1;clear gK
 rename Nat→Prop=>TR3
 obtain⟨⟨_,jo⟩,_⟩:=hr.k;have m3:=hr.mod;have H3:=Hi (Ai jo (Ai hr.old (Ai hr.lt (M2.out.then0 m3))));clear hr jo m3;refine Zz ?_;refine ZS ?_;refine ZM kp1 fun wn kp1 mS=> ?_;(try simp only[Array.setIfInBounds,zL]at kp1);have ms3:=mS;clear mS;refine Ze ?_;refine Zz ?_;refine ZS ?_;refine ZN kp1 fun wn kp1 mS=> ?_;(try simp only[Array.setIfInBounds,zL]at kp1);have ms4:=ms3.trans mS;obtain⟨w4,hw4⟩:∃w4,wn=w4:=⟨_,rfl⟩;rw[hw4]at kp1 ms4⊢;have gx:=Hi ms4;clear ms4 ms3 mS hw4;have Ql:=I9 n (by omega);have qp:=VR n (by omega);have Ol:=UL (.slice fa n fc) (.int .i64 (room:Int)) (.int .i64 (win:Int)) (.int .i64 (bat:Int)) (.int .i64 (fli:Int)) (u64v l1) (u64v l2) (u64v l3) (u64v fw) (.int .i64 hold) (.slice oa2 on oc2) n;go_upto_region 6 with fail;have Lkp1:=aA kp1;refine bL (T0:=fun _=>False) (K:=fun _ _=>True) (κ:=fun i=>[0,6,6,0,3,0,3,0,3,0].getD i 0) (υ:=fun _=>[]) [0,1,2,3,4,5,6,7,8,9] (by kernel_rfl) (by kernel_rfl) (aH.true).cl (trivial) (fun _ h=>h.elim) ?_;have gK:=aH.true;refine Zh ?_;(refine ZJ (XF) (IN) gK ?_ (s:=fun T wq kq ltq ae ub=>by exact qnL wq T);rintro v18 ⟨wI,TI,hI⟩;replace gK:=gK.and ((IN) v18);(obtain⟨q,rfl,hqu⟩:=hI.k.2);(try clear hI TI wI);try simp only[zL]);(refine ZJ (XG q) (IP q) gK ?_ (s:=fun T wq kq ltq ae ub=>by exact snL wq T q (by obtain⟨q2,e,Bk⟩:=kq.2;cases e;exact ltq q Bk.2));rintro v19 ⟨wI,TI,hI⟩;replace gK:=gK.and ((IP q) v19);(obtain⟨sn,_,rfl,_⟩:=hI.k.2);(try clear hI TI wI);try simp only[zL]);refine Zg ?_;(refine TG.mks (by simp only[zK];rfl) rfl (by rfl) rfl rfl ?hx21 ?hz21 Ql (fun p27 hp27 _=> ?n21);(case hx21=>simp only[zM];try rfl);(case hz21=>simp only[zM];try rfl);try simp only[zL]);refine Zg ?_;(refine TG.mks (by simp only[zK];rfl) rfl (by rfl) rfl rfl ?hx23 ?hz23 qp (fun p29 Ro _=> ?n23);(case hx23=>simp only[zM];try rfl);(case hz23=>simp only[zM];try rfl);try simp only[zL]);obtain⟨ne_p29_p27,Ro⟩:=Bx.set_none Ro;(refine TG.build (v:= ?v24) (ps:= ?p24) (by simp only[zK];rfl) rfl (by rfl) rfl ?hx24 (fun w1=> ?y24) ?n24;(case hx24=>(simp only[aYr,aZo,aYo,zM];(try rfl)));(case y24=>(rw[(Ol q sn p27 p29)];(try with_reducible rfl)));try simp only[zL]);(refine TG.box (v:= ?v25) (by simp only[zK];rfl) rfl (by rfl) rfl rfl ?hx25 (fun p31 Es _=> ?n25);(case hx25=>simp only[zM];try rfl);try simp only[zL]);obtain⟨ne_p31_p29,Es⟩:=Bx.set_none Es;obtain⟨ne_p31_p27,Es⟩:=Bx.set_none Es;refine Zg ?_;refine TG.nil (fun w5 ⟨TR,hr⟩=> ?_);replace kp1:=hr.q kp1;obtain⟨gp27,nTp27,kp27⟩:=hr.b p27;obtain⟨gp29,nTp29,kp29⟩:=hr.b p29;obtain⟨gp31,nTp31,kp31⟩:=hr.b p31;clear gK
 rename Nat→Prop=>TR5
 have HK:=Hi hr.k;have HT5:=Hi (Ai hr.old hr.lt);have M5:=Hi hr.mod;have HB5:=Hi (Ai (Ai gp27 nTp27) (Ai (Ai gp29 nTp29) (Ai gp31 nTp31)));clear hr gp27 nTp27 gp29 nTp29 nTp31 Ql qp Ol;have h50:Hid (0<w5.heap.size):=Hi (by have:=aA kp31;omega);have LT5:=Hi (Ai (aA kp31) (aA kp1));have Oo:=Z6 w5 (fun _=>False) sy yd h50.out;go_upto_region 7 with fail;refine region_seq 10 rfl ?_;simp only[List.range,List.range.loop]
 iterate 2 refine Zq ?_
 refine Zr ?_;(refine kE (by simp only[zK];rfl) (by rfl) ?y30 (Oo) (fun vn w6 hR=> ?n30);(case y30=>(go_simp;(try(first|with_reducible rfl|(constructor<;>with_reducible rfl))))))
 (obtain⟨hm,b,rfl,hk⟩:=hR;have kp31:=hm.at0 kp31;have HK6:=Hi (Ai hm hk);clear hm hk)
 (try simp only[zL])
 iterate 5 refine Zq ?_
 refine ZT ?_;refine ZQ kp31 fun wn kp31 mS=> ?_;refine oI ?_;obtain⟨w7,Hd⟩:∃w7,wn=w7:=⟨_,rfl⟩;rw[Hd]at kp31 mS⊢;have MS6:=Hi mS;have Su:=tbL w7 (fun _=>False) je Jh;clear Hd mS Oo kp1;go_upto_region 8 with fail;refine region_seq 9 rfl ?_;simp only[List.range,List.range.loop]
 iterate 2 refine Zq ?_
 (refine kE (by simp only[zK];rfl) (by rfl) ?y39 (Su) (fun vn w8 hR=> ?n39);(case y39=>(go_simp;(try(first|with_reducible rfl|(constructor<;>with_reducible rfl))))))
 (obtain⟨hm,tb,rfl,hk⟩:=hR;have kp31:=hm.at0 kp31;have HK8:=Hi (Ai hm hk);clear hm hk)
 (try simp only[zL])
 iterate 5 refine Zq ?_
 refine ZT ?_;refine ZQ kp31 fun wn kp31 mS=> ?_;refine oI ?_;obtain⟨w9,Tk⟩:∃w9,wn=w9:=⟨_,rfl⟩;rw[Tk]at kp31 mS⊢;have MS8:=Hi mS;have Qa:=lnL w9 (fun _=>False) je Jh;clear Tk mS Su;go_upto_region 9 with fail;refine region_seq 9 rfl ?_;simp only[List.range,List.range.loop]
 iterate 2 refine Zq ?_
 (refine kE (by simp only[zK];rfl) (by rfl) ?y48 (Qa) (fun vn w10 hR=> ?n48);(case y48=>(go_simp;(try(first|with_reducible rfl|(constructor<;>with_reducible rfl))))))
 (obtain⟨hm,ln,rfl,hk⟩:=hR;have kp31:=hm.at0 kp31;have Na:=Hi (Ai hm hk);clear hm hk)
 (try simp only[zL])
 iterate 5 refine Zq ?_
 refine ZT ?_;refine ZQ kp31 fun wn kp31 mS=> ?_;refine oI ?_;obtain⟨w11,Bu⟩:∃w11,wn=w11:=⟨_,rfl⟩;rw[Bu]at kp31 mS⊢;have MS10:=Hi mS;clear Bu mS Qa;go_wp2_with fail;refine bodyPost_ret (results_tmp2 rfl _ _ _) rfl ⟨p31,rfl,?_,?_⟩
 ·obtain⟨jo,Gp,pd,m03⟩:=H3.out;obtain⟨⟨_,q',eq,hq⟩,n2,b0,en,Rw,hsn⟩:=HK.out;cases eq;cases en;obtain⟨Bd,xu⟩:=HT5.out;obtain⟨⟨g27,n27⟩,⟨g29,n29⟩,g31,n31⟩:=HB5.out;obtain⟨m56,hb⟩:=HK6.out;obtain⟨m78,ht⟩:=HK8.out;obtain⟨m910,hl⟩:=Na.out;have z3:=m03.size;have z4:=gx.out.size;have z5:=M5.out.size;have z6:=m56.size;have z7:=MS6.out.size;have z8:=m78.size;have z9:=MS8.out.size;have z10:=m910.size;have z11:=MS10.out.size;have z2:=M2.out.size;have fx:=Uq.out;have h31:=LT5.out;have m6b:Mod (fun i=>i=p31) w5 w7:=(m56.mono (fun _ _ h=>h.elim)).trans MS6.out;have m7b:Mod (fun i=>i=p31) w7 w9:=(m78.mono (fun _ _ h=>h.elim)).trans MS8.out;have m9b:Mod (fun i=>i=p31) w9 w11:=(m910.mono (fun _ _ h=>h.elim)).trans MS10.out;have m79:=m7b.trans m9b;have m511:=m6b.trans m79;obtain⟨g3,sx,e3,vv⟩:=MJ jo je;subst e3;have qu:∀a,TR3 a→a≠p1:=fun a ha e=>Gp a (by rw[e];exact LP1.out) ha;have Ou:=(CeL.good g3 _ _).cl _ _ _ ((CeL.good g3 _ _).cl _ _ _ ((CeL.good g3 _ _).cl _ _ _ vv (gx.out.mono (fun i _ hi xj=>qu i xj hi))) (M5.out.mono (fun _ _ h=>h.elim))) (m511.mono (fun i _ hi xj=>by have:=pd i xj;omega));have hq11:tT q [] (fun a=>a=q) w11:=⟨hq.1.mod m511 (fun e=>n31 (e▸hq.2)),rfl⟩;have Ws:w4.heap.size≤q:=Nat.le_of_not_lt (fun h=>Bd q h hq.2);have hqlt:=xu q hq.2;have Sc:=(vZ.good sn []).cl _ _ _ hsn (m511.mono (fun i _ hi xj=>n31 (hi▸xj.1)));have hb11:=(BT.good b (List.replicate room none)).cl _ _ _ hb ((MS6.out.trans m79).mono (fun i _ hi xj=>by rcases xj with h|h;exact h;omega));have ht11:=(fO.good tb n []).cl _ _ _ ht ((MS8.out.trans m9b).mono (fun i _ hi xj=>by rcases xj with h|h;exact h;omega));have hl11:=(nE.good ln n (List.replicate n [])).cl _ _ _ hl (MS10.out.mono (fun i _ hi xj=>by rcases xj with h|h;exact h;omega));have k27:CeL p27 (List.replicate n (Value.int .i64 0)).toArray 3 (fun a=>a=p27) w11:=⟨rfl,m511.at kp27 (fun e=>ne_p31_p27 e.symm)⟩;have k29:CeL p29 (List.replicate n (Value.int .u64 0)).toArray 23 (fun a=>a=p29) w11:=⟨rfl,m511.at kp29 (fun e=>ne_p31_p29 e.symm)⟩;have l27:=aA kp27;have l29:=aA kp29;have c27:(List.replicate n (Value.int .i64 0)).toArray=((List.replicate n 0).map natV).toArray:=by rw[List.map_replicate];rfl
  have c29:(List.replicate n (Value.int .u64 0)).toArray=((List.replicate n (0:Wj)).map u64v).toArray:=by rw[List.map_replicate];rfl
  rw[c27]at k27;rw[c29]at k29;have xq:∀a,TR3 a→w.heap.size≤a∧a<w3.heap.size:=fun a ha=>⟨by
   have:=Nat.le_of_not_lt (fun h=>Gp a h ha);omega,pd a ha⟩
  have S1:=(bW.nil w11).add Ou (fun _ _ h=>h);have S2:=S1.add hq11 (fun a ha h=>by
   rcases h with h|h
   ·exact h
   ·have:=xq a h;have ha:a=q:=ha;omega)
  have S3:=S2.add Sc (fun a ha h=>by
   rcases h with(h|h)|h
   ·exact h
   ·have:=xq a h;have:=Nat.le_of_not_lt (fun h=>Bd a h ha.1);omega
   ·have h:a=q:=h;have:=ha.2;omega)
  have S4:=S3.add k27 (fun a ha h=>by
   have ha:a=p27:=ha;subst ha;rcases h with((h|h)|h)|h
   ·exact h
   ·have:=xq a h;omega
   ·exact n27 (by rw[show a=q from h];exact hq.2)
   ·exact n27 h.1)
  have S5:=S4.add k29 (fun a ha h=>by
   have ha:a=p29:=ha;subst ha;rcases h with(((h|h)|h)|h)|h
   ·exact h
   ·have:=xq a h;omega
   ·exact n29 (by rw[show a=q from h];exact hq.2)
   ·exact n29 h.1
   ·exact ne_p29_p27 h)
  have S6:=S5.add (K:=CeL p31 (iE ⟨.slice (some ⟨g3,0,none⟩) n fc,room,win,bat,fli,u64v l1,u64v l2,u64v l3,u64v fw,.int .i64 hold,.slice oa2 on oc2,b,tb,ln,q,sn,.slice (some ⟨p27,0,none⟩) n n,.slice (some ⟨p29,0,none⟩) n n⟩) 69) (T':=fun a=>a=p31) ⟨rfl,kp31⟩ (fun a ha h=>by
   have ha:a=p31:=ha;subst ha;rcases h with((((h|h)|h)|h)|h)|h
   ·exact h
   ·have:=xq a h;omega
   ·exact n31 (by rw[show a=q from h];exact hq.2)
   ·exact n31 h.1
   ·exact ne_p31_p27 h
   ·exact ne_p31_p29 h)
  have B6:∀a,(((((((False∨TR3 a)∨a=q)∨(TR5 a∧b0≤a))∨a=p27)∨a=p29)∨a=p31))→w.heap.size≤a∧a<w5.heap.size:=fun a h=>by
   rcases h with(((((h|h)|h)|h)|h)|h)|h
   ·exact h.elim
   ·have:=xq a h;omega
   ·omega
   ·have h1:=Nat.le_of_not_lt (fun h2=>Bd a h2 h.1);have h2:=xu a h.1;omega
   ·omega
   ·omega
   ·omega
  have S7:=S6.add hb11 (fun a ha h=>by
   have:=B6 a h;rcases ha with ha|ha
   ·exact ha
   ·omega)
  have S8:=S7.add ht11 (fun a ha h=>by
   rcases ha with ha|ha
   ·exact ha
   ·rcases h with h|h|h
    ·have:=B6 a h;omega
    ·exact h
    ·omega)
  have S9:=S8.add hl11 (fun a ha h=>by
   rcases ha with ha|ha
   ·exact ha
   ·rcases h with(h|h|h)|h|h
    ·have:=B6 a h;omega
    ·exact h
    ·omega
    ·exact h
    ·omega)
  refine⟨_,⟨⟨⟨.slice (some ⟨g3,0,none⟩) n fc,room,win,bat,fli,u64v l1,u64v l2,u64v l3,u64v fw,.int .i64 hold,.slice oa2 on oc2,b,tb,ln,q,sn,.slice (some ⟨p27,0,none⟩) n n,.slice (some ⟨p29,0,none⟩) n n⟩,g3,p27,p29,fc,sx⟩,⟨⟨rfl,rfl,rfl,je,Jh,rfl,rfl,rfl,aZ9,aZ9,HA.out.2.1,aZ9⟩,hold,oa2,on,oc2,rfl,rfl,HA.out.2.2.2.2.1⟩,S9.pick (fun i=>[3,2,7,6,1,0,5,4,8].getD i 0) (fun i j hi hj e=> ?_) (fun i K hK=> ?_)⟩,fun a h=> ?_⟩
  ·have key:∀i,i<9→∀j,j<9→[3,2,7,6,1,0,5,4,8].getD i 0=[3,2,7,6,1,0,5,4,8].getD j 0→i=j:=by decide
   exact key i hi j hj e
  ·match i,hK with
   |0,hK=>exact hK
   |1,hK=>exact hK
   |2,hK=>exact hK
   |3,hK=>exact hK
   |4,hK=>exact hK
   |5,hK=>exact hK
   |6,hK=>exact hK
   |7,hK=>exact hK
   |8,hK=>exact hK
   |n+9,hK=>cases hK
  ·rcases h with((h|h|h)|h|h)|h|h
   ·have:=B6 a h;omega
   ·exact h.elim
   ·omega
   ·exact h.elim
   ·omega
   ·exact h.elim
   ·omega
 ·have fx:=Uq.out;have g31:=HB5.out.2.2.1;have z3:=H3.out.2.2.2.size;have z4:=gx.out.size;have m4:=H3.out.2.2.2.then gx.out (fun i hi e=>by omega);have m5:=m4.then0 M5.out;have m6:=(m5.then0 HK6.out.1).then MS6.out (fun i hi e=>by omega);have m8:=(m6.then0 HK8.out.1).then MS8.out (fun i hi e=>by omega);exact(m8.then0 Na.out.1).then MS10.out (fun i hi e=>by omega)
theorem bW.one {K:aK} {T:Nat→Prop} {w:We} (h:K T w):bW [K] T w:=by
 refine⟨fun i a=>i=0∧T a,fun i K' hK=> ?_,fun i a ha=>ha.2,fun i j a ig hi hj=>ig (hi.1.trans hj.1.symm)⟩;cases i with
 |zero=>
  cases hK;show K (fun a=>0=0∧T a) w
  have:(fun a=>0=0∧T a)=T:=by funext a;simp
  rw[this];exact h
 |succ i=>simp at hK
theorem bW.app {Ks Ls:List aK} {T T':Nat→Prop} {w:We} (h:bW Ks T w) (h':bW Ls T' w) (hd:∀a,T' a→¬T a):bW (Ks++Ls) (fun a=>T a∨T' a) w:=by
 obtain⟨Ts,h1,h2,h3⟩:=h;obtain⟨Us,g1,g2,g3⟩:=h';refine⟨fun i a=>if i<Ks.length then Ts i a else Us (i-Ks.length) a,fun i L hL=> ?_,fun i a ha=> ?_,fun i j a ig hi hj=> ?_⟩
 ·rw[List.getElem?_append]at hL;split at hL
  ·rename_i e
   have:(fun a=>if i<Ks.length then Ts i a else Us (i-Ks.length) a)=Ts i:=by funext a;rw[if_pos e]
   show L (fun a=>if i<Ks.length then Ts i a else Us (i-Ks.length) a) w;rw[this];exact h1 i L hL
  ·rename_i e
   have:(fun a=>if i<Ks.length then Ts i a else Us (i-Ks.length) a)=Us (i-Ks.length):=by funext a;rw[if_neg e]
   show L (fun a=>if i<Ks.length then Ts i a else Us (i-Ks.length) a) w;rw[this];exact g1 _ L hL
 ·dsimp only at ha;split at ha
  ·exact .inl (h2 _ a ha)
  ·exact .inr (g2 _ a ha)
 ·dsimp only at hi hj;split at hi<;>split at hj
  ·exact h3 i j a ig hi hj
  ·exact hd a (g2 _ a hj) (h2 _ a hi)
  ·exact hd a (g2 _ a hi) (h2 _ a hj)
  ·exact g3 _ _ a (fun e=>ig (by omega)) hi hj
def VV (X:Pk) (p ob:Nat) (V:List Wg) (G:List Gv) (E:Ev) (s:Pa):List aK:=
 [CeL p (pac X) 121,GL X.g s.q s.K,iT X.ab (addB [] s.al),OG X.hb s.hi,CeL ob (V.take E.n).toArray 53,BatL E.n V (s.op++s.gi.map Prod.snd),RowL drc 2 97 X.dv s.dr,RowL gvc 2 86 X.gv G,RowL ic 1 3 X.av s.sd]
def toPa:Nat→Nat:=fun i=>[9,0,1,10,15,2,3,4,5,11,6,7,8,12,13,14,16,17].getD i 0
def toDk:Nat→Nat:=fun i=>[1,2,5,6,7,8,10,11,12].getD i 0
def YM (X:Dm) (Y:Pk) (p ob:Nat) (V:List Wg) (G:List Gv):Md:=⟨X.D,Y,p,X.sb,X.fb,X.cb,ob,V,G,X.sc,X.sx⟩
def UU (M:Md):Dm:=⟨M.D,M.sb,M.fb,M.cb,M.sc,M.sx⟩
theorem bW.toPa {X:Dm} {Y:Pk} {p ob:Nat} {V:List Wg} {G:List Gv} {E:Ev} {s:Pa} {T:Nat→Prop} {w:We} (h:bW (dparts X Y.d E s++VV Y p ob V G E s) T w):bW (parts (YM X Y p ob V G) E s) T w:=by
 refine h.pick Go.Proofs.YtblbegbjlaokjaaGreatDoor.toPa (fun i j hi hj e=> ?_) (fun i K hK=> ?_)
 ·have key:∀i,i<18→∀j,j<18→Go.Proofs.YtblbegbjlaokjaaGreatDoor.toPa i=Go.Proofs.YtblbegbjlaokjaaGreatDoor.toPa j→i=j:=by decide
  exact key i hi j hj e
 ·match i,hK with
  |0,hK=>exact hK
  |1,hK=>exact hK
  |2,hK=>exact hK
  |3,hK=>exact hK
  |4,hK=>exact hK
  |5,hK=>exact hK
  |6,hK=>exact hK
  |7,hK=>exact hK
  |8,hK=>exact hK
  |9,hK=>exact hK
  |10,hK=>exact hK
  |11,hK=>exact hK
  |12,hK=>exact hK
  |13,hK=>exact hK
  |14,hK=>exact hK
  |15,hK=>exact hK
  |16,hK=>exact hK
  |17,hK=>exact hK
  |n+18,hK=>cases hK
theorem bW.toDk {M:Md} {E:Ev} {s:Pa} {T:Nat→Prop} {w:We} (h:bW (parts M E s) T w):bW (dparts (UU M) M.X.d E s) T w:=by
 refine h.pick Go.Proofs.YtblbegbjlaokjaaGreatDoor.toDk (fun i j hi hj e=> ?_) (fun i K hK=> ?_)
 ·have key:∀i,i<9→∀j,j<9→Go.Proofs.YtblbegbjlaokjaaGreatDoor.toDk i=Go.Proofs.YtblbegbjlaokjaaGreatDoor.toDk j→i=j:=by decide
  exact key i hi j hj e
 ·match i,hK with
  |0,hK=>exact hK
  |1,hK=>exact hK
  |2,hK=>exact hK
  |3,hK=>exact hK
  |4,hK=>exact hK
  |5,hK=>exact hK
  |6,hK=>exact hK
  |7,hK=>exact hK
  |8,hK=>exact hK
  |n+9,hK=>cases hK
structure sL (E:Ev) (s:Pa):Prop where
 ok:eD E s
 n1:1≤E.n
 win:1≤E.win
 fli:1≤E.fli
 K:s.K=[]
 L:s.L=[]
 al:s.al=[]
 hi:s.hi=[]
 gi:s.gi=[]
 op:s.op=List.replicate E.n []
 la:s.la=List.replicate E.n []
 fl:s.fl=List.replicate E.n 0
 dr:s.dr=[]
 sd:s.sd=[]
theorem sL.lw {E:Ev} {s:Pa} (h:sL E s):nF E s s:=nF.start h.ok h.K h.L h.gi h.op h.la h.fl h.dr h.sd
theorem cX.law {E:Ev} {s0 t:Pa} (h:cX E s0 t) (hs:sL E s0):nF E s0 t∧eD E t∧t.K=[]∧t.D=[]:=by
 obtain⟨⟨h1,h2⟩,h3,h4⟩:=cX.ind (I:=fun s=>eD E s∧nF E s0 s) hs.win (fun s h=>h.1) (fun s y D i x hI hD hy hi hx hp hl hf=>⟨hI.1.put hD hy hi hx hp,hI.2.put hI.1 hD hy hi hx hp hf _⟩) (fun s y D i x hI hD hy hi hx hp hf=>⟨hI.1.drop hD hy hx hp _,hI.2.drop hI.1 hD hy hi hx hp hf⟩) (fun s i hI hr=>⟨hI.1.step hr.mem,hI.2.step hI.1 hr⟩) h ⟨hs.ok,hs.lw⟩;exact⟨h2,h1,h3,h4⟩
section
def OK (t:Pa) (v:Wg) (w:We):Prop:=∃(ga da aa:Wb) (G:List Gv),v= .agg #[.slice ga t.gi.length t.gi.length,.slice da t.dr.length t.dr.length,.slice aa t.sd.length t.sd.length]∧aS gvc 2 w ga G∧G.map Gv.w=t.gi.map Prod.fst∧
 (∀(i:Nat) (x:Gv) (b:Nat×Wc),G[i]? =some x→t.gi[i]? =some b→x.n=b.2.length∧aS ic 1 w x.a b.2)∧aS drc 2 w da t.dr∧aS ic 1 w aa t.sd
theorem BZ (w:We) (b o:Nat):(Instr.loadAt 55 (.pointer (some ⟨b,o,none⟩))).run Tryz.prog w=
   match w.heap[b]? with
   |some (.cells cs _ _)=>if o+3≤cs.size then .ok (.agg (cs.extract o (o+3))) w else dU Tryz.prog w 55 b o
   |_=>dU Tryz.prog w 55 b o:=bK (d:=_) Tryz.underlying55 rfl (by kernel_rfl) w b o
theorem KS (w:We) (b o:Nat) (xs:Wa):(Instr.storeAt 55 (.pointer (some ⟨b,o,none⟩)) (.agg xs)).run Tryz.prog w=
   match w.heap[b]? with
   |some (.cells cs U (0,0))=>
    if o+3≤cs.size∧xs.size=3∧xs.all (·.oneCell')=true then .ok () (setBlock w b (.cells (if o=0∧3=cs.size then xs else wr cs o xs.toList) U (0,0)))else eM Tryz.prog w 55 b o (.agg xs)
   |_=>eM Tryz.prog w 55 b o (.agg xs):=bQ (by kernel_rfl) w b o xs
theorem FZ (w:We):(Instr.alloc 55 true (.tuple #[])).run Tryz.prog w= .ok (.pointer (some ⟨w.heap.size,0,none⟩)) (w.alloc (.cells #[.slice none 0 0,.slice none 0 0,.slice none 0 0] 55)):=
 aY (z:= .agg #[.slice none 0 0,.slice none 0 0,.slice none 0 0]) (fun w=>by kernel_rfl) w
attribute [local go_sem↓] BZ KS
theorem PT (a b c:Wb) (n m k:Nat) (w:We):(Instr.build 55 #[(0,.slice a n n),(1,.slice b m m),(2,.slice c k k)]).run Tryz.prog w= .ok (.agg #[.slice a n n,.slice b m m,.slice c k k]) w:=by kernel_rfl
theorem UN (d g ab hb ob n:Nat) (w:We):(Instr.build 121 #[(0,ptrV d),(1,ptrV g),(2,ptrV ab),(3,.map (some hb)),(4,.slice (some ⟨ob,0,none⟩) n n)]).run Tryz.prog w= .ok (.agg #[ptrV d,ptrV g,ptrV ab,.map (some hb),.slice (some ⟨ob,0,none⟩) n n,.slice none 0 0,.slice none 0 0,.slice none 0 0]) w:=by kernel_rfl
def XA (v:Wg):aK:=fun T w=>∃g,v=ptrV g∧GL g 0 [] T w
theorem II (v:Wg):aH (XA v):=aH.ex fun g=>(aH.pure _).and (GL.good _ _ _)
theorem Z9 (w:We) (T:Nat→Prop):Calls Tryz.prog 30 #[] w fun e w'=>∃v,e= .returned v∧Mod (fun _=>False) w w'∧XA v (Grow T w w') w':=
 (RD w).mono fun e w' h=>by
  obtain⟨g,h1,T2,h2,h3,h4⟩:=h;exact⟨_,h1,h3,g,rfl,(GL.good _ _ _).gr _ _ _ (fun a ha=> .inr ⟨h4 a ha,h2.2 a ha⟩) h2.1⟩
def W7 (g:Nat) (v:Wg):aK:=fun T w=>∃p,v=ptrV p∧bW [GL g 0 [],iT p []] T w
theorem IH (g:Nat) (v:Wg):aH (W7 g v):=aH.ex fun p=>(aH.pure _).and (bW.good (by
 intro K hK;simp only[aZc,aZe,or_false]at hK;rcases hK with rfl|rfl
 ·exact GL.good _ _ _
 ·exact iT.good _ _))
theorem Z8 {w:We} {T:Nat→Prop} {g:Nat} (h:GL g 0 [] T w) (hT:∀a,T a→a<w.heap.size):Calls Tryz.prog 31 #[] w fun e w'=>∃v,e= .returned v∧Mod T w w'∧W7 g v (Grow T w w') w':=
 (xO w).mono fun e w' h2=>by
  obtain⟨p,b,h1,h2,h3,h4,h5⟩:=h2;obtain⟨k1,k2⟩:(∃o,w'.heap[p]? =some o)∧∃o,w'.heap[b]? =some o:=by
   obtain⟨k1,es,c,k2,_⟩:=id h4;exact⟨⟨_,k1⟩,_,k2⟩
  obtain⟨o1,k1⟩:=k1;obtain⟨o2,k2⟩:=k2;have hA:=bW.one ((GL.good g 0 []).cl _ _ _ h (h5.mono (fun _ _ h=>h.elim)));have hB:bW [iT p []] (fun a=>a=p∨a=b) w':=bW.one ⟨b,h4,.inl rfl,.inr rfl⟩;refine⟨_,h1,h5.mono (fun _ _ h=>h.elim),p,rfl,(bW.good (fun K hK=> ?_)).gr _ _ _ (fun a ha=> ?_) (hA.app hB (fun a ha xh=> ?_))⟩
  ·simp only[aZc,aZe,or_false]at hK;rcases hK with rfl|rfl
   ·exact GL.good _ _ _
   ·exact iT.good _ _
  ·rcases ha with ha|rfl|rfl
   ·exact .inl ha
   ·exact .inr ⟨h2,aA k1⟩
   ·exact .inr ⟨h3,aA k2⟩
  ·have:=hT a xh;rcases ha with rfl|rfl<;>omega
theorem DR (v2:Wg) (w:We) (n:Nat) {a:Wb} {c:Nat} (h:∀w2,(Instr.sliceAt 51 (.slice a n c) none (some (.int .i64 (n:Int))) (some (.int .i64 (n:Int)))).run Tryz.prog w2= .ok v2 w2):
  Calls Tryz.prog 35 #[.slice a n c] w fun e w'=>e= .returned v2∧w'=w:=by
 go_enter Tryz.func35,Tryz.ntmps35;go_wp2_with fail;go_ret;exact⟨rfl,rfl⟩
theorem DS (v2:Wg) (w:We) (n:Nat) {a:Wb} {c:Nat} (h:∀w2,(Instr.sliceAt 52 (.slice a n c) none (some (.int .i64 (n:Int))) (some (.int .i64 (n:Int)))).run Tryz.prog w2= .ok v2 w2):
  Calls Tryz.prog 36 #[.slice a n c] w fun e w'=>e= .returned v2∧w'=w:=by
 go_enter Tryz.func36,Tryz.ntmps36;go_wp2_with fail;go_ret;exact⟨rfl,rfl⟩
theorem BM (s:Pa) {j:Nat}:∀k,k≤j→(endP k s).op[j]? =s.op[j]? ∧(endP k s).la[j]? =s.la[j]? ∧(endP k s).gi.length≤s.gi.length+k
 |0,_=>⟨rfl,rfl,aZq _⟩
 |k+1,hk=>by
  obtain⟨h1,h2,h3⟩:=BM s (j:=j) k (by omega);rw[kJ];refine⟨?_,?_,?_⟩
  ·rw[xV,aZ0 (by omega)];exact h1
  ·unfold pushP;split
   ·exact h2
   ·show((endP k s).la.set k _)[j]? =_;rw[aZ0 (by omega)];exact h2
  ·unfold pushP;split
   ·omega
   ·show((endP k s).gi++[_]).length≤_;rw[aZg,aZx];omega
theorem PR {S:List (Option It)} {k:Wi} {x:It} (h:itS S k=some x):sO S k=S.set (ix k) (some {x with pl:=0}):=by
 unfold sO;rw[h]
theorem F8 {l:Wc} {k:Wi}:∀ {S:List (Option It)},k∉l→(∀m∈l,m=idn (ix m))→k=idn (ix k)→itS (l.foldl sO S) k=itS S k:=by
 induction l with
 |nil=>intro S _ _ _;rfl
 |cons m l ih=>
  intro S hk hm hi;rw[aZc]at hk;rw[aWv,ih (fun h=>hk (.inr h)) (fun x hx=>hm x (aZp _ hx)) hi];unfold sO;cases h:itS S m with
  |none=>rfl
  |some x=>
   dsimp only;refine dI (fun e=>hk (.inl ?_));rw[hi,e,←hm m List.mem_cons_self]
theorem JK {d:Nat} {E:Ev} {s:Pa} {T:Nat→Prop} {w:We} (h:DA d E s T w) (hT:∀a,T a→a<w.heap.size) (h0:¬T 0) (gq:dP w) (iu:sL E s) (hq:s.q=0):
  Calls Tryz.prog 10 #[ptrV d] w fun e w'=>∃t v,cX E s t∧e= .returned (.tuple #[v,.int .i64 0])∧OK (endP E.n t) v w'∧Goes (OE d E {endP E.n t with S:=wZ (endP E.n t)}) T w w':=by
 obtain⟨X,hX,hS⟩:=h;obtain⟨Td,⟨td,kd⟩,sd⟩:=hS.get (i:=0) rfl;obtain⟨hold,oa,on,oc,hh,ho,jc⟩:=hX.cf;have hw:=CW (d:=d) (w:=w) (sa:=some ⟨X.sb,0,none⟩) (sn:=E.n) (sc:=X.sc) (room:=(X.D.room:Int)) (win:=(X.D.win:Int)) (bat:=(X.D.bat:Int)) (fli:=(X.D.fli:Int)) (l1:=X.D.l1) (l2:=X.D.l2) (l3:=X.D.l3) (fw:=X.D.fw) (hold:=hold) (oa:=oa) (on:=on) (oc:=oc) (b:=some X.D.b) (t:=some X.D.t) (ln:=some X.D.ln) (q:=some X.D.q) (sn2:=some X.D.sn) (fa:=some ⟨X.fb,0,none⟩) (fn:=E.n) (fc:=E.n) (ca:=some ⟨X.cb,0,none⟩) (cn:=E.n) (cc:=E.n);have hwh:∀wq,Mod (fun _=>False) w wq→Calls Tryz.prog 29 #[ptrV d] wq fun e w'=>e= .returned (.int .i64 0)∧Mod (fun _=>False) wq w':=fun wq hm=>by
  have hw:=CW (d:=d) (w:=wq) (sa:=some ⟨X.sb,0,none⟩) (sn:=E.n) (sc:=X.sc) (room:=(X.D.room:Int)) (win:=(X.D.win:Int)) (bat:=(X.D.bat:Int)) (fli:=(X.D.fli:Int)) (l1:=X.D.l1) (l2:=X.D.l2) (l3:=X.D.l3) (fw:=X.D.fw) (hold:=hold) (oa:=oa) (on:=on) (oc:=oc) (b:=some X.D.b) (t:=some X.D.t) (ln:=some X.D.ln) (q:=some X.D.q) (sn2:=some X.D.sn) (fa:=some ⟨X.fb,0,none⟩) (fn:=E.n) (fc:=E.n) (ca:=some ⟨X.cb,0,none⟩) (cn:=E.n) (cc:=E.n) (by
   have:=hm.at0 kd;unfold iE at this;rw[hX.sv,hX.fv,hX.cv,hh,ho]at this;exact this)
  rw[hX.win,hX.bat,hX.fli,jc]at hw;simpa[whB] using hw
 clear hw;unfold iE at kd;rw[hX.fv]at kd;have HW:=Hi hwh;have hn:=Ai hX.n1 hX.n2;obtain⟨je,dy⟩:=hn;have HX:=Hi (Ai hX (Ai hS (Ai hT (Ai h0 (Ai gq (Ai iu (Ai hq (sd d td))))))));clear hX hS hT h0 gq iu hq td sd hh ho jc hwh;have na:=VQ E.n (by omega);go_enter Tryz.func10,Tryz.ntmps10;go_upto_region 0 with fail;have Lkd:=aA kd;refine ZP0 [3,0] ?_;refine Za FZ fun p2 ce=> ?_;refine Zv ?_;refine TD.nil (fun w1 hr=> ?_);replace kd:=hr.q kd;obtain⟨gp2,kp2⟩:=hr.b p2;have m1:=Hi hr.mod;have Fp:Hid (w.heap.size≤p2):=Hi gp2;clear hr gp2;have HW:=Hi (HW.out w1 m1.out);go_wp2_with fail;refine wp_scope_straight ?_;go_wp2_with fail;go_at_call 29;refine HW.out.mono ?_;rintro e w2 ⟨rfl,m2⟩;have kp2:=m2.at0 kp2;have kd:=m2.at0 kd;have M2:=Hi (m1.out.then0 m2);have P2L:=Hi (aA kp2);clear m2 HW m1;go_upto_region 4 with fail;have Lkp2:=aA kp2;have Lkd:=aA kd;refine bL (T0:=fun _=>False) (K:=fun _ _=>True) (κ:=fun i=>[0,6,6,3,0,0,0,0,0,3,0,3,0].getD i 0) (υ:=fun _=>[]) [0,1,2,3,4,5,6,7,8,9,10,11,12] (by kernel_rfl) (by kernel_rfl) (aH.true).cl (trivial) (fun _ h=>h.elim) ?_;have gK:=aH.true;refine Zg ?_;(refine ZJ (XA) (II) gK ?_ (s:=fun T wq kq ltq ae ub=>by exact Z9 wq T);rintro v4 ⟨wI,TI,hI⟩;replace gK:=gK.and ((II) v4);(obtain⟨g,rfl,_⟩:=hI.k.2);(try clear hI TI wI);try simp only[zL]);(refine TG.callK (f:= ?f5) (args:= ?r5) (W7 g) (IH g) (by simp only[zK];rfl) rfl (by rfl) (fun w1=> ?y5) (fun T wq kq ltq ae ub=> ?hsp5) ?n5;(case y5=>(go_simp;(first|with_reducible rfl|(constructor<;>with_reducible rfl))));(case hsp5=>(have kp2q:=ae.at kp2 (fun h=>h);have kdq:=ae.at kd (fun h=>h);exact Z8 (by obtain⟨g2,e,hg⟩:=kq.2;cases e;exact hg) ltq));rintro v5 ⟨wI,TI,hI⟩;replace gK:=(IH g) v5;(obtain⟨ab,rfl,_⟩:=hI.k);(try clear hI TI wI);try simp only[zL]);(refine TG.mkm (by simp only[zK];rfl) rfl (by rfl) rfl rfl (fun p18 ya _=> ?n6);try simp only[zL])
 iterate 5 first|refine Zg ?_|refine Zh ?_
 (refine TG.mks (by simp only[zK];rfl) rfl (by rfl) rfl rfl ?hx12 ?hz12 na (fun p24 Rl _=> ?n12);(case hx12=>simp only[zM];try rfl);(case hz12=>simp only[zM];try rfl);try simp only[zL]);obtain⟨ne_p24_p18,Rl⟩:=Bx.set_none Rl;(refine TG.build (v:= ?v13) (ps:= ?p13) (by simp only[zK];rfl) rfl (by rfl) rfl ?hx13 (fun w1=> ?y13) ?n13;(case hx13=>(simp only[aYr,aZo,aYo,zM];(try rfl)));(case y13=>(rw[(UN d g ab p18 p24 E.n)];(try with_reducible rfl)));try simp only[zL]);(refine TG.box (v:= ?v14) (by simp only[zK];rfl) rfl (by rfl) rfl rfl ?hx14 (fun p26 Er _=> ?n14);(case hx14=>simp only[zM];try rfl);try simp only[zL]);obtain⟨ne_p26_p24,Er⟩:=Bx.set_none Er;obtain⟨ne_p26_p18,Er⟩:=Bx.set_none Er;refine Zg ?_;refine TG.nil (fun w3 ⟨TR,hr⟩=> ?_);replace kp2:=hr.q kp2;replace kd:=hr.q kd;have kp18:=hr.boxM p18 _ (by first|exact Bx.set_same _ _ _|(simp only[Bx.set_ne _ (Ne.symm ne_p24_p18),Bx.set_ne _ (Ne.symm ne_p26_p18),Bx.set_ne _ (Ne.symm ne_p26_p24),Bx.set_ne _ ne_p24_p18,Bx.set_ne _ ne_p26_p18,Bx.set_ne _ ne_p26_p24,Bx.set_same];rfl));obtain⟨gp18,nTp18,kp18⟩:=kp18;obtain⟨gp24,nTp24,kp24⟩:=hr.b p24;obtain⟨gp26,nTp26,kp26⟩:=hr.b p26;clear gK;have Rr:Hid (∃T3,oW p26 d E s T3 w3 T3 w3∧(∀a,T3 a→T a∨(w.heap.size≤a∧a<w3.heap.size))∧¬T3 p2∧Mod (fun _=>False) w w3):=Hi (by
  obtain⟨hX,hS,hT,h0,gq,iu,hq,hdT⟩:=HX.out;obtain⟨ab',e,Ae⟩:=hr.k;cases e;have m3:=M2.out.then0 hr.mod;have z2:=M2.out.size;have z3:=hr.mod.size;have hold:=hr.old;have hlt:=hr.lt;have hDS:=hS.mod0 (dparts.good X d E s) m3;have l2:=P2L.out;have l18:=aA kp18;have l24:=aA kp24;have l26:=aA kp26;have hGK:GL g s.q s.K=GL g 0 []:=by rw[hq,iu.K]
  have hBK:iT ab (addB [] s.al)=iT ab []:=by rw[iu.al];rfl
  rw[←hGK,←hBK]at Ae;have A1:=Ae.add (K:=CeL p26 (pac ⟨d,g,ab,p18,.slice (some ⟨p24,0,none⟩) E.n E.n,.slice none 0 0,.slice none 0 0,.slice none 0 0⟩) 121) (T':=fun a=>a=p26) ⟨rfl,kp26⟩ (fun a ha h=>nTp26 (ha▸h));have A2:=A1.add (K:=OG p18 s.hi) (T':=fun a=>a=p18) ⟨rfl,_,_,kp18,by rw[iu.hi];exact aR.empty uP natV⟩ (fun a ha h=>by
   have ha:a=p18:=ha;subst ha;rcases h with h|h
   ·exact nTp18 h
   ·exact ne_p26_p18 h.symm)
  have A3:=A2.add (K:=CeL p24 ((List.replicate E.n (Value.slice none 0 0)).take E.n).toArray 53) (T':=fun a=>a=p24) ⟨rfl,by rw[List.take_replicate,Nat.min_self];exact kp24⟩ (fun a ha h=>by
   have ha:a=p24:=ha;subst ha;rcases h with(h|h)|h
   ·exact nTp24 h
   ·exact ne_p26_p24 h.symm
   ·exact ne_p24_p18 h)
  have hbat:BatL E.n (List.replicate E.n (Value.slice none 0 0)) (s.op++s.gi.map Prod.snd) (fun _=>False) w3:=by
   rw[iu.op,iu.gi,aYo,aYx];refine⟨by rw[aZ9,aZ9],fun j v l hv hl=> ?_,fun i j u v ig hu hv g hg=> ?_⟩
   ·have hv:=aXy (aZi hv);have hl:=aXy (aZi hl);subst hv;subst hl;exact⟨fun _=>aE.nil _ _,fun _=> .inl ⟨rfl,rfl⟩,fun g hg=>by cases hg⟩
   ·have hu:=aXy (aZi hu);subst hu;cases hg
  have A4:=A3.add hbat (fun _ h=>h.elim);have A5:=A4.add (K:=RowL drc 2 97 (.slice none 0 0) s.dr) (T':=fun _=>False) ⟨by rw[iu.dr];exact aE.nil _ _,fun g hg=>by cases hg⟩ (fun _ h=>h.elim);have A6:=A5.add (K:=RowL gvc 2 86 (.slice none 0 0) ([]:List Gv)) (T':=fun _=>False) ⟨aE.nil _ _,fun g hg=>by cases hg⟩ (fun _ h=>h.elim);have A7:=A6.add (K:=RowL ic 1 3 (.slice none 0 0) s.sd) (T':=fun _=>False) ⟨by rw[iu.sd];exact aE.nil _ _,fun g hg=>by cases hg⟩ (fun _ h=>h.elim);have gm:∀a,(((((((TR a∨a=p26)∨a=p18)∨a=p24)∨False)∨False)∨False)∨False)→w2.heap.size≤a∧a<w3.heap.size:=fun a h=>by
   rcases h with((((((h|h)|h)|h)|h)|h)|h)|h
   ·exact⟨Nat.le_of_not_lt (fun h2=>hold a h2 h),hlt a h⟩
   ·omega
   ·omega
   ·omega
   ·exact h.elim
   ·exact h.elim
   ·exact h.elim
   ·exact h.elim
  have A8:bW (VV ⟨d,g,ab,p18,.slice (some ⟨p24,0,none⟩) E.n E.n,.slice none 0 0,.slice none 0 0,.slice none 0 0⟩ p26 p24 (List.replicate E.n (Value.slice none 0 0)) [] E s) (fun a=>(((((((TR a∨a=p26)∨a=p18)∨a=p24)∨False)∨False)∨False)∨False)) w3:=by
   refine A7.pick (fun i=>[6,7,8,5,4,3,2,1,0].getD i 0) (fun i j hi hj e=> ?_) (fun i K hK=> ?_)
   ·have key:∀i,i<9→∀j,j<9→[6,7,8,5,4,3,2,1,0].getD i 0=[6,7,8,5,4,3,2,1,0].getD j 0→i=j:=by decide
    exact key i hi j hj e
   ·match i,hK with
    |0,hK=>exact hK
    |1,hK=>exact hK
    |2,hK=>exact hK
    |3,hK=>exact hK
    |4,hK=>exact hK
    |5,hK=>exact hK
    |6,hK=>exact hK
    |7,hK=>exact hK
    |8,hK=>exact hK
    |n+9,hK=>cases hK
  have A9:=bW.toPa (Y:=⟨d,g,ab,p18,.slice (some ⟨p24,0,none⟩) E.n E.n,.slice none 0 0,.slice none 0 0,.slice none 0 0⟩) (hDS.app A8 (fun a h xh=>by
   have:=gm a h;have:=hT a xh;omega))
  refine⟨_,oW.start ⟨_,rfl,rfl,⟨hX.win,hX.bat,hX.fli,hX.n1,hX.n2,hX.fv,hX.cv,hX.sv,rfl,hX.fl,hX.co,hX.sp,by rw[iu.op,aZ9],hX.la,by rw[iu.gi];rfl,by rw[iu.gi];rfl⟩,A9⟩ (fun a ha=> ?_) (fun ha=> ?_) (gq.mod0 m3),fun a ha=> ?_,fun ha=> ?_,m3⟩
  ·rcases ha with ha|ha
   ·exact aZd (hT a ha) m3.size
   ·exact(gm a ha).2
  ·rcases ha with ha|ha
   ·exact h0 ha
   ·have:=gm 0 ha;omega
  ·rcases ha with ha|ha
   ·exact .inl ha
   ·have:=gm a ha;exact .inr (by omega)
  ·have:=Fp.out;rcases ha with ha|ha
   ·have:=hT p2 ha;omega
   ·have:=gm p2 ha;omega)
 clear hr kp18 kp24 kp26 na;obtain⟨T3,Vf,yn,jk,m3⟩:=Rr.out;have iu:=HX.out.2.2.2.2.2.1;have H3:Hid (∃s' Tq,s'.D.length+s'.K.length=s.D.length+s.K.length∧eD E s'∧(∀t,cX E s' t→cX E s t)∧oW p26 d E s' T3 w3 Tq w3):=Hi ⟨s,T3,rfl,iu.ok,fun _ h=>h,Vf⟩;have Dc:=Hi (Ai yn (Ai jk m3));have KD:=Hi (Ai kd kp2);clear Vf yn jk m3 Rr iu kd kp2;go_wp2_with fail;apply wp_label;go_wp2_with fail
 go_loopg [] (s.D.length+s.K.length) (fun k ws=>Hid (∃s' Tq,s'.D.length+s'.K.length=k∧eD E s'∧(∀t,cX E s' t→cX E s t)∧oW p26 d E s' T3 w3 Tq ws))
 case atStart=>exact H3
 case round=>
  obtain⟨s',Tq,hk,ak,pq,hG⟩:=hrel.out;have vg:=NU hG.pa hG.lt hG.n0 hG.tw ak;obtain⟨z,hz⟩:∃z,decide (readyR (fillP E s'.D s').K≠[])=z:=⟨_,rfl⟩;rw[hz]at vg;have HR:=Hi vg;have HS:=Hi (Ai hk (Ai ak (Ai pq (Ai hG hz))));clear hk ak pq hG vg hz hrel;go_wp2_with fail;go_at_call 32;refine HR.out.mono ?_;rintro e w4 ⟨rfl,mr⟩;cases z with
  |true=>
   have HN:Hid (∃k',k'<s'.D.length+s'.K.length∧∃s2 Tq,s2.D.length+s2.K.length=k'∧eD E s2∧(∀t,cX E s2 t→cX E s t)∧oW p26 d E s2 T3 w3 Tq w4):=Hi (by
    obtain⟨hk,ak,pq,hG,hz⟩:=HS.out;have hz:=of_decide_eq_true hz;obtain⟨Tq2,Dj,_,_⟩:=hG.go mr;obtain⟨f1,f2,f3⟩:=nP (E:=E) (I:=eD E) (fun s h=>h.fi) (fun s y D i x h h1 h2 h3 h4 h5 _ _=>h.put h1 h2 h3 h4 h5) (fun s y D i x h h1 h2 h3 h4 h5 _=>h.drop h1 h2 h4 h5 _) _ s' rfl ak;obtain⟨g1,g2,g3⟩:=qR (E:=E) (I:=eD E) (fun s h=>h) (fun s i h hr=>h.step hr.mem) _ _ (j8 f1.kn) (fun i hi=>pL hi) f1;have hl:0<(readyR (fillP E s'.D s').K).length:=List.length_pos_iff.2 hz;refine⟨_,?_,hZ E s',Tq2,rfl,g1,fun t ht=>pq t (cX.go s' t hz ht),Dj⟩;show((readyR (fillP E s'.D s').K).foldl (stepP E) (fillP E s'.D s')).D.length+((readyR (fillP E s'.D s').K).foldl (stepP E) (fillP E s'.D s')).K.length<s'.D.length+s'.K.length;rw[g3];omega)
   obtain⟨k',cu,Cx⟩:=HN.out;have Cx:=Hi Cx;clear mr HN;go_wp2_with fail
   go_roundg k'
   case measure=>
    have:=HS.out.1;omega
   case rel=>exact Cx
  |false=>
   have HE:Hid (∃t Tq,cX E s t∧oW p26 d E t T3 w3 Tq w4):=Hi (by
    obtain⟨hk,ak,pq,hG,hz⟩:=HS.out;have hz:readyR (fillP E s'.D s').K=[]:=by simpa using of_decide_eq_false hz
    obtain⟨Tq2,Dj,_,_⟩:=hG.go mr;have hrp:hZ E s'=fillP E s'.D s':=by unfold hZ;rw[hz];rfl
    rw[hrp]at Dj;exact⟨_,Tq2,pq _ (cX.done s' hz),Dj⟩)
   clear mr HR HS;obtain⟨t,T4,ud,Cd⟩:=HE.out;have Je:=ud.law HX.out.2.2.2.2.2.1;have HL:=Hi (Ai ud (Ai Je.1 Je.2));have H4:Hid (∃Tq,oW p26 d E (endP 0 t) T3 w3 Tq w4):=Hi ⟨T4,Cd⟩;obtain⟨M,hp,hd,aq,hS⟩:=Cd.pa;obtain⟨T0,⟨_,kp⟩,_⟩:=hS.get (i:=0) rfl;have Rf:=aq.ov;rw[hp]at kp;unfold pac at kp;rw[hd,Rf]at kp;clear ud Je Cd hp hd aq hS Rf HE;go_wp2_with fail;clear kp;go_loopw [35] (fun s35 ws=>∃i:Nat,i≤E.n∧s35= .int .i64 (i:Int)∧Hid (∃Tq,oW p26 d E (endP i t) T3 w3 Tq ws)) (fun s35 _=>E.n-(intOf s35).toNat)
   case atStart=>exact⟨0,aYf _,rfl,H4⟩
   case round=>
    obtain⟨i,hi,rfl,HG⟩:=hrel;by_cases hlt:i<E.n
    ·obtain⟨Ti,hG⟩:=HG.out;have dp:Hid (Calls Tryz.prog 33 #[ptrV p26,.int .i64 (i:Int)] wr fun e w'=>e= .returned (.tuple #[])∧∃Tq,oW p26 d E (endP (i+1) t) T3 w3 Tq w'):=Hi (by
      obtain⟨ud,Mf,ak,hK,hD⟩:=HL.out;obtain⟨e1,e2,e3⟩:=BM t (j:=i) i (aZq _);have pz:i<t.op.length:=by rw[ak.lo];exact hlt
      have tx:i<t.la.length:=by rw[ak.ll];exact hlt
      have Wp:=aXt pz;have Az:=aXt tx;have jw:=ak.ol _ Wp;have cq:=ak.b2;have hbq:=ak.bq _ Az;have Ch:=ak.bb _ Az;have Om:=ak.bg;refine(CE hG.pa hG.lt hlt (b:=t.op[i]) (by rw[e1];exact aZb pz) (q:=t.la[i]) (by rw[e2];exact aZb tx) (by omega) (by omega) (by omega) (by omega)).mono ?_;rintro e w' ⟨he,mr⟩;rw[←kJ]at mr;obtain⟨Tq,hq,_⟩:=hG.go mr;exact⟨he,Tq,hq⟩)
     clear hG;go_wp2_with fail;go_at_call 33;refine dp.out.mono ?_;rintro e w5 ⟨rfl,hq⟩;have HQ:=Hi hq;clear hq dp;go_wp2_with fail;go_roundw
     case rel=>exact⟨i+1,by omega,by go_num,HQ⟩
     case measure=>simp[intOf];omega
    ·obtain rfl:i=E.n:=by omega
     obtain⟨T5,hG⟩:=HG.out;obtain⟨ud,Mf,ak,hK,hD⟩:=HL.out;obtain⟨e1,e2,e3,e4,e5,e6,e7,e8⟩:=sV E.n t;have hE:=nF.atEnd Mf hK hD;have ct:t.sd.Nodup:=by
      have:=hE.nodup;rw[e5,aZ7]at this;exact this.2.1
     have te:=ak.si;have fy:t.sd.length≤9000:=by
      have:=ak.bs;omega
     obtain⟨t5,yz⟩:∃t5,endP E.n t=t5:=⟨_,rfl⟩;rw[yz]at hG e1 e5;obtain⟨M,hp,hd,aq,hS⟩:=hG.pa;obtain⟨T0,⟨_,kp⟩,_⟩:=hS.get (i:=0) rfl;obtain⟨T17,bk,h17⟩:=hS.get (i:=17) rfl;obtain⟨av,ac,Dw,Bo,_⟩:=bk.1.at gL;obtain⟨n5,tz⟩:∃n5,t.sd.length=n5:=⟨_,rfl⟩;rw[e5,tz]at Dw;rw[e5]at Bo;rw[hp]at kp;unfold pac at kp;rw[Dw]at kp;rw[tz]at fy;obtain⟨T1,⟨_,kd⟩,_⟩:=hS.get (i:=1) rfl;rw[hd]at kd;unfold iE at kd;obtain⟨w5,hw5⟩:∃w5:We,w5=wr:=⟨_,rfl⟩;rw[←hw5]at hG hS kp kd Bo⊢;have H5:=Hi (Ai hG (Ai hp (Ai hd (Ai aq (Ai Dw (Ai e5 (Ai ct (Ai te (Ai tz (Ai yz (Ai hE e1)))))))))));have Ui:Hid (∃Tq,bW (parts M E {t5 with S:=(t.sd.take 0).foldl sO t5.S}) Tq w5∧(∀a,Tq a→a<w5.heap.size)∧Mod T5 w5 w5∧(∀a,Tq a→T5 a∨(w5.heap.size≤a∧a<w5.heap.size))):=Hi ⟨T5,hS,hG.lt,Mod.refl _ _,fun _ h=> .inl h⟩;clear hG hp hd aq hS Dw e5 ct te tz yz hE e1 e2 e3 e4 e6 e7 e8 ud Mf ak hK hD bk h17 Bo hw5;go_wp2_with fail;clear kp kd;go_loopw [48] (fun s48 ws=>∃i:Nat,i≤n5∧s48= .int .i64 (i:Int)∧Hid (∃Tq,bW (parts M E {t5 with S:=(t.sd.take i).foldl sO t5.S}) Tq ws∧(∀a,Tq a→a<ws.heap.size)∧Mod T5 w5 ws∧(∀a,Tq a→T5 a∨(w5.heap.size≤a∧a<ws.heap.size)))) (fun s48 _=>n5-(intOf s48).toNat)
     case atStart=>exact⟨0,aYf _,rfl,Ui⟩
     case round=>
      obtain⟨i,hi,rfl,HI⟩:=hrel;by_cases hlt:i<n5
      ·obtain⟨Tq,hS,pe,hm,bd⟩:=HI.out;obtain⟨hG,hp,hd,aq,Dw,e5,ct,te,tz,yz,hE,e1⟩:=H5.out;obtain⟨k,hk⟩:∃k,t.sd[i]? =some k:=⟨_,aZb (by rw[tz];exact hlt)⟩;obtain⟨T1,⟨_,kd⟩,_⟩:=hS.get (i:=1) rfl;obtain⟨T17,bk,_⟩:=hS.get (i:=17) rfl;rw[hd]at kd;obtain⟨av2,ac2,Oj,Bp,_⟩:=bk.1.at gL;rw[Dw]at Oj;injection Oj with ot gy th
       clear gy th;subst ot;have Bp:aS ic 1 wr av t5.sd:=Bp;rw[e5]at Bp;obtain⟨g,o,C,U,fr,e,kg,hx,dh⟩:=Bp.block hk;subst e;simp only[aYp]at hx dh;have vv:C[o+i]? =some (.int .i64 k.toInt):=by
        have h1:=congrArg (fun A=>A[0]?) hx;rw[aYl]at h1;split at h1
        ·rw[aXz]at h1;exact h1
        ·omega
       have nh:∀h:o+i<C.size,C[o+i]= .int .i64 k.toInt:=fun h=>aU vv h;obtain⟨x,Cq,iz,dx⟩:=te k (aZi hk);have Fa:t.sd=t.sd.take i++k::t.sd.drop (i+1):=by
        have hi:=(aZa.1 hk).1;obtain⟨_,e⟩:=aZa.1 hk;rw[←e,List.getElem_cons_drop,aY9]
       have Wq:k∉t.sd.take i:=fun hm=>by
        rw[Fa,aZ7]at ct;exact ct.2.2 k hm k List.mem_cons_self rfl
       have ww:itS ((t.sd.take i).foldl sO t5.S) k=some x:=by
        rw[F8 Wq (fun m hm=>by obtain⟨_,_,_,h⟩:=te m (List.mem_of_mem_take hm);exact h) dx,e1];exact Cq
       have Hf:=itS_get ww;have Gf:ix k<4096:=by
        have h1:=(aZa.1 (itS_get Cq)).1;have h2:=(HL.out.2.2.1).fi.sl;omega
       have hkI:k.toInt=((ix k:Nat):Int):=by
        conv=>lhs;rw[dx]
        exact bR (by omega)
       have ef:(t.sd.take (i+1)).foldl sO t5.S=((t.sd.take i).foldl sO t5.S).set (ix k) (some {x with pl:=0}):=by
        rw[aYa,hk,aXl];exact PR ww
       have au:Hid (Calls Tryz.prog 34 #[ptrV M.D.b,.int .i64 k.toInt] wr fun e w'=>e= .returned (.int .i64 0)∧Goes (bW (parts M E {t5 with S:=(t.sd.take (i+1)).foldl sO t5.S})) Tq wr w'):=Hi (by
        rw[hkI,ef];exact bW.callX (R:=fun e _=>e= .returned (.int .i64 0)) (parts.good M E {t5 with S:=(t.sd.take i).foldl sO t5.S}) pe hS (i:=2) (K:=BT M.D.b ((t.sd.take i).foldl sO t5.S)) (K':=BT M.D.b (((t.sd.take i).foldl sO t5.S).set (ix k) (some {x with pl:=0}))) rfl (fun T3 bd ht hg=>BT.back hg Hf iz))
       have HQ:=Hi (Ai pe (Ai hm bd));unfold iE at kd;clear hS pe hm bd hG hp hd aq e5 ct te tz yz hE e1 bk Bp hx dh Cq iz dx Fa Wq ww Hf Gf hkI ef hk Dw;go_wp2_with fail;go_at_call 34;refine au.out.mono ?_;rintro e w6 ⟨rfl,T6,eu,ke,ji⟩;have HN:Hid (∃Tq,bW (parts M E {t5 with S:=(t.sd.take (i+1)).foldl sO t5.S}) Tq w6∧(∀a,Tq a→a<w6.heap.size)∧Mod T5 w5 w6∧(∀a,Tq a→T5 a∨(w5.heap.size≤a∧a<w6.heap.size))):=Hi (by
        obtain⟨pe,hm,bd⟩:=HQ.out;have z1:=hm.size;have z2:=ke.size;refine⟨T6,eu,cQ pe ke ji,hm.then ke (fun a ha ht=>(bd a ht).resolve_right (by omega)),fun a ha=> ?_⟩;rcases ji a ha with h|h
        ·rcases bd a h with h|h
         ·exact .inl h
         ·exact .inr (by omega)
        ·exact .inr (by omega))
       clear eu ke ji au kg vv nh;go_wp2_with fail;go_roundw
       case rel=>exact⟨i+1,by omega,by go_num,HN⟩
       case measure=>simp[intOf];omega
      ·obtain rfl:i=n5:=by omega
       obtain⟨Tq,hS,pe,hm,bd⟩:=HI.out;rw[aY6 (Nat.le_of_eq H5.out.2.2.2.2.2.2.2.2.1)]at hS;obtain⟨t6,yh⟩:∃t6:Pa,{t5 with S:=t.sd.foldl sO t5.S}=t6:=⟨_,rfl⟩;rw[yh]at hS;obtain⟨T0,⟨_,kp⟩,_⟩:=hS.get (i:=0) rfl;obtain⟨T4r,yd,_⟩:=hS.get (i:=4) rfl;obtain⟨T16,yb,_⟩:=hS.get (i:=16) rfl;obtain⟨T17,yc,_⟩:=hS.get (i:=17) rfl;obtain⟨da,dc,Gd,Dy,Dz,_⟩:=fV P7 yd.1;obtain⟨ga,gc,xp,Ec,Ed,_⟩:=fV WX yb.1;obtain⟨aa,ac3,ot,Du,Dv,_⟩:=fV gL yc.1;have kp2:=(hm.at (H5.out.1.m.at KD.out.2 Dc.out.2.1) (fun h5=>by
        rcases H5.out.1.sub p2 h5 with h|h
        ·exact Dc.out.2.1 h
        ·have:=aA KD.out.2;omega))
       obtain⟨dn,Ci⟩:∃dn,t6.dr.length=dn:=⟨_,rfl⟩;obtain⟨gn,Mc⟩:∃gn,M.G.length=gn:=⟨_,rfl⟩;obtain⟨an,Lw⟩:∃an,t6.sd.length=an:=⟨_,rfl⟩;rw[Ci]at Gd Dy;rw[Mc]at xp Ec;rw[Lw]at ot Du;rw[Gd]at Dy;rw[xp]at Ec;rw[ot]at Du;rw[H5.out.2.1]at kp;unfold pac at kp;rw[Gd,xp,ot]at kp;have HDC:=Hi Dy;have HGC:=Hi Ec;have HAC:=Hi Du;have H6:=Hi (Ai hS (Ai pe (Ai hm (Ai bd (Ai yh (Ai Dz (Ai Ed (Ai Dv (Ai Ci (Ai Mc (Ai Lw (Ai Gd (Ai xp ot)))))))))))));clear hS pe hm bd yh Dz Ed Dv Ci Mc Lw Dy Ec Du Gd xp ot yd yb yc;go_upto_region 16 with fail;have Lkp:=aA kp;have Lkp2:=aA kp2;refine iR (T0:=fun _=>False) (K:=fun _ _=>True) (κ:=fun i=>[0,0,0,0,0,6,0,0,0,0,0,6,0,0,0,0,0,6,0,6,0].getD i 0) (υ:=fun _=>[]) [0,1,2,3,4,5,6,7,8,9,10,11,12,13,14,15,16,17,18] [19,20] (by kernel_rfl) (by kernel_rfl) (aH.true).cl (trivial) (fun _ h=>h.elim) ?_;have gK:=aH.true
       iterate 4 refine Zg ?_
       refine Zh ?_;(refine ZG (fun v=>v= .slice ga gn gn) gK ?_ (s:=fun T wq kq ltq ae ub=>by exact(DR _ wq gn HGC.out).mono (fun e w' h=>⟨_,h.1,rfl,by rw[h.2];exact Mod.refl _ _⟩));rintro v21 hC;subst hC;try simp only[zL])
       iterate 4 refine Zg ?_
       refine Zh ?_;(refine ZG (fun v=>v= .slice da dn dn) gK ?_ (s:=fun T wq kq ltq ae ub=>by exact(DS _ wq dn HDC.out).mono (fun e w' h=>⟨_,h.1,rfl,by rw[h.2];exact Mod.refl _ _⟩));rintro v27 hC;subst hC;try simp only[zL])
       iterate 4 refine Zg ?_
       refine Zh ?_;(refine ZG (fun v=>v= .slice aa an an) gK ?_ (s:=fun T wq kq ltq ae ub=>by exact(clipI_cG _ _ wq an rfl HAC.out).mono (fun e w' h=>⟨_,h.1,rfl,by rw[h.2];exact Mod.refl _ _⟩));rintro v33 hC;subst hC;try simp only[zL]);(refine TG.build (v:= ?v34) (ps:= ?p34) (by simp only[zK];rfl) rfl (by rfl) rfl ?hx34 (fun w1=> ?y34) ?n34;(case hx34=>(simp only[aYr,aZo,aYo,zM];(try rfl)));(case y34=>(rw[(PT ga da aa gn dn an)];(try with_reducible rfl)));try simp only[zL]);refine TG.nil (fun w7 ⟨TR,hr⟩=> ?_);replace kp:=hr.q kp;replace kp2:=hr.q kp2;clear gK;have m7:=Hi hr.mod;clear hr;refine Zz ?_;refine ZS ?_;refine ZM kp2 fun wn kp2 mS=> ?_;(try simp only[Array.setIfInBounds,zL]at kp2);have MS8:=Hi mS;refine Ze ?_;refine TE.nil ?_;have ms8:=mS;obtain⟨w8,Tg⟩:∃w8,wn=w8:=⟨_,rfl⟩;rw[Tg]at kp2 MS8⊢;clear Tg ms8;go_wp2_with fail;(try simp only[Exit.noGoto]);have hk28:w8.heap[p2]? =some (.cells #[.slice ga gn gn,.slice da dn dn,.slice aa an an] 55 (0,0)):=by simpa using kp2
       have HSF:Hid (bW (parts M E t6) Tq wr→(∀a,Tq a→T5 a∨(w5.heap.size≤a∧a<wr.heap.size))→bW (parts M E t6) Tq w8):=Hi (fun hS bd=>by
        have mf:Mod (fun i=>i=p2) wr w8:=(m7.out.mono (fun _ _ h=>h.elim)).trans MS8.out;refine(bW.good (parts.good M E t6)).cl _ _ _ hS (mf.mono (fun a _ hi xj=> ?_));subst hi;have l2:=aA KD.out.2;have z:=H5.out.1.m.size;rcases bd _ xj with h|h
        ·rcases H5.out.1.sub _ h with h|h
         ·exact Dc.out.2.1 h
         ·omega
        ·omega)
       refine bodyPost_ret (results_cell2 (x:= .agg #[.slice ga gn gn,.slice da dn dn,.slice aa an an]) rfl rfl (by rw[BZ];simp[hk28])) rfl ⟨t,_,HL.out.1,rfl,?_,?_⟩
       ·obtain⟨hS,pe,hm,bd,yh,Dz,Ed,Dv,Ci,Mc,Lw,Gd,xp,ot⟩:=H6.out;obtain⟨hG,hp,hd,aq,Dw,e5,ct,te,tz,yz,hE,e1⟩:=H5.out;have Lu:=HSF.out hS bd;obtain⟨T4r,yd,_⟩:=Lu.get (i:=4) rfl;obtain⟨T15,qk,_⟩:=Lu.get (i:=15) rfl;obtain⟨T16,yb,_⟩:=Lu.get (i:=16) rfl;obtain⟨T17,yc,_⟩:=Lu.get (i:=17) rfl;obtain⟨a1,c1,f1,_,s1,_⟩:=fV P7 yd.1;obtain⟨a2,c2,f2,_,s2,_⟩:=fV WX yb.1;obtain⟨a3,c3,f3,_,s3,_⟩:=fV gL yc.1;rw[Gd]at f1;rw[xp]at f2;rw[ot]at f3;injection f1 with f1 _ _
        injection f2 with f2 _ _
        injection f3 with f3 _ _
        subst f1;subst f2;subst f3;rw[yz];have vy:t6.gi=t5.gi:=by rw[←yh]
        have aj:t6.op=t5.op:=by rw[←yh]
        have uu:t6.dr=t5.dr:=by rw[←yh]
        have wl:t6.sd=t5.sd:=by rw[←yh]
        have Vw:t5.gi.length=gn:=by rw[←Mc];exact aq.gl
        have Ee:=aq.gw;have re:=qk.1;rw[vy,aj,aZg,aq.op,aZs]at re;refine⟨ga,da,aa,M.G,by rw[Vw,←uu,Ci,←wl,Lw],s2,?_,fun j x b hx hb=> ?_,by rw[←uu];exact s1,by rw[←wl];exact s3⟩
        ·have h1:=congrArg (List.map Prod.fst) Ee;rw[aX0,List.map_fst_zip (by rw[aZs,List.length_drop];omega)]at h1;exact h1
        ·have h1:=congrArg (fun l=>l[j]?) Ee;simp only[aZv,hx,aYj]at h1;have h2:=List.getElem?_zip_eq_some.1 h1.symm;obtain⟨h3,h4⟩:=h2;rw[List.getElem?_drop]at h4;have h5:(t6.op++t6.gi.map Prod.snd)[E.n+j]? =some b.2:=by
          rw[vy,aj,aZ3 (by rw[aq.op];omega),aq.op,aXs,aZv,hb];rfl
         obtain⟨_,hN,_⟩:=qk.2.1 _ _ _ h4 h5;obtain⟨a4,f4,s4,_⟩:=(hN (by omega)).at;injection f4 with f5 f6 _
         rw[f5];exact⟨f6,s4⟩
       ·obtain⟨hS,pe,hm,bd,yh,Dz,Ed,Dv,Ci,Mc,Lw,Gd,xp,ot⟩:=H6.out;obtain⟨hG,hp,hd,aq,Dw,e5,ct,te,tz,yz,hE,e1⟩:=H5.out;have Lu:=HSF.out hS bd;rw[yz];have ht7:({t5 with S:=wZ t5}:Pa)=t6:=by
         have h1:wZ t5=t.sd.foldl sO t5.S:=by
          unfold wZ;rw[e5]
         rw[h1];exact yh
        rw[ht7];have hDk:=bW.toDk Lu;rw[hd]at hDk;have h3:=Dc.out;have l2:=aA KD.out.2;have g2:=Fp.out;have z3:=h3.2.2.size;have z5:=hG.m.size;have z6:=hm.size;have z7:=m7.out.size;have z8:=MS8.out.size;refine⟨Tq,⟨UU M,⟨aq.win,aq.bat,aq.fli,aq.n1,aq.n2,aq.fv,aq.cv,aq.sv,by rw[←yh];exact aq.fl,by rw[←yh];exact aq.co,aq.sp,by rw[←yh];exact aq.la⟩,hDk⟩,?_,fun a ha=> ?_⟩
        ·have c3:∀a,T3 a→a<w.heap.size→T a:=fun a ha hl=>(h3.1 a ha).resolve_right (by omega);have c5:∀a,T5 a→a<w.heap.size→T a:=fun a ha hl=>c3 a ((hG.sub a ha).resolve_right (by omega)) hl;have k3:Mod T w w3:=h3.2.2.mono (fun _ _ h=>h.elim);exact(((k3.then hG.m (fun a hl ha=>c3 a ha hl)).then hm (fun a hl ha=>c5 a ha hl)).then0 m7.out).then MS8.out (fun a hl ha=>by omega)
        ·rcases bd a ha with h|h
         ·rcases hG.sub a h with h|h
          ·rcases h3.1 a h with h|h
           ·exact .inl h
           ·exact .inr (by omega)
          ·exact .inr (by omega)
         ·exact .inr (by omega)
end
def OS (n:Wk):aN:=⟨n::List.replicate 31 0,by simp⟩
def TH (n:Wk):Sg:=⟨n::List.replicate 63 0,by simp⟩
def rZ (p:Wj) (g k:Wk):AZ:=⟨[],[TH g],false,0,0,0,[],gW,[],[],[⟨OS k,false,true⟩],0,0,0,0,100,p⟩
def evE:Ev:=⟨8,4,4,2,[4607182418800017408,4607182418800017408],[gW],[]⟩
def YH (n p:Wj) (g k:Wk):It:=⟨n,rZ p g k,0,false⟩
def TJ:List (Option It):=some (YH 1 9 1 50)::some (YH 2 5 2 50)::some (YH 3 7 3 51)::List.replicate 57 none
def paE:Pa:= {OY 60 2 with S:=TJ,D:=[⟨⟨9,1⟩,idn 0⟩,⟨⟨7,3⟩,idn 2⟩,⟨⟨5,2⟩,idn 1⟩],op:=[[],[]]}
theorem YA:(readyR (fillP evE paE.D paE).K).isEmpty=false:=by kernel_rfl
theorem YB:(readyR (fillP evE (hZ evE paE).D (hZ evE paE)).K).isEmpty=false:=by kernel_rfl
def paE2:Pa:=hZ evE (hZ evE paE)
theorem YC:(readyR (fillP evE paE2.D paE2).K).isEmpty=true:=by kernel_rfl
theorem UX:(endP 2 (fillP evE paE2.D paE2)).gi=[(0,[idn 0]),(0,[idn 1]),(1,[idn 2])]:=by kernel_rfl
theorem X7:(endP 2 (fillP evE paE2.D paE2)).fl=[2,1]:=by kernel_rfl
theorem X6:(endP 2 (fillP evE paE2.D paE2)).co=[200,100]:=by kernel_rfl
theorem QI:(endP 2 (fillP evE paE2.D paE2)).dr=[]∧(endP 2 (fillP evE paE2.D paE2)).sd=[]:=⟨by kernel_rfl,by kernel_rfl⟩
theorem UY {t:Pa} (h:cX evE paE t):t=fillP evE paE2.D paE2:=by
 cases h with
 |done _ hr=>
  have:=YA;rw[hr]at this;cases this
 |go _ _ _ h=>
  cases h with
  |done _ hr=>
   have:=YB;rw[hr]at this;cases this
  |go _ _ _ h=>
   cases h with
   |done _ hr=>rfl
   |go _ _ hr h=>
    have:=YC;rw[List.isEmpty_iff]at this;exact absurd this hr
section
def SZ:Wa:=oY (.slice none 0 0) 0 0 0 0 (.int .u64 0) (.int .u64 0) (.int .u64 0) (.int .u64 0) 0 (.slice none 0 0)
theorem OT (w:We) (b o:Nat):(Instr.loadAt 28 (.pointer (some ⟨b,o,none⟩))).run Tryz.prog w=
   match w.heap[b]? with
   |some (.cells cs _ _)=>if o+11≤cs.size then .ok (.agg (cs.extract o (o+11))) w else dU Tryz.prog w 28 b o
   |_=>dU Tryz.prog w 28 b o:=bK (d:=_) Tryz.underlying28 rfl (by kernel_rfl) w b o
theorem WA (w:We) (b o:Nat) (xs:Wa):(Instr.storeAt 28 (.pointer (some ⟨b,o,none⟩)) (.agg xs)).run Tryz.prog w=
   match w.heap[b]? with
   |some (.cells cs U (0,0))=>
    if o+11≤cs.size∧xs.size=11∧xs.all (·.oneCell')=true then .ok () (setBlock w b (.cells (if o=0∧11=cs.size then xs else wr cs o xs.toList) U (0,0)))else eM Tryz.prog w 28 b o (.agg xs)
   |_=>eM Tryz.prog w 28 b o (.agg xs):=bQ (by kernel_rfl) w b o xs
theorem alCfg (w:We):(Instr.alloc 28 true (.tuple #[])).run Tryz.prog w= .ok (.pointer (some ⟨w.heap.size,0,none⟩)) (w.alloc (.cells SZ 28)):=
 aY (z:= .agg SZ) (fun w=>by kernel_rfl) w
attribute [local go_sem↓] OT WA
attribute [local go_sem] SZ oY
theorem PW (w:We):(Instr.buildSlice 26 1 #[(0,.bool true)]).run Tryz.prog w= .ok (.slice (some ⟨w.heap.size,0,none⟩) 1 1) (w.alloc (.cells #[.bool true] 4)):=by kernel_rfl
theorem P2 (x:Nat) (w:We):(Instr.buildSlice 22 1 #[(0,.float .f64 x)]).run Tryz.prog w= .ok (.slice (some ⟨w.heap.size,0,none⟩) 1 1) (w.alloc (.cells #[.float .f64 x] 129)):=by kernel_rfl
theorem PS (a:Wb) (w:We):(Instr.build 28 #[(1,.int .i64 60),(2,.int .i64 8),(3,.int .i64 4),(4,.int .i64 4),(8,.slice a 1 1)]).run Tryz.prog w= .ok (.agg #[.slice none 0 0,.int .i64 60,.int .i64 8,.int .i64 4,.int .i64 4,.int .u64 0,.int .u64 0,.int .u64 0,.int .u64 0,.int .i64 0,.slice a 1 1]) w:=by kernel_rfl
theorem plain_c (w:We) (n:Nat) (hn:n≤64):Calls Tryz.prog 26 #[.int .i64 (n:Int)] w fun e w'=>∃sa sc oa,e= .returned (.agg (oY (.slice sa n sc) 60 8 4 4 (u64v 0) (u64v 0) (u64v 0) (u64v 0) 0 (.slice oa 1 1)))∧aS qT 1 w' sa (List.replicate n 4607182418800017408)∧aS BD 1 w' oa [true]∧Mod (fun _=>False) w w':=by
 go_enter Tryz.func26,Tryz.ntmps26;go_upto_region 0 with fail;refine ZP0 [3] ?_;refine Za alCfg fun p2 ce=> ?_;refine TD.nil (fun w1 hr=> ?_);obtain⟨gp2,kp2⟩:=hr.b p2;have m1:=hr.mod;clear hr;go_upto_region 1 with fail;have Lkp2:=aA kp2;refine ZP0 [3,0,3,4] ?_;refine Zy PW fun p5 ip=> ?_;refine Zu (PS _) ?_;refine Za alCfg fun p3 yv=> ?_;obtain⟨ne_p3_p5,yv⟩:=Bx.set_none yv;refine Zt ?_;refine TD.nil (fun w2 hr=> ?_);replace kp2:=hr.q kp2;obtain⟨gp5,kp5⟩:=hr.b p5;obtain⟨gp3,kp3⟩:=hr.b p3;have m2:=m1.then0 hr.mod;have hb:aS BD 1 w2 (some ⟨p5,0,none⟩) [true]:=aS.one kp5 true rfl rfl;have hb5:=aA kp5;have L23:=Hi (aA kp3);have Rq:p5≠p2:=by have:=aA kp2;omega
 have HG:=Hi (Ai gp2 gp3);have n23:p2≠p3:=by have:=aA kp2;omega
 have Kk:Hid (aE qT 1 129 w2 0 (.slice none 0 0) (List.replicate 0 4607182418800017408)∧∀g,(Value.slice none 0 0).ownBlock=some g→w2.heap.size≤g):=Hi ⟨aE.nil _ _,fun g hg=>by cases hg⟩;have M2:=Hi (Ai m2 (Ai hb (Ai kp2 kp5)));have aw:p5≠p3:=fun e=>ne_p3_p5 e.symm;clear hr m1 m2 hb kp5 kp2;go_wp2_with fail;go_loopw [4] (fun s4 ws=>∃i:Nat,i≤n∧s4= .int .i64 (i:Int)∧∃a c,ws.heap[p3]? =some (.cells #[.slice a i c,.int .i64 60,.int .i64 8,.int .i64 4,.int .i64 4,.int .u64 0,.int .u64 0,.int .u64 0,.int .u64 0,.int .i64 0,.slice (some ⟨p5,0,none⟩) 1 1] 28 (0,0))∧Hid (aE qT 1 129 ws 0 (.slice a i c) (List.replicate i 4607182418800017408)∧∀g,(Value.slice a i c).ownBlock=some g→w2.heap.size≤g)∧Mod (fun x=>x=p3) w2 ws) (fun s4 _=>n-(intOf s4).toNat)
 case atStart=>exact⟨0,aYf _,rfl,none,0,kp3,Kk,Mod.refl _ _⟩
 case round=>
  obtain⟨i,hi,rfl,a,c,k3,HS,hm⟩:=hrel;by_cases hlt:i<n
  ·have HM:=Hi hm;clear hm;go_upto_region 5 with fail;have Lk3:=aA k3;refine ZP0 [0,1,3,5,0,6] ?_;refine Zv ?_;refine Zd ?_;refine Zy (P2 4607182418800017408) fun p14 xy=> ?_;refine Zi fun w4 hr=> ?_;replace k3:=hr.q k3;obtain⟨gp14,kp14⟩:=hr.b p14;have m4:=hr.mod;have az:∃v6 w6,(Builtin.append_ #[22,22] 22 #[.slice a i c,.slice (some ⟨p14,0,none⟩) 1 1]).run Tryz.prog w4= .ok v6 w6∧(∃a6 c6,v6= .slice a6 (i+1) c6)∧aE qT 1 129 w6 0 v6 (List.replicate (i+1) 4607182418800017408)∧(∀g,v6.ownBlock=some g→w2.heap.size≤g)∧w6.heap[p3]? =w4.heap[p3]? ∧Mod (fun x=>x=p3) w2 w6:=by
    obtain⟨hO,hg⟩:=HS.out;have z:=HM.out.size;have z4:=m4.size;obtain⟨v6,w6,h1,h2,h3,h4⟩:=aE.append ID (q:=[4607182418800017408]) (c:=1) (hO.mod0 m4) (aS.one kp14 4607182418800017408 rfl rfl) (by rw[aZ9,aZx];omega) (by decide) (aYf _) 22;have hl:(List.replicate i 4607182418800017408++[4607182418800017408])=List.replicate (i+1) 4607182418800017408:=by rw[List.replicate_succ']
    rw[hl]at h2;have Hx:=aA k3;rw[aZx]at h1;refine⟨v6,w6,h1,?_,h2,fun g xo=> ?_,?_,?_⟩
    ·obtain⟨a6,c6,e6,_⟩:=h2.at ID;rw[aZ9]at e6;exact⟨a6,c6,e6⟩
    ·rcases h4 with h4|h4
     ·exact hg g (by rw[←h4];exact xo)
     ·rw[h4]at xo;cases xo;omega
    ·have:=h3.at k3 (fun e=>by
      have:=hg p3 e;have:=L23.out;omega)
     rw[this,k3]
    ·exact((HM.out.then0 m4).then h3 (fun x hx e=>by
      have:=hg x e;omega))
   obtain⟨v6,w6,az,⟨a6,c6,rfl⟩,im,xo,k6,m6⟩:=az;rw[k3]at k6;have HO:=Hi (Ai im (Ai xo m6));clear im xo m6 k3 hr m4 kp14;refine ZA az ?_;refine Ze ?_;refine Zz ?_;refine ZS ?_;refine ZN k6 fun wn k6 mS=> ?_;(try simp only[Array.setIfInBounds,zL]at k6);have HF:Hid (aE qT 1 129 wn 0 (.slice a6 (i+1) c6) (List.replicate (i+1) 4607182418800017408)∧(∀g,(Value.slice a6 (i+1) c6).ownBlock=some g→w2.heap.size≤g)∧Mod (fun x=>x=p3) w2 wn):=Hi (by
    obtain⟨im,xo,m6⟩:=HO.out;exact⟨im.mod mS (fun g hg e=>by
     have:=xo g hg;have:=L23.out;omega),xo,m6.trans mS⟩)
   have k6:wn.heap[p3]? =some (.cells #[.slice a6 (i+1) c6,.int .i64 60,.int .i64 8,.int .i64 4,.int .i64 4,.int .u64 0,.int .u64 0,.int .u64 0,.int .u64 0,.int .i64 0,.slice (some ⟨p5,0,none⟩) 1 1] 28 (0,0)):=by simpa using k6
   clear mS az HO;go_wp2_with fail;go_roundw
   case rel=>exact⟨i+1,by omega,by go_num,a6,c6,k6,Hi ⟨HF.out.1,HF.out.2.1⟩,HF.out.2.2⟩
   case measure=>simp[intOf];omega
  ·obtain rfl:i=n:=by omega
   have k2:=hm.at M2.out.2.2.1 n23;have HM:=Hi hm;clear hm;go_upto_region 6 with fail;have Lk3:=aA k3;have Lk2:=aA k2;refine ZP0 [1,5] ?_;refine Zd ?_;refine Zi fun wE hr=> ?_;replace k3:=hr.mod.at0 k3;replace k2:=hr.mod.at0 k2;have mE:=hr.mod;refine ZS ?_;refine ZN k2 fun w4 k2 mS=> ?_;(try simp only[Array.setIfInBounds,zL]at k2);replace k3:=mS.at_ne k3 (by omega);have HE:Hid (aS qT 1 w4 a (List.replicate i 4607182418800017408)∧aS BD 1 w4 (some ⟨p5,0,none⟩) [true]∧Mod (fun _=>False) w w4):=Hi (by
    obtain⟨m2,hb,kp2,kp5⟩:=M2.out;obtain⟨a2,c2,e2,fy,_⟩:=HS.out.1.at ID;injection e2 with e3 _ _
    subst e3;have z2:=m2.size;have l23:=L23.out;have ms:Mod (fun x=>x=p2) wr w4:=(mE.mono (fun _ _ h=>h.elim)).trans mS;have ip:p5≠p2:=fun e=>Rq e;refine⟨fy.mod ms (fun b o e cq=> ?_),?_,?_⟩
    ·have:=HS.out.2 b (by rw[e];rfl);omega
    ·exact aS.one (ms.at (HM.out.at kp5 aw) ip) true rfl rfl
    ·exact(m2.then HM.out (fun x hx e=>by omega)).then ms (fun x hx e=>by omega))
   have k2:w4.heap[p2]? =some (.cells #[.slice a i c,.int .i64 60,.int .i64 8,.int .i64 4,.int .i64 4,.int .u64 0,.int .u64 0,.int .u64 0,.int .u64 0,.int .i64 0,.slice (some ⟨p5,0,none⟩) 1 1] 28 (0,0)):=by simpa using k2
   go_wp2_with fail;exact bodyPost_ret (results_cell1 (v:= .agg #[.slice a i c,.int .i64 60,.int .i64 8,.int .i64 4,.int .i64 4,.int .u64 0,.int .u64 0,.int .u64 0,.int .u64 0,.int .i64 0,.slice (some ⟨p5,0,none⟩) 1 1]) rfl rfl (by rw[OT];simp[k2])) rfl ⟨a,c,_,rfl,HE.out⟩
attribute [local go_sem↓] nB jX mX kG yG
attribute [local go_sem] bI dZ eT kS
def VY (p:Wj) (g k:Wk) (sa ra:Nat):cT:= {rd0 with sg:=⟨some ⟨sa,0,none⟩,[TH g],1⟩,ro:=⟨some ⟨ra,0,none⟩,[⟨OS k,false,true⟩],1⟩,cost:=100,prio:=p}
def Z1 (a:Nat):Wa:=(b9 {rd0 with sg:=⟨some ⟨a,0,none⟩,[sg0],1⟩}).extract 1 41
theorem XO (g:Wk) (w:We):(Instr.build 92 #[(0,.int .u8 (g.toNat:Int))]).run Tryz.prog w= .ok (.agg (sgc (TH g))) w:=by kernel_rfl
theorem UI (g:Wk) (w:We):(Instr.buildSlice 30 1 #[(0,.agg (sgc (TH g)))]).run Tryz.prog w= .ok (.slice (some ⟨w.heap.size,0,none⟩) 1 1) (w.alloc (.cells (sgc (TH g)) 92)):=by kernel_rfl
theorem XP (a:Nat) (w:We):(Instr.build 41 #[(0,.slice (some ⟨a,0,none⟩) 1 1)]).run Tryz.prog w= .ok (.agg (Z1 a)) w:=by kernel_rfl
theorem XL (k:Wk) (w:We):(Instr.build 107 #[(0,.int .u8 (k.toNat:Int))]).run Tryz.prog w= .ok (.agg (kc (OS k))) w:=by kernel_rfl
theorem XN (k:Wk) (w:We):(Instr.build 178 #[(0,.agg (kc (OS k))),(2,.bool true)]).run Tryz.prog w= .ok (.agg (rcr ⟨OS k,false,true⟩)) w:=by kernel_rfl
theorem UH (k:Wk) (w:We):(Instr.buildSlice 42 1 #[(0,.agg (rcr ⟨OS k,false,true⟩))]).run Tryz.prog w= .ok (.slice (some ⟨w.heap.size,0,none⟩) 1 1) (w.alloc (.cells (rcr ⟨OS k,false,true⟩) 178)):=by kernel_rfl
theorem XM (p:Wj) (g k:Wk) (sa ra:Nat) (w:We):(Instr.build 46 #[(6,u64v p),(5,.int .u64 100),(1,.agg (Z1 sa)),(2,.slice (some ⟨ra,0,none⟩) 1 1)]).run Tryz.prog w= .ok (.agg (b9 (VY p g k sa ra))) w:=by kernel_rfl
theorem K5 (w:We) (p:Wj) (g k:Wk):Calls Tryz.prog 27 #[u64v p,.int .u8 (g.toNat:Int),.int .u8 (k.toNat:Int)] w fun e w'=>∃x:cT,e= .returned (.agg (b9 x))∧x.con=rZ p g k∧eL w' x∧jR (fun i=>w.heap.size≤i∧i<w'.heap.size) x∧Mod (fun _=>False) w w':=by
 go_enter Tryz.func27,Tryz.ntmps27;go_upto_region 0 with fail;refine ZP0 [3] ?_;refine Za alRdy fun p6 rh=> ?_;refine TD.nil (fun w1 hr=> ?_);obtain⟨gp6,kp6⟩:=hr.b p6;have m1:=hr.mod;clear hr;go_upto_region 1 with fail;have Lkp6:=aA kp6;refine ZP0 [0,0,0,3,0,0,0,0,3,0,5] ?_
 iterate 2 refine Zv ?_
 refine Zu (XO g) ?_;refine Zy (UI g) fun p10 ph=> ?_;refine Zu (XP p10) ?_;refine Zv ?_;refine Zu (XL k) ?_;refine Zu (XN k) ?_;refine Zy (UH k) fun p15 ve=> ?_;obtain⟨ne_p15_p10,ve⟩:=Bx.set_none ve;refine Zu (XM p g k p10 p15) ?_;refine Zi fun w3 hr=> ?_;replace kp6:=hr.q kp6;obtain⟨gp10,kp10⟩:=hr.b p10;obtain⟨gp15,kp15⟩:=hr.b p15;have m3:=hr.mod;clear hr;refine ZS ?_;refine ZN kp6 fun wn kp6 mS=> ?_;(try simp only[Array.setIfInBounds,zL]at kp6);obtain⟨w2,ny⟩:∃w2,wn=w2:=⟨_,rfl⟩;rw[ny]at kp6 mS⊢;have l6:=aA kp6;have kp10:=mS.at_ne kp10 (by omega);have kp15:=mS.at_ne kp15 (by omega);have kp6:w2.heap[p6]? =some (.cells (b9 (VY p g k p10 p15)) 46 (0,0)):=by simpa using kp6
 have hmf:Mod (fun _=>False) w w2:=(m1.then0 m3).then mS (fun x hx e=>by omega);have ak:eL w2 (VY p g k p10 p15):=⟨.inl rfl,aS.one kp10 (TH g) rfl (dC _),.inl rfl,.inl rfl,fun y hy=>(by cases hy),.inl rfl,fun y hy=>(by cases hy),aS.one kp15 (⟨OS k,false,true⟩:aT) rfl (by rfl)⟩;have l10:=aA kp10;have l15:=aA kp15;have z1:=m1.size;have io:jR (fun i=>w.heap.size≤i∧i<w2.heap.size) (VY p g k p10 p15):=⟨fun _ _ e=>(by cases e),fun _ _ e=>(by cases e;exact⟨by omega,l10⟩),fun _ _ e=>(by cases e),fun _ _ e=>(by cases e),fun y hy=>(by cases hy),fun _ _ e=>(by cases e),fun y hy=>(by cases hy),fun _ _ e=>(by cases e;exact⟨by omega,l15⟩)⟩;have HH:=Hi (Ai hmf (Ai ak io));clear mS hmf ak kp10 kp15 m1 m3 ny;go_wp2_with fail;exact bodyPost_ret (results_cell1 (v:= .agg (b9 (VY p g k p10 p15))) rfl rfl (by rw[jX];simp[kp6,dZ,bI])) rfl ⟨_,rfl,rfl,HH.out.2.1,HH.out.2.2,HH.out.1⟩
theorem uA (w:We) (a a2:Wb) (j:Nat) (i:Wi) (c:Nat) (h1:aS ic 1 w a [i]) (h2:aS ic 1 w a2 [i]):Calls Tryz.prog 28 #[.agg #[.int .i64 (j:Int),.slice a 1 c],.int .i64 (j:Int),.slice a2 1 1] w fun e w'=>e= .returned (.bool true)∧Mod (fun _=>False) w w':=by
 obtain⟨g,o,C,U,fr,e,kg,hx,dh⟩:=h1.block (i:=0) rfl;obtain⟨g2,o2,C2,U2,fr2,e2,kg2,th,Ar⟩:=h2.block (i:=0) rfl;subst e;subst e2;simp only[aWy,aXz]at hx dh th Ar;have vv:C[o]? =some (.int .i64 i.toInt):=by
  have h1:=congrArg (fun A=>A[0]?) hx;rw[aYl]at h1;split at h1
  ·rw[aXz]at h1;exact h1
  ·omega
 have nh:∀h:o<C.size,C[o]= .int .i64 i.toInt:=fun h=>aU vv h;have hce2:C2[o2]? =some (.int .i64 i.toInt):=by
  have h1:=congrArg (fun A=>A[0]?) th;rw[aYl]at h1;split at h1
  ·rw[aXz]at h1;exact h1
  ·omega
 have pp:∀h:o2<C2.size,C2[o2]= .int .i64 i.toInt:=fun h=>aU hce2 h;clear hx th h1 h2;go_enter Tryz.func28,Tryz.ntmps28;go_upto_region 0 with fail;have Lkg:=aA kg;have Lkg2:=aA kg2;refine ZP0 [3,0] ?_;refine Zb fun p3 yv=> ?_;refine Zv ?_;refine TD.nil (fun w1 hr=> ?_);replace kg:=hr.q kg;replace kg2:=hr.q kg2;obtain⟨gp3,kp3⟩:=hr.b p3;have m1:=hr.mod;clear hr;go_wp2_with fail;go_loopw [7] (fun s7 ws=>∃q:Nat,q≤1∧s7= .int .i64 (q:Int)∧Mod (fun _=>False) w1 ws) (fun s7 _=>1-(intOf s7).toNat)
 case atStart=>exact⟨0,by omega,rfl,Mod.refl _ _⟩
 case round=>
  obtain⟨q,hq,rfl,hm⟩:=hrel;have kp3:=hm.at0 kp3;have kg:=hm.at0 kg;have kg2:=hm.at0 kg2;by_cases h0:q=0
  ·subst h0;have aw:((i.toInt:Int) !=i.toInt)=false:=by simp
   go_upto_region 6 with fail;have Lkp3:=aA kp3;have Lkg:=aA kg;have Lkg2:=aA kg2;refine ZP [0,1,0,0,1,0,0,0,1,0] ?_
   iterate 10 first|refine Zv ?_|refine Zd ?_
   refine TD.nil (fun w2 hr=> ?_);replace kp3:=hr.q kp3;replace kg:=hr.q kg;replace kg2:=hr.q kg2;have m2:=hm.then0 hr.mod;clear hr;go_wp2_with fail;go_roundw
   case rel=>exact⟨1,by omega,by go_num,m2⟩
   case measure=>simp[intOf]
  ·obtain rfl:q=1:=by omega
   go_wp2_with fail;go_ret;exact⟨rfl,m1.then0 hm⟩
theorem Whole_c {w:We} {d n:Nat} {D:Dk} (kd:w.heap[d]? =some (.cells (iE D) 69 (0,0))) {fa ca:Wb} {fc cc:Nat} (hf:D.fv= .slice fa n fc) (hc:D.cv= .slice ca n cc) (sa:Wb) (sc:Nat) (room win bat fli:Int) (l1 l2 l3 fw:Wg) (hold:Int) (own:Wg):
  Calls Tryz.prog 12 #[ptrV d,.agg (oY (.slice sa n sc) room win bat fli l1 l2 l3 fw hold own)] w fun e w'=>e= .returned (.bool true)∧Mod (fun _=>False) w w':=by
 unfold iE at kd;rw[hf,hc]at kd;unfold oY;clear hf hc;go_enter Tryz.func12,Tryz.ntmps12;go_upto_region 0 with fail;have Lkd:=aA kd;refine ZP0 [3,0] ?_;refine Zb fun p3 yv=> ?_;refine Zv ?_;refine TD.nil (fun w1 hr=> ?_);replace kd:=hr.q kd;obtain⟨gp3,kp3⟩:=hr.b p3;have m1:=hr.mod;clear hr;go_upto_region 1 with fail;have Lkd:=aA kd;have Lkp3:=aA kp3;refine ZP [0,0,0,0,0,0,1,0,0,0,0,0,0,1,0,0,0,0,0,0,1,0,0,0,0,0,0,1,0,0,0,0,0,0,1,0,0,0,0,0,0,1,0,0,1,0,0,0,0,0,0,0,1,0,0,1,0,0,0,0] ?_
 iterate 60 first|refine Zv ?_|refine Zd ?_
 refine TD.nil (fun w2 hr=> ?_);replace kd:=hr.q kd;replace kp3:=hr.q kp3;have m2:=m1.then0 hr.mod;clear hr;go_wp2_with fail;go_ret;exact⟨rfl,m2⟩
end
section
def TC (p:Wj) (g k:Wk) (v:Wg):aK:=fun T w=>∃x:cT,v= .agg (b9 x)∧x.con=rZ p g k∧eL w x∧jR T x
theorem nU (p:Wj) (g k:Wk) (v:Wg):aH (TC p g k v) where
 cl:=fun T w w' ⟨x,h1,h2,h3,h4⟩ hm=>⟨x,h1,h2,h3.mod hm h4 (fun i hi hn=>hn hi),h4⟩
 gr:=fun T T' w hT ⟨x,h1,h2,h3,h4⟩=>⟨x,h1,h2,h3,h4.mono hT⟩
theorem Y1 (w:We) (T:Nat→Prop) (p:Wj) (g k:Wk):Calls Tryz.prog 27 #[u64v p,.int .u8 (g.toNat:Int),.int .u8 (k.toNat:Int)] w fun e w'=>∃v,e= .returned v∧Mod (fun _=>False) w w'∧TC p g k v (Grow T w w') w':=
 (K5 w p g k).mono fun e w' h=>by
  obtain⟨x,h1,h2,h3,h4,h5⟩:=h;exact⟨_,h1,h5,x,rfl,h2,h3,h4.mono (fun i hi=> .inr hi)⟩
def S0 (b n:Nat) (S:List (Option It)) (v:Wg):aK:=fun T w=>v= .tuple #[.int .i64 (n:Int),.slice none 0 0,.int .i64 0]∧BT b S T w
theorem nS (b n:Nat) (S:List (Option It)) (v:Wg):aH (S0 b n S v):=(aH.pure _).and (BT.good _ _)
theorem Y9 {T:Nat→Prop} {w:We} {b n:Nat} {S:List (Option It)} (h:BT b S T w) (gq:dP w) (hn:fL S n) {x:cT} (hx:eL w x) (hs:iU x.con) (num:Wj):Calls Tryz.prog 14 #[ptrV b,u64v num,.agg (b9 x)] w fun e w'=>∃v,e= .returned v∧Mod T w w'∧S0 b n (S.set n (some ⟨num,x.con,0,false⟩)) v (Grow T w w') w':=
 (PN h.bh ⟨h.pos,fun h=>h.2 rfl⟩ gq hn hx hs num).mono fun e w' h2=>by
  obtain⟨h1,h3⟩:=h2;exact⟨_,h1,h3.mt,rfl,h3.bt h.pos⟩
theorem SW (p:Wj) (g k:Wk):iU (rZ p g k):=⟨by simp[rZ],by simp[rZ],by simp[rZ],by simp[rZ],fun y hy=>(by cases hy),by simp[rZ],fun y hy=>(by cases hy),by simp[rZ]⟩
theorem XK (w:We):(Instr.build 35 #[]).run Tryz.prog w= .ok (.agg (kc gW)) w:=by kernel_rfl
theorem VW:gD [] gW=[gW]:=by rfl
def UW (S:List (Option It)):Pa:= {OY 60 2 with S:=S}
theorem XH {T:Nat→Prop} {w:We} {b n:Nat} {S:List (Option It)} {p:Wj} {g k:Wk} {v:Wg} (h:BT b S T w) (hv:TC p g k v T w) (gq:dP w) (hn:fL S n) (num:Wj):Calls Tryz.prog 14 #[ptrV b,u64v num,v] w fun e w'=>∃v',e= .returned v'∧Mod T w w'∧S0 b n (S.set n (some ⟨num,rZ p g k,0,false⟩)) v' (Grow T w w') w':=by
 obtain⟨x,rfl,hc,hx,_⟩:=hv;have h1:=Y9 h gq hn hx (by rw[hc];exact SW p g k) num;rw[hc]at h1;exact h1
structure OH (w:We) (X:Dm) (d:Nat) (S:List (Option It)) (T:Nat→Prop) (wx:We):Prop where
 s:bW (dparts X d evE (UW S)) T wx
 lt:∀a,T a→a<wx.heap.size
 up:∀a,T a→w.heap.size≤a
 m:Mod (fun _=>False) w wx
theorem OH.go {w wx wy:We} {X:Dm} {d:Nat} {S S':List (Option It)} {T:Nat→Prop} (h:OH w X d S T wx) (g:Goes (bW (dparts X d evE (UW S'))) T wx wy):∃T',OH w X d S' T' wy:=by
 obtain⟨T',g1,g2,g3⟩:=g;refine⟨T',g1,cQ h.lt g2 g3,fun a ha=> ?_,h.m.then g2 (fun a hl ha=>by have:=h.up a ha;omega)⟩;rcases g3 a ha with k|k
 ·exact h.up a k
 ·exact aYb h.m.size k.1
def KB:List (Option It):=List.replicate 60 none
def FK:List (Option It):=KB.set 0 (some ⟨1,rZ 9 1 50,0,false⟩)
def KC:List (Option It):=FK.set 1 (some ⟨2,rZ 5 2 50,0,false⟩)
theorem frA:fL KB 0:=⟨rfl,fun i hi=>by omega⟩
theorem frB:fL FK 1:=⟨rfl,fun i hi=>by
 obtain rfl:i=0:=by omega
 exact⟨_,rfl⟩⟩
theorem Z7:fL KC 2:=⟨rfl,fun i hi=>by
 rcases(by omega:i=0∨i=1)with rfl|rfl
 ·exact⟨_,rfl⟩
 ·exact⟨_,rfl⟩⟩
theorem N0 {i:Nat} {x:It} (h:TJ[i]? =some (some x)):x.r.ro.length≤800:=by
 have hm:=aZi h;unfold TJ at hm;rcases aZc.1 hm with h|hm
 ·cases h;exact aY0 rfl
 ·rcases aZc.1 hm with h|hm
  ·cases h;exact aY0 rfl
  ·rcases aZc.1 hm with h|hm
   ·cases h;exact aY0 rfl
   ·have:=aXy hm;cases this
theorem SL:sL evE paE:=by
 have aj:∀b∈paE.op,b=[]:=fun b hb=>by
  have hb:b∈[([]:Wc),[]]:=hb;simp at hb;exact hb
 have Cl:∀q∈paE.la,q=[]:=fun q hq=>by
  have hq:q∈[([]:List (Wc)),[]]:=hq;simp at hq;exact hq
 refine⟨⟨⟨?_,?_,aY0 rfl,fun x hx=>(by cases hx),aY0 rfl,fun i x h=>N0 h,aY0 rfl⟩,aWn,by decide,by decide,by decide,rfl,rfl,fun x hx=>(by cases hx),fun y hy=>(by cases hy),fun b hb k hk=>(by rw[aj b hb]at hk;cases hk),fun b hb=>(by rw[aj b hb];exact aYf _),aY0 rfl,aY0 rfl,fun q hq=>(by rw[Cl q hq];exact aY0 rfl),fun q hq=>(by rw[Cl q hq];exact aY0 rfl),fun j=> ?_,aY0 rfl,fun k hk=>(by cases hk)⟩,by decide,by decide,by decide,rfl,rfl,rfl,rfl,rfl,rfl,rfl,rfl,rfl,rfl⟩
 ·show [_,_,_].Perm [_,_,_];exact List.Perm.cons _ (List.Perm.swap _ _ _)
 ·unfold nG;show List.Pairwise _ [_,_,_];decide
 ·show([0,0]:Wd).getD j 0+3≤90000
  match j with
  |0=>decide
  |1=>decide
  |j+2=>
   show 0+3≤90000;decide
theorem G9 {w wx:We} {X:Dm} {d:Nat} {T:Nat→Prop} (h:OH w X d TJ T wx) {E:Ev} (hE:E=⟨8,4,4,2,[4607182418800017408,4607182418800017408],[],[]⟩) (hX:wB X E (OY 60 2)) (gq:dP w):
  Calls Tryz.prog 10 #[ptrV d] wx fun e w'=>∃v,e= .returned v∧∃(ga da aa:Wb) (x0 x1 x2:Gv) (X2:Dm),v= .tuple #[.agg #[.slice ga 3 3,.slice da 0 0,.slice aa 0 0],.int .i64 0]∧aS gvc 2 w' ga [x0,x1,x2]∧(x0.w=0∧x1.w=0∧x2.w=1)∧(x0.n=1∧x1.n=1∧x2.n=1)∧
   aS ic 1 w' x0.a [idn 0]∧aS ic 1 w' x1.a [idn 1]∧aS ic 1 w' x2.a [idn 2]∧w'.heap[d]? =some (.cells (iE X2.D) 69 (0,0))∧X2.D.fv= .slice (some ⟨X2.fb,0,none⟩) 2 2∧X2.D.cv= .slice (some ⟨X2.cb,0,none⟩) 2 2∧
   w'.heap[X2.fb]? =some (.cells #[.int .i64 2,.int .i64 1] 3 (0,0))∧w'.heap[X2.cb]? =some (.cells #[.int .u64 200,.int .u64 100] 23 (0,0))∧Mod (fun _=>False) w w':=by
 subst hE;have hdk:DA d evE paE T wx:=⟨X,⟨⟨hX.win,hX.bat,hX.fli,hX.n1,hX.n2,hX.fv,hX.cv,hX.sv,hX.fl,hX.co,hX.sp,hX.la⟩,hX.cf⟩,h.s⟩;have h0:¬T 0:=fun ht=>by
  obtain⟨C,U,fr,t1,_⟩:=gq;have:=aA t1;have:=h.up 0 ht;omega
 refine(JK hdk h.lt h0 (gq.mod0 h.m) SL rfl).mono ?_;rintro e w' ⟨t,v,hr,rfl,ye,T2,⟨X2,hX2,iw⟩,m2,pn⟩;have ht:=UY hr;subst ht;have vy:=UX;have jo:=X7;have Ow:=X6;have uu:=QI;obtain⟨ga,da,aa,G,rfl,s1,s2,s3,_,_⟩:=ye;have vw:evE.n=2:=rfl;rw[vw]at s2 s3 iw;generalize endP 2 (fillP evE paE2.D paE2)=u at *;rw[vy]at s2 s3;obtain⟨x0,x1,x2,rfl⟩:∃x0 x1 x2,G=[x0,x1,x2]:=by
  have hl:=congrArg List.length s2;rw[aZs]at hl
  match G,hl with
  |[x0,x1,x2],_=>exact⟨x0,x1,x2,rfl⟩
 obtain⟨Td,⟨_,kd⟩,_⟩:=iw.get (i:=0) rfl;obtain⟨T6,⟨_,kf⟩,_⟩:=iw.get (i:=6) rfl;obtain⟨T7,⟨_,kc⟩,_⟩:=iw.get (i:=7) rfl;dsimp only at kf kc;rw[jo]at kf;rw[Ow]at kc;injection s2 with e0 s2
 injection s2 with e1 s2
 injection s2 with e2 _
 obtain⟨p0,q0⟩:=s3 0 _ _ rfl rfl;obtain⟨p1,q1⟩:=s3 1 _ _ rfl rfl;obtain⟨p2,q2⟩:=s3 2 _ _ rfl rfl;exact⟨_,rfl,ga,da,aa,x0,x1,x2,X2,by rw[vw,UX,QI.1,QI.2];rfl,s1,⟨e0,e1,e2⟩,⟨p0,p1,p2⟩,q0,q1,q2,kd,hX2.fv,hX2.cv,kf,kc,h.m.then m2 (fun a hl ha=>by have:=h.up a ha;omega)⟩
theorem VL (w:We) (b o:Nat):(Instr.loadAt 86 (.pointer (some ⟨b,o,none⟩))).run Tryz.prog w=
   match w.heap[b]? with
   |some (.cells cs _ _)=>if o+2≤cs.size then .ok (.agg (cs.extract o (o+2))) w else dU Tryz.prog w 86 b o
   |_=>dU Tryz.prog w 86 b o:=bK (d:=_) Tryz.underlying86 rfl (by kernel_rfl) w b o
theorem WK (dst:Option Tmp) (x:Wm) (ty:Wh) (pos:String) (after:Array Edge) (g:Option (Nat×Bool)) (a:Act) (w:We) (K:Act→We→Prop) (Q:Exit→Act→We→Prop):
  Oper.wp Tryz.prog {dst:=dst,op:= .load 86 x,type:=ty,pos:=pos,after:=after,guard:=g} a w K Q=
   (match a.eval x with
   | .pointer (some ⟨b,o,none⟩)=>
    (match w.heap[b]? with
    |some (.cells cs _ _)=>if o+2≤cs.size then K (a.put dst (.agg (cs.extract o (o+2)))) w else fP Tryz.prog {dst:=dst,op:= .load 86 x,type:=ty,pos:=pos,after:=after,guard:=g} a w K Q
    |_=>fP Tryz.prog {dst:=dst,op:= .load 86 x,type:=ty,pos:=pos,after:=after,guard:=g} a w K Q)
   |_=>fP Tryz.prog {dst:=dst,op:= .load 86 x,type:=ty,pos:=pos,after:=after,guard:=g} a w K Q):=dL (d:=_) Tryz.underlying86 rfl (by kernel_rfl) dst x ty pos after g a w K Q
attribute [local go_sem↓] WK VL BZ KS
theorem RI (w:We) (i:Wi):aS ic 1 (w.alloc (.cells #[.int .i64 i.toInt] 3)) (some ⟨w.heap.size,0,none⟩) [i]:=aS.one (heap_alloc_new _ _) i rfl rfl
theorem lives_c (w:We) (gq:dP w):Calls Tryz.prog 9 #[] w fun e w'=>e= .returned (.bool true)∧Mod (fun _=>False) w w':=by
 have tq:=Hi gq;have ft:=XK;clear gq;go_enter Tryz.func9,Tryz.ntmps9;go_wp2_with fail;go_at_call 26;refine(plain_c w 2 (by omega)).mono ?_;rintro e w1 ⟨sa,sc,oa,rfl,ff,how,m1⟩;have HN:=Hi (JC w1 sa (List.replicate 2 4607182418800017408) sc ff 60 8 4 4 0 0 0 0 0 oa [true] 1 how (by decide) (by decide));have M1:=Hi m1;clear ff how m1;go_wp2_with fail;go_at_call 11;refine HN.out.mono ?_;rintro e w2 ⟨d,rfl,⟨T,hD,hT⟩,m2⟩;have M2:=Hi (M1.out.trans m2);have HD:=Hi (Ai hD hT);clear hD hT m2 HN;go_wp2_with fail;go_at_call 26;refine(plain_c w2 2 (by omega)).mono ?_;rintro e w3 ⟨sa2,sc2,oa2,rfl,-,-,m3⟩;obtain⟨hD,hT⟩:=HD.out;have hD3:=(DA.good _ _ _).cl _ _ _ hD (m3.mono (fun _ _ h=>h.elim));obtain⟨X,hX,hS⟩:=hD3;obtain⟨Td,⟨td,kd⟩,sd⟩:=hS.get (i:=0) rfl;have HW:=Hi (Whole_c (n:=2) kd hX.fv hX.cv sa2 sc2 60 8 4 4 (u64v 0) (u64v 0) (u64v 0) (u64v 0) 0 (.slice oa2 1 1));have H3:=Hi (Ai hX (Ai hS (Ai (M2.out.trans m3) (Ai (fun a (ha:T a)=>aZd (hT a ha).2 m3.size) (sd d td)))));have HT:=Hi (fun a (ha:T a)=>aYb M1.out.size (hT a ha).1);clear hD hT hX hS sd td m3 HD kd;go_wp2_with fail;go_at_call 12;refine HW.out.mono ?_;rintro e w4 ⟨rfl,m4⟩;obtain⟨hX,hS,hm,hlt,hdT⟩:=H3.out;have vt:=hS.mod0 (dparts.good X d _ _) m4;have Au:∀a,T a→a<w4.heap.size:=fun a ha=>aZd (hlt a ha) m4.size;obtain⟨Td,⟨td,kd⟩,sd⟩:=vt.get (i:=0) rfl;obtain⟨E1,Vc⟩:∃E1:Ev,E1=evE:=⟨_,rfl⟩;have dp:Hid (Calls Tryz.prog 13 #[ptrV X.D.q,.agg (kc gW)] w4 fun e w'=>(∃v,e= .returned v)∧Goes (bW (dparts X d evE (OY 60 2))) T w4 w'):=Hi (by
  exact bW.callX (R:=fun e _=>∃v,e= .returned v) (dparts.good X d _ _) Au vt (i:=2) (K:=tT X.D.q []) (K':=tT X.D.q [gW]) rfl (fun T3 bd ht hg=>(CG X.D.q [] gW w4 hg.1).mono (fun e w' h=>⟨h.1,Goes.into ⟨by rw[←VW];exact h.2.1,hg.2⟩ (h.2.2.mono (fun a _ ha=>by rw[ha];exact hg.2))⟩)))
 have H4:=Hi (Ai (hm.trans m4) (Ai Au hX));unfold iE at kd;clear hX hS hm hlt hdT vt Au td sd m4;go_wp2_with fail;go_at_call 13;refine dp.out.mono ?_;rintro e w5 ⟨⟨v5,rfl⟩,mr⟩;have hL5:Hid (∃T,OH w X d KB T w5):=Hi (by
  obtain⟨T5,hS5,Mg,Of⟩:=mr;obtain⟨hm,hlt,hX⟩:=H4.out;have hup:=HT.out;refine⟨T5,hS5,cQ hlt Mg Of,fun a ha=> ?_,hm.then Mg (fun a hl ha=>by have:=hup a ha;omega)⟩;rcases Of a ha with h|h
  ·exact hup a h
  ·exact aYb hm.size h.1)
 clear mr dp kd;obtain⟨T5,hL⟩:=hL5.out;obtain⟨Ts,h1,h2,h3⟩:=hL.s;have jd:CeL d (iE X.D) 69 (Ts 0) w5:=h1 0 _ rfl;have ft:BT X.D.b KB (Ts 1) w5:=h1 1 _ rfl;have kd:=jd.2;obtain⟨W,hW⟩:∃W,Ts 1=W:=⟨_,rfl⟩;rw[hW]at ft;have nWd:¬W d:=by rw[←hW];exact h3 0 1 d (by decide) jd.1
 have HB:=Hi ft;have qz:Hid (∀i,W i→i<w5.heap.size):=Hi (fun i hi=>hL.lt i (h2 1 i (by rw[hW];exact hi)));have vo:Hid (dP w5∧¬W 0):=Hi ⟨tq.out.mod0 hL.m,fun h=>by
  obtain⟨C,U,fr,t1,_⟩:=tq.out;have:=aA t1;have:=hL.up 0 (h2 1 0 (by rw[hW];exact h));omega⟩
 have HL:=Hi (Ai hL (Ai h1 (Ai h2 (Ai h3 hW))));unfold iE at kd;clear hL h1 h2 h3 hW jd ft hL5;go_upto_region 5 with fail;have Lkd:=aA kd;refine bL (T0:=W) (K:=BT X.D.b KB) (κ:=fun i=>[0,0,0,0,6,6,0,0,0,0,0,0,0].getD i 0) (υ:=fun _=>[]) [0,1,2,3,4,5,6,7,8,9,10,11,12] (by kernel_rfl) (by kernel_rfl) (BT.good X.D.b KB).cl (HB.out) (qz.out) ?_;have gK:=BT.good X.D.b KB
 iterate 3 refine Zg ?_
 (refine Zk ?_ (hy:=by intro wq ae;have kdq:=ae.atn kd;go_simp;try with_reducible rfl));(refine ZJ (TC 9 1 50) (nU 9 1 50) gK ?_ (s:=fun T wq kq ltq ae ub=>by exact Y1 wq T 9 1 50);rintro v5 ⟨wI,TI,hI⟩;replace gK:=gK.and ((nU 9 1 50) v5);(obtain⟨_,x,rfl,_⟩:=hI.k);(try clear hI TI wI);try simp only[zL]);(refine TG.callK (f:= ?f6) (args:= ?r6) (S0 X.D.b 0 (KB.set 0 (some ⟨1,rZ 9 1 50,0,false⟩))) (nS X.D.b 0 (KB.set 0 (some ⟨1,rZ 9 1 50,0,false⟩))) (by simp only[zK];rfl) rfl (by rfl) (fun w1=> ?y6) (fun T wq kq ltq ae ub=> ?hsp6) ?n6;(case y6=>(go_simp;(first|with_reducible rfl|(constructor<;>with_reducible rfl))));(case hsp6=>(have kdq:=ae.atn kd;exact XH kq.1 kq.2 (vo.out.1.mod ae vo.out.2) frA 1));rintro v6 ⟨wI,TI,hI⟩;replace gK:=(nS X.D.b 0 (KB.set 0 (some ⟨1,rZ 9 1 50,0,false⟩))) v6;(obtain⟨rfl,_⟩:=hI.k);(try clear hI TI wI);try simp only[zL])
 iterate 7 refine Zg ?_
 refine TG.nil (fun w6 ⟨TR,hr⟩=> ?_);replace kd:=hr.mod.atn kd;clear gK;have hL6:Hid (∃T,OH w X d (FK) T w6):=Hi (by
  obtain⟨hL,h1,h2,h3,hW⟩:=HL.out;refine hL.go ?_;obtain⟨g1,g2⟩:=bW.step (dparts.good X d evE (UW KB)) hL.lt (i:=1) (by simp[dparts]) h1 h2 h3 (K':=BT X.D.b (FK)) (Ts:=Ts) (by
   rw[hW];exact⟨TR,hr.k.2,hr.mod,fun a ha=>by
    rcases aYt a w5.heap.size with h|h
    ·exact .inl (hr.old a h ha)
    ·exact .inr ⟨h,hr.lt a ha⟩⟩)
  exact⟨_,g1,g2,fun _ h=>h⟩)
 clear hr kd nWd HB qz vo HL;obtain⟨T6,hL⟩:=hL6.out;obtain⟨Ts,h1,h2,h3⟩:=hL.s;have jd:CeL d (iE X.D) 69 (Ts 0) w6:=h1 0 _ rfl;have ft:BT X.D.b FK (Ts 1) w6:=h1 1 _ rfl;have kd:=jd.2;obtain⟨W,hW⟩:∃W,Ts 1=W:=⟨_,rfl⟩;rw[hW]at ft;have nWd:¬W d:=by rw[←hW];exact h3 0 1 d (by decide) jd.1
 have HB:=Hi ft;have qz:Hid (∀i,W i→i<w6.heap.size):=Hi (fun i hi=>hL.lt i (h2 1 i (by rw[hW];exact hi)));have vo:Hid (dP w6∧¬W 0):=Hi ⟨tq.out.mod0 hL.m,fun h=>by
  obtain⟨C,U,fr,t1,_⟩:=tq.out;have:=aA t1;have:=hL.up 0 (h2 1 0 (by rw[hW];exact h));omega⟩
 have HL:=Hi (Ai hL (Ai h1 (Ai h2 (Ai h3 hW))));unfold iE at kd;clear hL h1 h2 h3 hW jd ft hL6;go_upto_region 6 with fail;have Lkd:=aA kd;refine bL (T0:=W) (K:=BT X.D.b FK) (κ:=fun i=>[0,0,0,0,6,6,0,0,0,0,0,0,0].getD i 0) (υ:=fun _=>[]) [0,1,2,3,4,5,6,7,8,9,10,11,12] (by kernel_rfl) (by kernel_rfl) (BT.good X.D.b FK).cl (HB.out) (qz.out) ?_;have gK:=BT.good X.D.b FK
 iterate 3 refine Zg ?_
 (refine Zk ?_ (hy:=by intro wq ae;have kdq:=ae.atn kd;go_simp;try with_reducible rfl));(refine ZJ (TC 5 2 50) (nU 5 2 50) gK ?_ (s:=fun T wq kq ltq ae ub=>by exact Y1 wq T 5 2 50);rintro v18 ⟨wI,TI,hI⟩;replace gK:=gK.and ((nU 5 2 50) v18);(obtain⟨_,x,rfl,_⟩:=hI.k);(try clear hI TI wI);try simp only[zL]);(refine TG.callK (f:= ?f19) (args:= ?r19) (S0 X.D.b 1 (FK.set 1 (some ⟨2,rZ 5 2 50,0,false⟩))) (nS X.D.b 1 (FK.set 1 (some ⟨2,rZ 5 2 50,0,false⟩))) (by simp only[zK];rfl) rfl (by rfl) (fun w1=> ?y19) (fun T wq kq ltq ae ub=> ?Sf) ?n19;(case y19=>(go_simp;(first|with_reducible rfl|(constructor<;>with_reducible rfl))));(case Sf=>(have kdq:=ae.atn kd;exact XH kq.1 kq.2 (vo.out.1.mod ae vo.out.2) frB 2));rintro v19 ⟨wI,TI,hI⟩;replace gK:=(nS X.D.b 1 (FK.set 1 (some ⟨2,rZ 5 2 50,0,false⟩))) v19;(obtain⟨rfl,_⟩:=hI.k);(try clear hI TI wI);try simp only[zL])
 iterate 7 refine Zg ?_
 refine TG.nil (fun w7 ⟨TR,hr⟩=> ?_);replace kd:=hr.mod.atn kd;clear gK;have hL7:Hid (∃T,OH w X d (KC) T w7):=Hi (by
  obtain⟨hL,h1,h2,h3,hW⟩:=HL.out;refine hL.go ?_;obtain⟨g1,g2⟩:=bW.step (dparts.good X d evE (UW FK)) hL.lt (i:=1) (by simp[dparts]) h1 h2 h3 (K':=BT X.D.b (KC)) (Ts:=Ts) (by
   rw[hW];exact⟨TR,hr.k.2,hr.mod,fun a ha=>by
    rcases aYt a w6.heap.size with h|h
    ·exact .inl (hr.old a h ha)
    ·exact .inr ⟨h,hr.lt a ha⟩⟩)
  exact⟨_,g1,g2,fun _ h=>h⟩)
 clear hr kd nWd HB qz vo HL;obtain⟨T7,hL⟩:=hL7.out;obtain⟨Ts,h1,h2,h3⟩:=hL.s;have jd:CeL d (iE X.D) 69 (Ts 0) w7:=h1 0 _ rfl;have ft:BT X.D.b KC (Ts 1) w7:=h1 1 _ rfl;have kd:=jd.2;obtain⟨W,hW⟩:∃W,Ts 1=W:=⟨_,rfl⟩;rw[hW]at ft;have nWd:¬W d:=by rw[←hW];exact h3 0 1 d (by decide) jd.1
 have HB:=Hi ft;have qz:Hid (∀i,W i→i<w7.heap.size):=Hi (fun i hi=>hL.lt i (h2 1 i (by rw[hW];exact hi)));have vo:Hid (dP w7∧¬W 0):=Hi ⟨tq.out.mod0 hL.m,fun h=>by
  obtain⟨C,U,fr,t1,_⟩:=tq.out;have:=aA t1;have:=hL.up 0 (h2 1 0 (by rw[hW];exact h));omega⟩
 have HL:=Hi (Ai hL (Ai h1 (Ai h2 (Ai h3 hW))));unfold iE at kd;clear hL h1 h2 h3 hW jd ft hL7;go_upto_region 7 with fail;have Lkd:=aA kd;refine bL (T0:=W) (K:=BT X.D.b KC) (κ:=fun i=>[0,0,0,0,6,6,0,0,0,0,0,0,0].getD i 0) (υ:=fun _=>[]) [0,1,2,3,4,5,6,7,8,9,10,11,12] (by kernel_rfl) (by kernel_rfl) (BT.good X.D.b KC).cl (HB.out) (qz.out) ?_;have gK:=BT.good X.D.b KC
 iterate 3 refine Zg ?_
 (refine Zk ?_ (hy:=by intro wq ae;have kdq:=ae.atn kd;go_simp;try with_reducible rfl));(refine ZJ (TC 7 3 51) (nU 7 3 51) gK ?_ (s:=fun T wq kq ltq ae ub=>by exact Y1 wq T 7 3 51);rintro v31 ⟨wI,TI,hI⟩;replace gK:=gK.and ((nU 7 3 51) v31);(obtain⟨_,x,rfl,_⟩:=hI.k);(try clear hI TI wI);try simp only[zL]);(refine TG.callK (f:= ?f32) (args:= ?r32) (S0 X.D.b 2 (KC.set 2 (some ⟨3,rZ 7 3 51,0,false⟩))) (nS X.D.b 2 (KC.set 2 (some ⟨3,rZ 7 3 51,0,false⟩))) (by simp only[zK];rfl) rfl (by rfl) (fun w1=> ?y32) (fun T wq kq ltq ae ub=> ?Si) ?n32;(case y32=>(go_simp;(first|with_reducible rfl|(constructor<;>with_reducible rfl))));(case Si=>(have kdq:=ae.atn kd;exact XH kq.1 kq.2 (vo.out.1.mod ae vo.out.2) Z7 3));rintro v32 ⟨wI,TI,hI⟩;replace gK:=(nS X.D.b 2 (KC.set 2 (some ⟨3,rZ 7 3 51,0,false⟩))) v32;(obtain⟨rfl,_⟩:=hI.k);(try clear hI TI wI);try simp only[zL])
 iterate 7 refine Zg ?_
 refine TG.nil (fun w8 ⟨TR,hr⟩=> ?_);replace kd:=hr.mod.atn kd;clear gK;have hL8:Hid (∃T,OH w X d (TJ) T w8):=Hi (by
  obtain⟨hL,h1,h2,h3,hW⟩:=HL.out;refine hL.go ?_;obtain⟨g1,g2⟩:=bW.step (dparts.good X d evE (UW KC)) hL.lt (i:=1) (by simp[dparts]) h1 h2 h3 (K':=BT X.D.b (TJ)) (Ts:=Ts) (by
   rw[hW];exact⟨TR,hr.k.2,hr.mod,fun a ha=>by
    rcases aYt a w7.heap.size with h|h
    ·exact .inl (hr.old a h ha)
    ·exact .inr ⟨h,hr.lt a ha⟩⟩)
  exact⟨_,g1,g2,fun _ h=>h⟩)
 clear hr kd nWd HB qz vo HL;have HPS:Hid (Calls Tryz.prog 10 #[ptrV d] w8 fun e w'=>∃v,e= .returned v∧∃(ga da aa:Wb) (x0 x1 x2:Gv) (X2:Dm),v= .tuple #[.agg #[.slice ga 3 3,.slice da 0 0,.slice aa 0 0],.int .i64 0]∧aS gvc 2 w' ga [x0,x1,x2]∧(x0.w=0∧x1.w=0∧x2.w=1)∧(x0.n=1∧x1.n=1∧x2.n=1)∧
   aS ic 1 w' x0.a [idn 0]∧aS ic 1 w' x1.a [idn 1]∧aS ic 1 w' x2.a [idn 2]∧w'.heap[d]? =some (.cells (iE X2.D) 69 (0,0))∧X2.D.fv= .slice (some ⟨X2.fb,0,none⟩) 2 2∧X2.D.cv= .slice (some ⟨X2.cb,0,none⟩) 2 2∧
   w'.heap[X2.fb]? =some (.cells #[.int .i64 2,.int .i64 1] 3 (0,0))∧w'.heap[X2.cb]? =some (.cells #[.int .u64 200,.int .u64 100] 23 (0,0))∧Mod (fun _=>False) w w'):=Hi (by
  obtain⟨T8,hL⟩:=hL8.out;exact G9 hL rfl H4.out.2.2 tq.out)
 clear hL8;go_upto_region 10 with fail;refine region_seq 8 rfl ?_;simp only[List.range,List.range.loop];refine Zq ?_;(refine kE (by simp only[zK];rfl) (by rfl) ?y41 (HPS.out) (fun vn w9 hR=> ?n41);(case y41=>(go_simp;(try(first|with_reducible rfl|(constructor<;>with_reducible rfl))))))
 (obtain⟨ga,da,aa,x0,x1,x2,X2,rfl,s1,⟨e0,e1,e2⟩,⟨p0,p1,p2⟩,q0,q1,q2,kd,hf,hc,kf,kc,m9⟩:=hR)
 (try simp only[zL])
 iterate 3 refine Zq ?_
 (refine x5 (by simp only[zK];rfl) (by rfl) rfl FZ (fun p12 wn gp12 kp12 mp12=> ?n45);try simp only[zL]);refine ZT ?_;refine ZQ kp12 fun wn kp12 mS=> ?_;refine Zq ?_;refine oI ?_;obtain⟨w10,Tc⟩:∃w10,wn=w10:=⟨_,rfl⟩;rw[Tc]at kp12 mS⊢;clear Tc;obtain⟨j0,a0,n0,c0⟩:=x0;obtain⟨j1,a1,n1,c1⟩:=x1;obtain⟨j2,a2,n2,c2⟩:=x2;dsimp only at e0 e1 e2 p0 p1 p2 q0 q1 q2;subst e0 e1 e2 p0 p1 p2;have kp12:w10.heap[p12]? =some (.cells #[.slice ga 3 3,.slice da 0 0,.slice aa 0 0] 55 (0,0)):=by simpa using kp12
 have m10:Mod (fun _=>False) w9 w10:=mp12.then mS (fun x hx e=>by omega);have Zf:=Hi (m9.trans m10);have kd:=m10.at0 kd;have kf:=m10.at0 kf;have kc:=m10.at0 kc;have HQ:=Hi (Ai (q0.mod0 m10) (Ai (q1.mod0 m10) (q2.mod0 m10)));obtain⟨g,o,C,U,fr,e,kg,Wz,Pz⟩:=(s1.mod0 m10).block (i:=0) rfl;obtain⟨g',o',C',U',fr',e',kg',gy,jj⟩:=(s1.mod0 m10).block (i:=1) rfl;obtain⟨g'',o'',C'',U'',fr'',e'',kg'',th,ec⟩:=(s1.mod0 m10).block (i:=2) rfl;rw[e]at e' e'';cases e';cases e'';rw[kg]at kg' kg'';cases kg';cases kg'';subst e;have qx:=Hi (Ai kd (Ai hf hc));have kd2:=kd;unfold iE at kd;rw[hf,hc]at kd;have HX:=Hi (Ai Wz (Ai gy th));have dz:o+2≤C.size:=by omega
 have cq:o+2+2≤C.size:=by omega
 have hb3:o+4+2≤C.size:=by omega
 clear q0 q1 q2 s1 Wz gy th Pz jj ec kd2 hf hc m10 m9 mp12 mS;have e1:C.extract o (o+2)= #[.int .i64 0,.slice a0 1 c0]:=by simpa[gvc] using HX.out.1
 have e2:C.extract (o+2) (o+2+2)= #[.int .i64 0,.slice a1 1 c1]:=by simpa[gvc] using HX.out.2.1
 have e3:C.extract (o+4) (o+4+2)= #[.int .i64 1,.slice a2 1 c2]:=by simpa[gvc] using HX.out.2.2
 have E3:=Hi (Ai e1 (Ai e2 e3));clear e1 e2 e3;go_wp2_with fail;rw[E3.out.1];go_at_call 28;have ma:Mod (fun _=>False) w10 (w10.alloc (.cells #[.int .i64 0] 3)):=(Mod.refl _ _).alloc _;refine(uA (w10.alloc (.cells #[.int .i64 0] 3)) a0 _ 0 (idn 0) c0 (HQ.out.1.mod0 ma) (RI w10 (idn 0))).mono ?_;rintro e w11 ⟨rfl,mb⟩;have m:=ma.then0 mb;clear ma mb;have HQ:=Hi (Ai (HQ.out.1.mod0 m) (Ai (HQ.out.2.1.mod0 m) (HQ.out.2.2.mod0 m)));have kp12:=m.at0 kp12;have kd:=m.at0 kd;have kf:=m.at0 kf;have kc:=m.at0 kc;have kg:=m.at0 kg;have qx:=Hi (Ai (m.at0 qx.out.1) qx.out.2);have zh:=Hi (Zf.out.then0 m);clear m;go_wp2_with fail;go_at_call 26;refine(plain_c w11 2 (by omega)).mono ?_;rintro e w12 ⟨sa3,sc3,oa3,rfl,-,-,m⟩;have HQ:=Hi (Ai (HQ.out.1.mod0 m) (Ai (HQ.out.2.1.mod0 m) (HQ.out.2.2.mod0 m)));have kp12:=m.at0 kp12;have kd:=m.at0 kd;have kf:=m.at0 kf;have kc:=m.at0 kc;have kg:=m.at0 kg;have qx:=Hi (Ai (m.at0 qx.out.1) qx.out.2);have Zj:=Hi (zh.out.then0 m);clear m;go_wp2_with fail;go_at_call 12;refine(Whole_c (n:=2) qx.out.1 qx.out.2.1 qx.out.2.2 sa3 sc3 60 8 4 4 (u64v 0) (u64v 0) (u64v 0) (u64v 0) 0 (.slice oa3 1 1)).mono ?_;rintro e w13 ⟨rfl,m⟩;have HQ:=Hi (Ai (HQ.out.1.mod0 m) (Ai (HQ.out.2.1.mod0 m) (HQ.out.2.2.mod0 m)));have kp12:=m.at0 kp12;have kd:=m.at0 kd;have kf:=m.at0 kf;have kc:=m.at0 kc;have kg:=m.at0 kg;have qx:=Hi (Ai (m.at0 qx.out.1) qx.out.2);have zi:=Hi (Zj.out.then0 m);clear m;go_wp2_with fail;rw[E3.out.2.1];go_at_call 28;have ma:Mod (fun _=>False) w13 (w13.alloc (.cells #[.int .i64 1] 3)):=(Mod.refl _ _).alloc _;refine(uA (w13.alloc (.cells #[.int .i64 1] 3)) a1 _ 0 (idn 1) c1 (HQ.out.2.1.mod0 ma) (RI w13 (idn 1))).mono ?_;rintro e w14 ⟨rfl,mb⟩;have m:=ma.then0 mb;clear ma mb;have HQ:=Hi (Ai (HQ.out.1.mod0 m) (Ai (HQ.out.2.1.mod0 m) (HQ.out.2.2.mod0 m)));have kp12:=m.at0 kp12;have kd:=m.at0 kd;have kf:=m.at0 kf;have kc:=m.at0 kc;have kg:=m.at0 kg;have qx:=Hi (Ai (m.at0 qx.out.1) qx.out.2);have Zm:=Hi (zi.out.then0 m);clear m;go_wp2_with fail;rw[E3.out.2.2];go_at_call 28;have ma:Mod (fun _=>False) w14 (w14.alloc (.cells #[.int .i64 2] 3)):=(Mod.refl _ _).alloc _;refine(uA (w14.alloc (.cells #[.int .i64 2] 3)) a2 _ 1 (idn 2) c2 (HQ.out.2.2.mod0 ma) (RI w14 (idn 2))).mono ?_;rintro e w15 ⟨rfl,mb⟩;have m:=ma.then0 mb;clear ma mb;have HQ:=Hi (Ai (HQ.out.1.mod0 m) (Ai (HQ.out.2.1.mod0 m) (HQ.out.2.2.mod0 m)));have kp12:=m.at0 kp12;have kd:=m.at0 kd;have kf:=m.at0 kf;have kc:=m.at0 kc;have kg:=m.at0 kg;have qx:=Hi (Ai (m.at0 qx.out.1) qx.out.2);have Zn:=Hi (Zm.out.then0 m);clear m;go_wp2_with fail;go_ret;exact⟨rfl,Zn.out⟩
end
end Go.Proofs.YtblbegbjlaokjaaGreatDoor