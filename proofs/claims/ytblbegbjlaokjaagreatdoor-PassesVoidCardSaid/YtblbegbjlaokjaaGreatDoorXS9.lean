/- The lemmas of the proof, part XO9: how the program and its data lie in memory, and what its functions do. -/
import Derived.Test.YtblbegbjlaokjaaGreatDoorXS8
import Derived.Scope
import Derived.Deep.CutBlock
import Derived.WalkMore
set_option linter.unusedSimpArgs false
set_option linter.unusedVariables false
set_option linter.unusedSectionVars false

set_option maxRecDepth 20000
set_option maxHeartbeats 3200000
namespace Go.Proofs.YtblbegbjlaokjaaGreatDoor
open Go.RowKit
open Go.ChangeMaps (setBlock)
attribute [local go_sem↓] eP eR eS
attribute [local go_sem] Value.cells aH aC dC cR bY kc_size aK aN aO aP aF bB
section
attribute [local go_sem↓] dH bZ dF jX iD jV
attribute [local go_sem] bF dE dW lA oU AI fM
structure oE (p d:Nat) (E:Ev) (s:Pa) (T:Nat→Prop) (w:World) (Ti:Nat→Prop) (wx:World):Prop where
 pa:bS p d E s Ti wx
 m:Mod T w wx
 sub:∀a,Ti a→T a∨(w.heap.size≤a∧a<wx.heap.size)
 lt:∀a,Ti a→a<wx.heap.size
 tw:dS wx
 n0:¬Ti 0
theorem oE.go {p d:Nat} {E:Ev} {s s':Pa} {T Ti:Nat→Prop} {w wx wy:World} (h:oE p d E s T w Ti wx) (g:Goes (bS p d E s') Ti wx wy):∃Tj,oE p d E s' T w Tj wy∧Mod Ti wx wy∧∀a,Tj a→Ti a∨(wx.heap.size≤a∧a<wy.heap.size):=by
 obtain⟨Tj,g1,g2,g3⟩:=g;have z1:=h.m.size;have z2:=g2.size;refine⟨Tj,⟨g1,h.m.then g2 (fun i hi ht=>(h.sub i ht).resolve_right (by omega)),fun a ha=> ?_,b9 h.lt g2 g3,h.tw.mod g2 h.n0,fun h0=> ?_⟩,g2,g3⟩
 ·rcases g3 a ha with k|k
  ·rcases h.sub a k with k|k
   ·exact .inl k
   ·exact .inr (by omega)
  ·exact .inr (by omega)
 ·rcases g3 0 h0 with k|k
  ·exact h.n0 k
  ·obtain⟨C,U,fr,t1,_⟩:=h.tw;have:=aA t1;omega
theorem oE.mod0 {p d:Nat} {E:Ev} {s:Pa} {T Ti:Nat→Prop} {w wx wy:World} (h:oE p d E s T w Ti wx) (m:Mod (fun _=>False) wx wy):oE p d E s T w Ti wy:=
 ⟨(bS.good p d E s).cl _ _ _ h.pa (m.mono (fun _ _ h=>h.elim)),h.m.then0 m,fun a ha=>(h.sub a ha).imp id (fun k=>⟨k.1,aZd k.2 m.size⟩),fun a ha=>aZd (h.lt a ha) m.size,h.tw.mod0 m,h.n0⟩
theorem oE.goes {p d:Nat} {E:Ev} {s:Pa} {T Ti:Nat→Prop} {w wx:World} (h:oE p d E s T w Ti wx):Goes (bS p d E s) T w wx:=⟨Ti,h.pa,h.m,h.sub⟩
theorem oE.start {p d:Nat} {E:Ev} {s:Pa} {T:Nat→Prop} {w:World} (h:bS p d E s T w) (hT:∀a,T a→a<w.heap.size) (h0:¬T 0) (ht:dS w):oE p d E s T w T w:=⟨h,Mod.refl _ _,fun _ h=> .inl h,hT,ht,h0⟩
theorem KE {E:Ev} {s1:Pa} (h:eA E s1) {i:Nat} {y:Int64} (hy:(readyR s1.K)[i]? =some y):
  eA E (((readyR s1.K).take i).foldl (stepP E) s1)∧xP (((readyR s1.K).take i).foldl (stepP E) s1).K y∧((readyR s1.K).take (i+1)).foldl (stepP E) s1=stepP E (((readyR s1.K).take i).foldl (stepP E) s1) y:=by
 have key:∀(l:List Int64) (s:Pa),eA E s→l.Nodup→(∀k∈l,xP s.K k)→eA E (l.foldl (stepP E) s)∧∀k,k∉l→xP s.K k→xP (l.foldl (stepP E) s).K k:=by
  intro l
  induction l with
  |nil=>exact fun s h _ _=>⟨h,fun k _ hk=>hk⟩
  |cons a l ih=>
   intro s h hn hr;rw[aYc]at hn;have ha:=hr a List.mem_cons_self;obtain⟨z,hz,hza⟩:=ha.mem;obtain⟨x,hx,_⟩:=h.it z hz;rw[hza]at hx;have e3:=(iX (E:=E) hx).2.2.1;obtain⟨h1,h2⟩:=ih (stepP E s a) (h.step ⟨z,hz,hza⟩) hn.2 (fun k hk=>by rw[e3];exact(hr k (aZp _ hk)).pop (fun e=>hn.1 (e▸hk)));refine⟨h1,fun k hk hrk=>h2 k (fun hm=>hk (aZp _ hm)) ?_⟩;rw[e3];exact hrk.pop (fun e=>hk (e▸List.mem_cons_self))
 have hnd:=jR h.kn;have htk:readyR s1.K=(readyR s1.K).take i++y::(readyR s1.K).drop (i+1):=by
  have hi:=(aZa.1 hy).1;obtain⟨_,e⟩:=aZa.1 hy;rw[←e,List.getElem_cons_drop,aY9]
 have hin:∀k∈(readyR s1.K).take i,xP s1.K k:=fun k hk=>oV (List.mem_of_mem_take hk);have hni:y∉(readyR s1.K).take i:=fun hm=>by
  rw[htk,aZ7]at hnd;exact hnd.2.2 y hm y List.mem_cons_self rfl
 obtain⟨h1,h2⟩:=key _ s1 h (hnd.sublist (List.take_sublist _ _)) hin;refine⟨h1,h2 y hni (oV (aZi hy)),?_⟩;rw[aYa,hy,aXl];rfl
structure vA (R:List Int64) (g o:Nat) (T:Nat→Prop) (w:World):Prop where
 sl:aS ic 1 w (some ⟨g,o,none⟩) R
 nt:¬T g
 lt:g<w.heap.size
theorem vA.go {R:List Int64} {g o:Nat} {T T':Nat→Prop} {w w':World} (h:vA R g o T w) (m:Mod T w w') (hT:∀a,T' a→T a∨(w.heap.size≤a∧a<w'.heap.size)):vA R g o T' w':=
 ⟨h.sl.mod m (fun b o e=>by cases e;exact h.nt),fun ht=>by
  rcases hT g ht with k|k
  ·exact h.nt k
  ·have:=h.lt;omega,aZd h.lt m.size⟩
theorem vA.mod0 {R:List Int64} {g o:Nat} {T:Nat→Prop} {w w':World} (h:vA R g o T w) (m:Mod (fun _=>False) w w'):vA R g o T w':=h.go (m.mono (fun _ _ h=>h.elim)) (fun _ h=> .inl h)
theorem yY {z z2:bU} (h:dL z=dL z2):bT z.r=bT z2.r:=by rw[←jB,h,jB]
theorem LM {p d:Nat} {E:Ev} {s:Pa} {T:Nat→Prop} {w:World} (h:bS p d E s T w) (hT:∀a,T a→a<w.heap.size) (h0:¬T 0) (htw:dS w) (hok:eA E s):
  Calls Tryz.prog 32 #[ptrV p] w fun e w'=>e= .returned (.bool (decide (readyR (fillP E s.D s).K≠[])))∧Goes (bS p d E (gS E s)) T w w':=by
 have hfill:=OW h hT hok.fi;have hok1:=hok.fill;have hrd:gS E s=(readyR (fillP E s.D s).K).foldl (stepP E) (fillP E s.D s):=rfl;rw[hrd];generalize fillP E s.D s=s1 at *;have hG0:=oE.start h hT h0 htw;obtain⟨R,hR⟩:∃R,readyR s1.K=R:=⟨_,rfl⟩;rw[hR];have HF:=Hi (Ai hfill (Ai hok1 hG0));have hRL:R.length≤1000:=by
  have h1:=(jQ s1.K []).length_le;rw[aZs]at h1;have h2:=hok1.bl;have h3:(gG [] s1.K).length=R.length:=congrArg List.length hR;omega
 have HRR:=Hi hR;clear hfill hok1 hrd hG0 h hT h0 htw hok hR;go_enter Tryz.func32,Tryz.ntmps32;go_wp2_with fail;go_at_call 68;refine HF.out.1.mono ?_;rintro e w1 ⟨rfl,hgo⟩;obtain⟨T1,hG1,hm1,hT1⟩:=HF.out.2.2.go hgo;clear hgo hm1 hT1;obtain⟨M,hp,hd,hMk,hS⟩:=hG1.pa;obtain⟨T0,⟨_,kp⟩,_⟩:=hS.get (i:=0) rfl;obtain⟨T3,g3,s3⟩:=hS.get (i:=3) rfl;have hr3:qY M.X.g s1.q s1.K T3 w1:=⟨g3,fun a ha=>hG1.lt a (s3 a ha)⟩;have hready:=ID hr3;rw[HRR.out]at hready;rw[hp]at kp;unfold pac at kp;have HR:=Hi hready;have H1:=Hi hG1;clear hG1 hp hd hMk hS g3 s3 hr3 hready;go_wp2_with fail;go_at_call 69;refine HR.out.mono ?_;rintro e w2 ⟨a,rfl,hsl,-,hnew,m2⟩;have hG2:=H1.out.mod0 m2;have hna:∀b o,a=some ⟨b,o,none⟩→¬T1 b∧(aS ic 1 w2 a R):=fun b o e=>⟨fun ht=>by
  have k1:=hnew _ e;have k2:=H1.out.lt b ht;have k1:w1.heap.size≤b:=k1;omega,hsl⟩
 have HST:Hid (∃Ti,oE p d E ((R.take 0).foldl (stepP E) s1) T w Ti w2∧aS ic 1 w2 a R∧∀b o,a=some ⟨b,o,none⟩→¬Ti b):=Hi ⟨T1,by rw[List.take_zero];exact hG2,hsl,fun b o e=>(hna b o e).1⟩;clear hsl hnew hG2 hna kp m2;go_wp2_with fail;go_loopw [20] (fun s20 ws=>∃i:Nat,i≤R.length∧s20= .int .i64 (i:Int)∧Hid (∃Ti,oE p d E ((R.take i).foldl (stepP E) s1) T w Ti ws∧aS ic 1 ws a R∧∀b o,a=some ⟨b,o,none⟩→¬Ti b)) (fun s20 _=>R.length-(intOf s20).toNat)
 case atStart=>exact⟨0,aYf _,rfl,HST⟩
 case round=>
  obtain⟨i,hi,rfl,HI⟩:=hrel;by_cases hlt:i<R.length
  ·obtain⟨y,hy⟩:∃y,R[i]? =some y:=⟨_,aZb hlt⟩;obtain⟨Ti,hG,hsl,hna⟩:=HI.out;have hfa:=KE HF.out.2.1 (by rw[HRR.out];exact hy);rw[HRR.out]at hfa;obtain⟨hok,⟨X,x,Y,hK,hxy,hf⟩,hnext⟩:=hfa;subst hxy;generalize(R.take i).foldl (stepP E) s1=si at hG hok hK hnext;obtain⟨g,o,C,U,fr,e,kg,hx,hle⟩:=hsl.block hy;subst e;simp only[aYp]at hx hle;have hce:C[o+i]? =some (.int .i64 x.id.toInt):=by
    have h1:=congrArg (fun A=>A[0]?) hx;rw[aYl]at h1;split at h1
    ·rw[aXz]at h1;exact h1
    ·omega
   have hc1:∀h:o+i<C.size,C[o+i]= .int .i64 x.id.toInt:=fun h=>aU hce h;have hxK:x∈si.K:=by rw[hK];simp
   obtain⟨xi,hxi,hpl,hxl,hid⟩:=hok.it x hxK;have hkn:=hok.kn;have hpk:popK si.K x.id=X++Y:=by rw[hK]at hkn⊢;exact qE hkn
   have hck:chK si.K x.id=x.ch:=by rw[hK]at hkn⊢;exact CE hkn
   obtain⟨M,hp,hd,hMk,hS⟩:=hG.pa;obtain⟨T0,⟨_,kp⟩,_⟩:=hS.get (i:=0) rfl;obtain⟨T3,g3,s3⟩:=hS.get (i:=3) rfl;have hr3:qY M.X.g si.q si.K T3 wr:=⟨g3,fun a ha=>hG.lt a (s3 a ha)⟩;have hchain:=EY hr3 x hxK;obtain⟨s2,hs2⟩:∃s2:Pa,s2= {si with K:=X++Y}:=⟨_,rfl⟩;have hpop:Calls Tryz.prog 71 #[ptrV M.X.g,.int .i64 x.id.toInt] wr fun e w'=>e= .returned (.int .i64 0)∧Goes (bQ (parts M E s2)) Ti wr w':=by
    rw[hs2];exact bQ.callX (R:=fun e _=>e= .returned (.int .i64 0)) (parts.good M E si) hG.lt hS (i:=3) (K:=GL M.X.g si.q si.K) (K':=GL M.X.g si.q (X++Y)) rfl (fun T3 hsub ht hg=>GL.pop (by rw[hK]at hg;exact hg) ht hf)
   rw[hp]at kp;unfold pac at kp;have HC:=Hi (Ai hchain hpop);have HS:=Hi (Ai hG (Ai hp (Ai hd (Ai hMk hs2))));have HX:=Hi (Ai hxi (Ai hpl (Ai hid (Ai hpk hck))));have HN:=Hi (Ai hok (Ai hnext (vA.mk (T:=Ti) hsl (hna g o rfl) (aA kg))));clear hG hsl hna hok hK hf hnext hle hx hxK hxi hpl hxl hid hkn hpk hck hp hd hMk hS g3 s3 hr3 hchain hpop hs2 hy;go_wp2_with fail;go_at_call 70;refine HC.out.1.mono ?_;rintro e w3 ⟨rfl,rfl⟩;go_wp2_with fail;go_at_call 71;refine HC.out.2.mono ?_;rintro e w4 ⟨rfl,hgo⟩;obtain⟨hG,hp,hd,hMk,hs2⟩:=HS.out;obtain⟨hxi,hpl,hid,hpk,hck⟩:=HX.out;obtain⟨hok,hnext,hout⟩:=HN.out;have hg2:Goes (bS p d E s2) Ti w3 w4:=by
    obtain⟨T4,a1,a2,a3⟩:=hgo;exact⟨T4,⟨M,hp,hd,hMk.same (by rw[hs2]) (by rw[hs2]) (by rw[hs2]) (by rw[hs2]) (by rw[hs2]),a1⟩,a2,a3⟩
   obtain⟨T4,hG4,m4,hT4⟩:=hG.go hg2;have hout4:=hout.go m4 hT4;obtain⟨M4,hp4,hd4,hMk4,hS4⟩:=hG4.pa;obtain⟨U0,⟨_,kpa⟩,_⟩:=hS4.get (i:=0) rfl;obtain⟨U1,⟨_,kda⟩,_⟩:=hS4.get (i:=1) rfl;obtain⟨U2,hB4,_⟩:=hS4.get (i:=2) rfl;rw[hp4]at kpa;have hxs:s2.S[ix x.id]? =some (some xi):=by rw[hs2];exact eX hxi
   have hxl:ix x.id<4096:=by
    have h1:=(aZa.1 (eX hxi)).1;have h2:=hok.fi.sl;omega
   have hidI:x.id.toInt=((ix x.id:Nat):Int):=by
    conv=>lhs;rw[hid]
    exact cB (by omega)
   have HIT:Hid (∀(wq:World) (TT:Nat→Prop),Mod (fun _=>False) w4 wq→Calls Tryz.prog 72 #[ptrV p,.int .i64 x.id.toInt] wq fun e w'=>∃v,e= .returned v∧Mod (fun _=>False) wq w'∧NU w4.heap.size xi v (Grow TT wq w') w'):=Hi (fun wq TT hq=>by
    rw[hidI];exact GB w4.heap.size hq.size TT (hq.at0 kpa) (hq.at0 kda) ((BT.good _ _).cl _ _ _ hB4 (hq.mono (fun _ _ h=>h.elim))) hxs)
   have H4:=Hi (Ai hG4 (Ai hout4 hxl));clear hG hp hd hMk hs2 hxi hpl hid hpk hck hok hnext hout hg2 hgo m4 hT4 hG4 hout4 hp4 hd4 hMk4 hS4 kpa kda hB4 hxs hxl hidI kp kg hc1 hce;go_upto_region 8 with fail;refine wp_gpass0 (T0:=fun _=>False) (K:=fun _ _=>True) (κ:=fun i=>[0,0,6,0,3,4].getD i 0) (υ:=fun _=>[]) [0,1,2,3,4,5] (by kernel_rfl) (by kernel_rfl) (aI.true).cl (trivial) (fun _ h=>h.elim) ?_;have gK:=aI.true
   iterate 2 refine Zg ?_
   (refine ZJ (NU w4.heap.size xi) (nB w4.heap.size xi) gK ?_ (s:=fun T wq kq ltq hSq ub=>by exact HIT.out wq T hSq);rintro v3 ⟨wI,TI,hI⟩;replace gK:=gK.and ((nB w4.heap.size xi) v3);(obtain⟨_,z,rfl,_⟩:=hI.k);(try clear hI TI wI);try simp only[zL]);refine Zg ?_;(refine TG.allocB (by simp only[zK];rfl) rfl (by rfl) rfl rfl alRdy (fun p8 hp8 _=> ?n5);try simp only[zL]);(refine TG.storeB (d:= ?d6) (T:= ?T6) (y:= ?y6) (p:= ?p6) (b:= ?b6) (v:= ?v6) (by simp only[zK];rfl) rfl (by rfl) ?hd6 ?hop6 ?hev6 ?hx6 ?hb6 ?htag6 (fun w1 hb1=> ?hy6) ?hn6;(case hd6=>rfl);(case hop6=>rfl);(case hev6=>(simp only[zM];(try rfl)));(case hx6=>simp only[zM];try rfl);(case hb6=>first|exact Bx.set_same _ _ _|(simp only[Bx.set_same];rfl));(case htag6=>exact⟨rfl,rfl⟩);(case hy6=>(go_simp;(try first|with_reducible rfl|(rw[setCell_blk hb1];rfl))));try simp only[zL]);refine TG.nil (fun w5 ⟨TR,hr⟩=> ?_);obtain⟨gp8,nTp8,kp8⟩:=hr.b p8;clear gK;obtain⟨_,z2,hz,hzc,hzn,hzi⟩:=hr.k;rename_i hZ0 _ _;clear hZ0;injection hz with hz
   have m5:=hr.mod;rw[yY hz]at kp8;have hG5:=H4.out.1.mod0 m5;have hout5:=H4.out.2.1.mod0 m5;have hzro:z2.r.ro.l=xi.r.ro:=congrArg (fun u:It=>u.r.ro) hzc;have hzco:z2.r.cost=xi.r.cost:=congrArg (fun u:It=>u.r.cost) hzc;have hrol:xi.r.ro.length≤800:=HN.out.1.fi.ro (ix x.id) xi (eX HX.out.1);obtain⟨o1,ho1⟩:∃o1,wkP E si xi.r.ro (chK si.K x.id)=o1:=⟨_,rfl⟩;have HWK:Hid (Calls Tryz.prog 73 #[ptrV p,.slice z2.r.ro.a z2.r.ro.l.length z2.r.ro.c,.int .i64 x.ch.toInt] w5 fun e w'=>e= .returned (.tuple #[.int .i64 ((o1.getD 0:Nat):Int),.bool o1.isSome])∧Mod (fun _=>False) w5 w'):=Hi (by
    have h1:=I6 hG5.pa hG5.lt hG5.tw z2.r.ro.a z2.r.ro.l z2.r.ro.c hzn.ok.ro (by rw[hzro];omega) x.ch (by rw[HS.out.2.2.2.2];exact HN.out.1.hi);have h2:wkP E s2 z2.r.ro.l x.ch=o1:=by
     rw[hzro,←HX.out.2.2.2.2,←ho1,HS.out.2.2.2.2];rfl
    rw[h2]at h1;exact h1)
   have H5:=Hi (Ai hG5 (Ai hout5 (Ai hzro (Ai hzco (Ai hrol (Ai ho1 (Ai hzn (aYb m5.size (aZq _)))))))));have HP8:Hid (w4.heap.size≤p8):=Hi gp8;clear hr hz hzc hzn hzi m5 hG5 hout5 hzro hzco hrol ho1 gp8;go_wp2_with fail;go_at_call 73;refine HWK.out.mono ?_;rintro e w6 ⟨rfl,m6⟩;have kp8:=m6.at0 kp8;have H6:=Hi (Ai (H5.out.1.mod0 m6) (H5.out.2.1.mod0 m6));have HM6:=Hi m6;clear m6 HWK HIT;cases o1 with
   |some j=>
    obtain⟨-,hj,hfr,-⟩:=qP H5.out.2.2.2.2.2.1;obtain⟨hG6,hout6⟩:=H6.out;obtain⟨M6,hp6,hd6,hMk6,hS6⟩:=hG6.pa;obtain⟨U0,⟨_,kp⟩,_⟩:=hS6.get (i:=0) rfl;obtain⟨U13,⟨_,es,cl,kh,Mh⟩,_⟩:=hS6.get (i:=13) rfl;rw[hp6]at kp;unfold pac at kp;have HMH:=Hi Mh;have HJ:=Hi (Ai hj hfr);have HM:=Hi (Ai hp6 (Ai hd6 (Ai hMk6 hS6)));have hpb:p≠M6.X.hb:=aB kp kh (by simp);have hp8b:p8≠M6.X.hb:=aB kp8 kh (by simp);clear hG6 hout6 hp6 hd6 hMk6 hS6 Mh hj hfr;go_upto_region 11 with fail;have Lkp:=aA kp;have Lkp8:=aA kp8;have Lkh:=aA kh;refine ZP0 [0,0,0,1,0,0,5] ?_
    iterate 6 first|refine Zv ?_|refine Zd ?_
    refine Zi fun wE hr=> ?_;replace kp:=hr.mod.at0 kp;replace kp8:=hr.mod.at0 kp8;replace kh:=hr.mod.at0 kh;have mE:=hr.mod;obtain⟨es13,cl13,hrun13,Mkh⟩:=HMH.out.update F4 Tryz.underlying119 wE kh x.ch j;refine ZV (hrun13) ?_;refine ZN kh fun w7 kh mS=> ?_;(try simp only[Array.setIfInBounds,zL]at kh);replace kp:=mS.at_ne kp (by omega);replace kp8:=mS.at_ne kp8 (by omega);have ms:Mod (fun i=>i=M6.X.hb) w6 w7:=(mE.mono (fun _ _ h=>h.elim)).trans mS;have HKH:=Hi (Ai kh Mkh);have HMS:=Hi ms;clear mE mS ms kh Mkh hpb hp8b kp;obtain⟨s3,hs3⟩:∃s3:Pa,s3= {s2 with hi:=put x.ch j s2.hi}:=⟨_,rfl⟩;have hgiv:Hid (∃T7,oE p d E s3 T w T7 w7∧vA R g o T7 w7∧Calls Tryz.prog 74 #[ptrV p,.int .i64 x.id.toInt,.int .i64 (j:Int),.agg (bT z2.r)] w7 fun e w'=>e= .returned (.tuple #[])∧Goes (bS p d E (stepP E si x.id)) T7 w7 w'):=Hi (by
     obtain⟨hG6,hout6⟩:=H6.out;obtain⟨hp6,hd6,hMk6,hS6⟩:=HM.out;obtain⟨hok,hnext,hout⟩:=HN.out;obtain⟨hxi,hpl,hid,hpk,hck⟩:=HX.out;obtain⟨hG5,hout5,hzro,hzco,hrol,ho1,hzn,_⟩:=H5.out;obtain⟨Ts,h1,h2,h3⟩:=hS6;have hp13:MI M6.X.hb s2.hi (Ts 13) w6:=h1 13 _ rfl;obtain⟨k1,k2⟩:=bQ.step (parts.good M6 E s2) hG6.lt (i:=13) (by simp[parts]) h1 h2 h3 (K':=MI M6.X.hb (put x.ch j s2.hi)) (Goes.into ⟨hp13.1,_,_,HKH.out.1,HKH.out.2⟩ (HMS.out.mono (fun a _ ha=>by rw[ha];exact hp13.1)));have hg7:Goes (bS p d E s3) T4 w6 w7:=by
      rw[hs3];exact⟨_,⟨M6,hp6,hd6,hMk6.same rfl rfl rfl rfl rfl,k1⟩,k2,fun _ h=>h⟩
     obtain⟨T7,hG7,m7,hT7⟩:=hG6.go hg7;refine⟨T7,hG7,hout6.go m7 hT7,?_⟩;have hsi:s3= {si with K:=popK si.K x.id,hi:=put (chK si.K x.id) j si.hi}:=by rw[hs3,HS.out.2.2.2.2,hpk,hck]
     have hjo:j<si.op.length:=by rw[hok.lo];exact HJ.out.1
     have hjl:j<si.la.length:=by rw[hok.ll];exact HJ.out.1
     have hstep:stepP E si x.id=giveP E j x.id z2.r.ro.l z2.r.cost s3:=by
      unfold stepP;rw[hxi];dsimp only;rw[ho1];dsimp only;rw[hzro,hzco,hsi]
     rw[hstep];have ham:=m7.size;have hmo:=aXt hjo;have hml:=aXt hjl;have hbl:=hok.ol _ hmo;have hb2:=hok.b2;have hbq:=hok.bq _ hml;have hbb:=hok.bb _ hml;have hzb:=hzn.ok.ro;have hm67:Mod (fun i=>i=M6.X.hb) w5 w7:=(HM6.out.mono (fun _ _ h=>h.elim)).trans HMS.out;have hzT:∀b2 o2,z2.r.ro.a=some ⟨b2,o2,none⟩→¬T7 b2∧b2≠M6.X.hb:=fun b2 o2 e=>by
      have r1:=(hzn.inn.ro b2 o2 e).1;have r2:=(hzn.inn.ro b2 o2 e).2;have r3:=HM6.out.size;have hl4:=H4.out.1.lt;have nb:b2≠M6.X.hb:=fun e2=>by
       have:=hl4 _ (h2 13 _ hp13.1|>fun h=>by exact h);omega
      refine⟨fun ht=> ?_,nb⟩;rcases hT7 b2 ht with k|k
      ·have:=hl4 b2 k;omega
      ·omega
     refine OZ hG7.pa hG7.lt HJ.out.1 x.id (y:=z2.r) (hzb.mod hm67 (fun b2 o2 e=>(hzT b2 o2 e).2)) (fun b2 o2 e=>(hzT b2 o2 e).1) (by rw[hzro];omega) (by rw[hzro,hsi];exact HJ.out.2) (by rw[hsi];have:=hok.bl;show si.L.length≤_;omega) (b:=si.op[j]) (by rw[hsi];exact aZb hjo) (q:=si.la[j]) (by rw[hsi];exact aZb hjl) (by omega) (by omega) (by omega) (by rw[hsi];have:=hok.bg;show si.gi.length≤_;omega) (fun k hk=> ?_) (by rw[hsi];have:=hok.bf j;show si.fl.getD j 0≤_;omega);obtain⟨xk,q1,q2,q3⟩:=hok.oi _ hmo k hk;have q4:=eX q1;have q5:=(aZa.1 q4).1;have q6:=hok.fi.sl;have q7:=hok.fi.ro _ _ q4;exact⟨xk,by rw[hsi];exact q4,q3,by omega,by omega⟩)
    obtain⟨T7,hG7,hout7,hcall⟩:=hgiv.out;have HG7:=Hi (Ai hG7 (Ai hout7 hcall));clear hG7 hout7 hcall;go_wp2_with fail;go_at_call 74;refine HG7.out.2.2.mono ?_;rintro e w8 ⟨rfl,hgo⟩;have HEND:Hid (∃Ti,oE p d E ((R.take (i+1)).foldl (stepP E) s1) T w Ti w8∧aS ic 1 w8 (some ⟨g,o,none⟩) R∧∀b o',some (⟨g,o,none⟩:Addr)=some ⟨b,o',none⟩→¬Ti b):=Hi (by
     obtain⟨T8,hG8,m8,hT8⟩:=HG7.out.1.go hgo;have hout8:=HG7.out.2.1.go m8 hT8;rw[HN.out.2.1];exact⟨T8,hG8,hout8.sl,fun b o' e=>by cases e;exact hout8.nt⟩)
    clear hgo;go_wp2_with fail;go_roundw
    case rel=>exact⟨i+1,by omega,by go_num,HEND⟩
    case measure=>simp[intOf];omega
   |none=>
    obtain⟨hG6,hout6⟩:=H6.out;obtain⟨M6,hp6,hd6,hMk6,hS6⟩:=hG6.pa;obtain⟨U0,⟨_,kp⟩,_⟩:=hS6.get (i:=0) rfl;rw[hp6]at kp;unfold pac at kp;obtain⟨s3,hs3⟩:∃s3:Pa,s3= {s2 with al:=si.al++xi.r.ro}:=⟨_,rfl⟩;have HM:=Hi (Ai hp6 (Ai hd6 (Ai hMk6 hS6)));have HS3:=Hi hs3;clear hG6 hout6 hp6 hd6 hMk6 hS6 hs3;go_upto_region 13 with fail;have Lkp:=aA kp;have Lkp8:=aA kp8;refine ZP [0,0,0,1,0,1,5] ?_
    iterate 6 first|refine Zv ?_|refine Zd ?_
    refine Zi fun w7 hr=> ?_;replace kp:=hr.q kp;replace kp8:=hr.q kp8;have M7:=Hi hr.mod;clear hr;have hadd:Calls Tryz.prog 75 #[ptrV M6.X.ab,.slice z2.r.ro.a z2.r.ro.l.length z2.r.ro.c] w7 fun e w'=>e= .returned (.tuple #[])∧Goes (bQ (parts M6 E s3)) T4 w7 w':=by
     obtain⟨hG6,hout6⟩:=H6.out;obtain⟨hp6,hd6,hMk6,hS6⟩:=HM.out;obtain⟨hG5,hout5,hzro,hzco,hrol,ho1,hzn,_⟩:=H5.out;have hal:s2.al=si.al:=by rw[HS.out.2.2.2.2]
     have hlt:∀a,T4 a→a<w7.heap.size:=fun a ha=>aZd (hG6.lt a ha) M7.out.size;have hzl:aV w7 z2.r.ro.a z2.r.ro.l:=(hzn.ok.ro.mod0 HM6.out).mod0 M7.out;rw[HS3.out,←hzro,←hal];exact bQ.callX (R:=fun e _=>e= .returned (.tuple #[])) (parts.good M6 E s2) hlt (hS6.mod0 (parts.good M6 E s2) M7.out) (i:=9) (K:=iM M6.X.ab (addB [] s2.al)) (K':=iM M6.X.ab (addB [] (s2.al++z2.r.ro.l))) rfl (fun T3 hsub ht hg=>iM.add hg z2.r.ro.a z2.r.ro.l z2.r.ro.c hzl (by rw[hzro];omega))
    (refine cA (by simp only[zK];rfl) (by rfl) ?y21 hadd (fun wn hP=> ?n21);(case y21=>(go_simp;(try(first|with_reducible rfl|(constructor<;>with_reducible rfl)))));try simp only[zL]);refine TE.nil ?_;clear hadd kp kp8;obtain⟨w8,hw8⟩:∃w8,wn=w8:=⟨_,rfl⟩;rw[hw8]at hP⊢;clear hw8;have hg8:Goes (bS p d E s3) T4 w7 w8:=by
     obtain⟨hp6,hd6,hMk6,hS6⟩:=HM.out;obtain⟨T8,a1,a2,a3⟩:=hP;rw[HS3.out]at a1⊢;exact⟨T8,⟨M6,hp6,hd6,hMk6.same rfl rfl rfl rfl rfl,a1⟩,a2,a3⟩
    obtain⟨T8,hG8,m8,hT8⟩:=(H6.out.1.mod0 M7.out).go hg8;have hout8:=(H6.out.2.mod0 M7.out).go m8 hT8;obtain⟨M8,hp8,hd8,hMk8,hS8⟩:=hG8.pa;obtain⟨U0,⟨_,kp⟩,_⟩:=hS8.get (i:=0) rfl;rw[hp8]at kp;unfold pac at kp;have H8:=Hi (Ai hG8 (Ai hout8 (Ai hp8 (Ai hd8 (Ai hMk8 hS8)))));clear hG8 hout8 hp8 hd8 hMk8 hS8 hg8 hP m8 hT8;go_upto_region 14 with fail;have Lkp:=aA kp;refine ZP0 [0,0,0,0,0,1,0,3,5,0,0,0,6] ?_
    iterate 7 first|refine Zv ?_|refine Zd ?_
    refine Zy (ET x.id) fun p77 hp77=> ?_;refine Zi fun w9 hr=> ?_;replace kp:=hr.q kp;obtain⟨gp77,kp77⟩:=hr.b p77;have M9:=Hi hr.mod;clear hr;have happ:∃v6 w6,(Builtin.append_ #[53,53] 53 #[M8.X.av,.slice (some ⟨p77,0,none⟩) 1 1]).run Tryz.prog w9= .ok v6 w6∧Goes (bQ ((parts M8 E s3).set 17 (RowL ic 1 3 v6 (s3.sd++[x.id])))) T8 w9 w6∧∃a6 n6 c6,v6= .slice a6 n6 c6:=by
     obtain⟨hG8,hout8,hp8,hd8,hMk8,hS8⟩:=H8.out;have hG:=parts.good M8 E s3;obtain⟨Ts,h1,h2,h3⟩:=hS8.mod0 hG M9.out;have hr17:RowL ic 1 3 M8.X.av s3.sd (Ts 17) w9:=h1 17 _ rfl;have hsd:s3.sd.length≤9000:=by
      have:=HN.out.1.bs;rw[HS3.out,HS.out.2.2.2.2];show si.sd.length≤_;omega
     obtain⟨v6,w6,hap,hg⟩:=RowL.app fZ hr17 (q:=[x.id]) (c:=1) (aS.one kp77 x.id rfl rfl) (by simp only[aZx];omega) (by decide) 53;obtain⟨k1,k2⟩:=bQ.step hG (fun a ha=>aZd (hG8.lt a ha) M9.out.size) (i:=17) (by simp[parts]) h1 h2 h3 hg;obtain⟨T9,hrow,_⟩:=id hg;obtain⟨a6,c6,e6,_⟩:=hrow.1.at fZ;exact⟨v6,w6,hap,⟨_,k1,k2,fun _ h=>h⟩,a6,_,c6,e6⟩
    obtain⟨v6,w10,hap,hg10,a6,n6,c6,rfl⟩:=happ;obtain⟨T10,hS10,hm10,hT10⟩:=hg10;obtain⟨U7,⟨_,kp10⟩,_⟩:=hS10.get (i:=0) rfl;rw[H8.out.2.2.1]at kp10;unfold pac at kp10;have H10:=Hi (Ai hS10 (Ai hm10 hT10));clear hS10 hm10 hT10 kp kp77;refine ZA hap ?_;refine Ze ?_;refine Ze ?_;refine Ze ?_;refine Zz ?_;refine ZS ?_;refine ZN kp10 fun wn kp10 mS=> ?_;(try simp only[Array.setIfInBounds,zL]at kp10);clear hap;have MS11:=Hi (Ai mS kp10);clear mS kp10;obtain⟨w11,hw11⟩:∃w11,wn=w11:=⟨_,rfl⟩;rw[hw11]at MS11⊢;clear hw11;have HEND:Hid (∃Ti,oE p d E ((R.take (i+1)).foldl (stepP E) s1) T w Ti w11∧aS ic 1 w11 (some ⟨g,o,none⟩) R∧∀b o',some (⟨g,o,none⟩:Addr)=some ⟨b,o',none⟩→¬Ti b):=Hi (by
     obtain⟨hG8,hout8,hp8,hd8,hMk8,hS8⟩:=H8.out;obtain⟨hS10,hm10,hT10⟩:=H10.out;obtain⟨hok,hnext,hout⟩:=HN.out;obtain⟨hxi,hpl,hid,hpk,hck⟩:=HX.out;obtain⟨hG5,hout5,hzro,hzco,hrol,ho1,hzn,_⟩:=H5.out;have hG9:=hG8.mod0 M9.out;have hlt10:=b9 hG9.lt hm10 hT10;have hGp:∀K∈((parts M8 E s3).set 17 (RowL ic 1 3 (.slice a6 n6 c6) (s3.sd++[x.id]))),aI K:=gY (parts.good M8 E s3) (RowL.good _ _ _ _ _) 17;obtain⟨Ts,h1,h2,h3⟩:=hS10;have hp0:CeL M8.p (pac M8.X) 121 (Ts 0) w10:=h1 0 _ rfl;obtain⟨k1,k2⟩:=bQ.step hGp hlt10 (i:=0) (by simp[parts]) h1 h2 h3 (K':=CeL M8.p (pac {M8.X with av:= .slice a6 n6 c6}) 121) (Goes.into ⟨hp0.1,by rw[hp8];unfold pac;exact MS11.out.2⟩ (MS11.out.1.mono (fun a _ ha=>by rw[ha,←hp8];exact hp0.1)));have hstep:stepP E si x.id= {s3 with sd:=s3.sd++[x.id]}:=by
      unfold stepP;rw[hxi];dsimp only;rw[ho1];dsimp only;rw[HS3.out,HS.out.2.2.2.2,hpk]
     have hgo:Goes (bS p d E (stepP E si x.id)) T8 w9 w11:=by
      rw[hstep];refine Goes.trans (K1:=bS p d E s3) hm10 hT10 ?_;exact⟨_,⟨{M8 with X:= {M8.X with av:= .slice a6 n6 c6}},hp8,hd8,⟨hMk8.win,hMk8.bat,hMk8.fli,hMk8.n1,hMk8.n2,hMk8.fv,hMk8.cv,hMk8.sv,hMk8.ov,hMk8.fl,hMk8.co,hMk8.sp,hMk8.op,hMk8.la,hMk8.gw,hMk8.gl⟩,k1⟩,k2,fun _ h=>h⟩
     obtain⟨Tf,hGf,mf,hTf⟩:=hG9.go hgo;have houtf:=(hout8.mod0 M9.out).go mf hTf;rw[hnext];exact⟨Tf,hGf,houtf.sl,fun b o' e=>by cases e;exact houtf.nt⟩)
    go_wp2_with fail;go_roundw
    case rel=>exact⟨i+1,by omega,by go_num,HEND⟩
    case measure=>simp[intOf];omega
  ·obtain rfl:i=R.length:=by omega
   have HRN:Hid (decide (0<(R.length:Int))=decide (R≠[])):=Hi (by
    cases R with
    |nil=>rfl
    |cons r R=>simp)
   have HE:Hid (Goes (bS p d E (R.foldl (stepP E) s1)) T w wr):=Hi (by
    obtain⟨Ti,hG,_⟩:=HI.out;rw[aY5]at hG;exact hG.goes)
   go_wp2_with fail;go_ret;refine⟨?_,HE.out⟩;rw[←HRN.out];simp
end
theorem FQ:nU Tryz.prog 22 129 pQ 1 8 where
 u:=Tryz.underlying22
 info:=by
  obtain⟨i0,hi,hz0,hz1,hz2⟩:=info_parts (show(Tryz.prog.info? 129).map (fun i=>(i.zero,i.size,i.bytes))=some (some (fv 0),1,8)by kernel_rfl);exact⟨i0,_,hi,hz0,hz1,hz2,rfl⟩
 pos:=by omega
 size:=fun _=>rfl
 one:=fun x u hu=>by
  simp only[pQ,aZc,aZe,or_false]at hu;rcases hu with rfl<;>rfl
def zY (b:Bool):Array Value:= #[.bool b]
theorem R4:nU Tryz.prog 26 4 zY 1 1 where
 u:=Tryz.underlying26
 info:=by
  obtain⟨i0,hi,hz0,hz1,hz2⟩:=info_parts (show(Tryz.prog.info? 4).map (fun i=>(i.zero,i.size,i.bytes))=some (some (.bool false),1,1)by kernel_rfl);exact⟨i0,_,hi,hz0,hz1,hz2,rfl⟩
 pos:=by omega
 size:=fun _=>rfl
 one:=fun x u hu=>by
  simp only[zY,aZc,aZe,or_false]at hu;rcases hu with rfl<;>rfl
theorem OA (w:World):(Instr.buildSlice 22 0 #[]).run Tryz.prog w= .ok (.slice (some ⟨w.heap.size,0,none⟩) 0 0) (w.alloc (.cells #[] 129)):=by kernel_rfl
theorem FJ (w:World) (a:Option Addr) (n c:Nat):(binOp .eql 22 (.slice a n c) (.slice none 0 0)).run Tryz.prog w= .ok (.bool a.isNone) w:=by
 cases a<;>kernel_rfl
theorem x4 {w:World} {a:Option Addr} {l:List Nat} {c:Nat} (hl:aS pQ 1 w a l) (hlen:l.length≤1000000):Calls Tryz.prog 39 #[.slice a l.length c] w fun e w'=>∃v,e= .returned v∧aE pQ 1 129 w' w.heap.size v l∧Mod (fun _=>False) w w':=by
 have he:=FJ;cases a with
 |none=>
  obtain rfl:l=[]:=by
   rcases hl with h|⟨_,_,_,_,_,h,_⟩
   ·exact h
   ·cases h
  go_enter Tryz.func39,Tryz.ntmps39;go_wp2_with fail;go_ret;exact⟨_,rfl,aE.nil _ _,Mod.refl _ _⟩
 |some p=>
  have HL:=Hi hl;have hbs:=OA;generalize hll:l.length=ll at *;have HLL:=Hi hll;clear hl hll;go_enter Tryz.func39,Tryz.ntmps39;go_upto_region 3 with fail;refine ZP0 [3,0,5,0] ?_;refine Zy hbs fun p5 hp5=> ?_;refine Zv ?_;refine Zi fun w1 hr=> ?_;obtain⟨gp5,kp5⟩:=hr.b p5;have m1:=hr.mod;clear hr;obtain⟨v3,w6,hap,hO6,m6,hn6⟩:=aE.append FQ (c:=c) (lU (f:=pQ) (n:=1) gp5 kp5) (HL.out.mod0 m1) (by simp;have:=HLL.out;omega) (by decide) m1.size 22;have mF:Mod (fun _=>False) w w6:=m1.then m6 (fun i hi e=>by
   have e2:p5=i:=aZz e;omega)
  rw[HLL.out]at hap;have HO:=Hi hO6;clear hn6 m6 hO6;refine ZA hap ?_;refine Ze ?_;refine TE.nil ?_;go_wp2_with fail;go_ret;exact⟨_,rfl,HO.out,mF⟩
theorem N9 (w:World):(Instr.buildSlice 26 0 #[]).run Tryz.prog w= .ok (.slice (some ⟨w.heap.size,0,none⟩) 0 0) (w.alloc (.cells #[] 4)):=by kernel_rfl
theorem FI (w:World) (a:Option Addr) (n c:Nat):(binOp .eql 26 (.slice a n c) (.slice none 0 0)).run Tryz.prog w= .ok (.bool a.isNone) w:=by
 cases a<;>kernel_rfl
theorem x3 {w:World} {a:Option Addr} {l:List Bool} {c:Nat} (hl:aS zY 1 w a l) (hlen:l.length≤1000000):Calls Tryz.prog 40 #[.slice a l.length c] w fun e w'=>∃v,e= .returned v∧aE zY 1 4 w' w.heap.size v l∧Mod (fun _=>False) w w':=by
 have he:=FI;cases a with
 |none=>
  obtain rfl:l=[]:=by
   rcases hl with h|⟨_,_,_,_,_,h,_⟩
   ·exact h
   ·cases h
  go_enter Tryz.func40,Tryz.ntmps40;go_wp2_with fail;go_ret;exact⟨_,rfl,aE.nil _ _,Mod.refl _ _⟩
 |some p=>
  have HL:=Hi hl;have hbs:=N9;generalize hll:l.length=ll at *;have HLL:=Hi hll;clear hl hll;go_enter Tryz.func40,Tryz.ntmps40;go_upto_region 3 with fail;refine ZP0 [3,0,5,0] ?_;refine Zy hbs fun p5 hp5=> ?_;refine Zv ?_;refine Zi fun w1 hr=> ?_;obtain⟨gp5,kp5⟩:=hr.b p5;have m1:=hr.mod;clear hr;obtain⟨v3,w6,hap,hO6,m6,hn6⟩:=aE.append R4 (c:=c) (lU (f:=zY) (n:=1) gp5 kp5) (HL.out.mod0 m1) (by simp;have:=HLL.out;omega) (by decide) m1.size 26;have mF:Mod (fun _=>False) w w6:=m1.then m6 (fun i hi e=>by
   have e2:p5=i:=aZz e;omega)
  rw[HLL.out]at hap;have HO:=Hi hO6;clear hn6 m6 hO6;refine ZA hap ?_;refine Ze ?_;refine TE.nil ?_;go_wp2_with fail;go_ret;exact⟨_,rfl,HO.out,mF⟩
theorem SW (n:Nat) (hn:n≤100000) (w:World):(Instr.makeSlice 67 (.int .i64 (n:Int)) (.int .i64 (n:Int))).run Tryz.prog w= .ok (.slice (some ⟨w.heap.size,0,none⟩) n n) (w.alloc (.cells (List.replicate n (.int .u64 0)).toArray 23)):=by
 obtain⟨i0,hi,hz0,hz1,hz2⟩:=info_parts (show(Tryz.prog.info? 23).map (fun i=>(i.zero,i.size,i.bytes))=some (some (.int .u64 0),1,8)by kernel_rfl);have:=run_make (P:=Tryz.prog) w 67 23 i0 _ Tryz.underlying67 hi hz0 .i64 .i64 (n:Int) (n:Int) (by omega) (by omega) (by rw[hz2];omega) (by omega);have hc:madeCells #[.int .u64 0] n=(List.replicate n (.int .u64 0)).toArray:=by
  apply aZ1.1;rw[toList_madeCells_one]
 rw[hz1,aYp]at this;simpa[Value.cells,hc] using this
theorem SV (n:Nat) (hn:n≤100000) (w:World):(Instr.makeSlice 102 (.int .i64 (n:Int)) (.int .i64 (n:Int))).run Tryz.prog w= .ok (.slice (some ⟨w.heap.size,0,none⟩) n n) (w.alloc (.cells (List.replicate n (.slice none 0 0)).toArray 53)):=by
 obtain⟨i0,hi,hz0,hz1,hz2⟩:=info_parts (show(Tryz.prog.info? 53).map (fun i=>(i.zero,i.size,i.bytes))=some (some (.slice none 0 0),1,24)by kernel_rfl);have:=run_make (P:=Tryz.prog) w 102 53 i0 _ Tryz.underlying102 hi hz0 .i64 .i64 (n:Int) (n:Int) (by omega) (by omega) (by rw[hz2];omega) (by omega);have hc:madeCells #[.slice none 0 0] n=(List.replicate n (.slice none 0 0)).toArray:=by
  apply aZ1.1;rw[toList_madeCells_one]
 rw[hz1,aYp]at this;simpa[Value.cells,hc] using this
structure Dm where
 D:Dk
 sb:Nat
 fb:Nat
 cb:Nat
 sc:Nat
 sx:List Value
def dparts (X:Dm) (d:Nat) (E:Ev) (s:Pa):List aL:=
 [CeL d (iR X.D) 69,BT X.D.b s.S,sO X.D.q E.H,JH X.D.sn E.N,fG X.D.t E.n s.L,mN X.D.ln E.n s.la,CeL X.fb (s.fl.map natV).toArray 3,CeL X.cb (s.co.map u64v).toArray 23,CeL X.sb (E.spd.map fv++X.sx).toArray 129]
structure MH (X:Dm) (E:Ev) (s:Pa):Prop where
 win:X.D.win=E.win
 bat:X.D.bat=E.bat
 fli:X.D.fli=E.fli
 n1:1≤E.n
 n2:E.n≤64
 fv:X.D.fv= .slice (some ⟨X.fb,0,none⟩) E.n E.n
 cv:X.D.cv= .slice (some ⟨X.cb,0,none⟩) E.n E.n
 sv:X.D.sp= .slice (some ⟨X.sb,0,none⟩) E.n X.sc
 fl:s.fl.length=E.n
 co:s.co.length=E.n
 sp:E.spd.length=E.n
 la:s.la.length=E.n
structure RI (X:Dm) (E:Ev) (s:Pa):Prop extends MH X E s where
 cf:∃(hold:Int) (oa:Option Addr) (on oc:Nat),X.D.hold= .int .i64 hold∧X.D.own= .slice oa on oc∧cfB E.n X.D.room E.win E.bat E.fli hold on=true
def RH (d:Nat) (E:Ev) (s:Pa):aL:=fun T w=>∃X:Dm,MH X E s∧bQ (dparts X d E s) T w
def BY (d:Nat) (E:Ev) (s:Pa):aL:=fun T w=>∃X:Dm,RI X E s∧bQ (dparts X d E s) T w
theorem dparts.good (X:Dm) (d:Nat) (E:Ev) (s:Pa):∀K∈dparts X d E s,aI K:=by
 intro K hK;simp only[dparts,aZc,aZe,or_false]at hK;rcases hK with rfl|rfl|rfl|rfl|rfl|rfl|rfl|rfl|rfl
 ·exact CeL.good _ _ _
 ·exact BT.good _ _
 ·exact sO.good _ _
 ·exact JH.good _ _
 ·exact fG.good _ _ _
 ·exact mN.good _ _ _
 ·exact CeL.good _ _ _
 ·exact CeL.good _ _ _
 ·exact CeL.good _ _ _
theorem BY.good (d:Nat) (E:Ev) (s:Pa):aI (BY d E s) where
 cl:=fun T w w' ⟨M,h1,h4⟩ hm=>⟨M,h1,(bQ.good (dparts.good M d E s)).cl _ _ _ h4 hm⟩
 gr:=fun T T' w hT ⟨M,h1,h4⟩=>⟨M,h1,(bQ.good (dparts.good M d E s)).gr _ _ _ hT h4⟩
theorem bQ.nil (w:World):bQ [] (fun _=>False) w:=⟨fun _ _=>False,fun i K h=>(by cases h),fun _ _ h=>h,fun _ _ _ _ h=>h.elim⟩
theorem bQ.add {Ks:List aL} {K:aL} {T T':Nat→Prop} {w:World} (h:bQ Ks T w) (hK:K T' w) (hd:∀a,T' a→¬T a):bQ (K::Ks) (fun a=>T a∨T' a) w:=by
 obtain⟨Ts,h1,h2,h3⟩:=h;refine⟨fun i=>match i with|0=>T'|i+1=>Ts i,fun i L hL=> ?_,fun i a ha=> ?_,fun i j a hij hi hj=> ?_⟩
 ·cases i with
  |zero=>cases hL;exact hK
  |succ i=>exact h1 i L hL
 ·cases i with
  |zero=>exact .inr ha
  |succ i=>exact .inl (h2 i a ha)
 ·cases i with
  |zero=>
   cases j with
   |zero=>exact hij rfl
   |succ j=>exact hd a hi (h2 j a hj)
  |succ i=>
   cases j with
   |zero=>exact hd a hj (h2 i a hi)
   |succ j=>exact h3 i j a (fun e=>hij (by rw[e])) hi hj
theorem bQ.pick {Ks Ks':List aL} (f:Nat→Nat) (hf:∀i j,i<Ks'.length→j<Ks'.length→f i=f j→i=j) (h:∀(i:Nat) (K:aL),Ks'[i]? =some K→Ks[f i]? =some K) {T:Nat→Prop} {w:World} (hS:bQ Ks T w):bQ Ks' T w:=by
 obtain⟨Ts,h1,h2,h3⟩:=hS;refine⟨fun i a=>i<Ks'.length∧Ts (f i) a,fun i K hK=> ?_,fun i a ha=>h2 _ a ha.2,fun i j a hij hi hj=>h3 _ _ a (fun e=>hij (hf i j hi.1 hj.1 e)) hi.2 hj.2⟩;have hl:=(aZa.1 hK).1
 have:(fun a=>i<Ks'.length∧Ts (f i) a)=Ts (f i):=by
  funext a;exact propext ⟨fun h=>h.2,fun h=>⟨hl,h⟩⟩
 show K (fun a=>i<Ks'.length∧Ts (f i) a) w;rw[this];exact h1 _ _ (h i K hK)
def JM (l:List Nat) (v:Value):aL:=RowL pQ 1 129 v l
theorem WL {w:World} {a:Option Addr} {l:List Nat} {c:Nat} (T:Nat→Prop) (hl:aS pQ 1 w a l) (hlen:l.length≤1000000):Calls Tryz.prog 39 #[.slice a l.length c] w fun e w'=>∃v,e= .returned v∧Mod (fun _=>False) w w'∧JM l v (Grow T w w') w':=
 (x4 hl hlen).mono fun e w' h=>by
  obtain⟨v,h1,h2,h3⟩:=h;exact⟨v,h1,h3,⟨h2.1,by
   rcases h2.2 with h|⟨g,cap,cur,e,_,hg,r⟩
   ·exact .inl h
   ·exact .inr ⟨g,cap,cur,e,aYf _,hg,r⟩⟩,fun g hg=> .inr (h2.lt g hg)⟩
def NO (n:Nat) (v:Value):aL:=fun _ _=>∃a c,v= .slice a n c
theorem V4 {w:World} {a:Option Addr} {l:List Bool} {c:Nat} (T:Nat→Prop) (hl:aS zY 1 w a l) (hlen:l.length≤1000000):Calls Tryz.prog 40 #[.slice a l.length c] w fun e w'=>∃v,e= .returned v∧Mod (fun _=>False) w w'∧NO l.length v (Grow T w w') w':=
 (x3 hl hlen).mono fun e w' h=>by
  obtain⟨v,h1,h2,h3⟩:=h;obtain⟨a2,c2,e2,_⟩:=h2.at R4;exact⟨v,h1,h3,a2,c2,e2⟩
theorem AJ (n:Nat) (v:Value):aI (NO n v):=⟨fun _ _ _ h _=>h,fun _ _ _ _ h=>h⟩
def VO (v:Value):aL:=fun T w=>∃q,v=ptrV q∧sO q [] T w
theorem F0 (v:Value):aI (VO v):=aI.ex fun q=>(aI.pure _).and (sO.good _ _)
def VP (lo:Nat) (v:Value):aL:=fun T w=>∃n b,v=ptrV n∧lo<b∧JH n [] (fun a=>T a∧b≤a) w
theorem F1 (lo:Nat) (v:Value):aI (VP lo v) where
 cl:=fun T w w' ⟨n,b,h1,h2,h3⟩ hm=>⟨n,b,h1,h2,(JH.good _ _).cl _ _ _ h3 (hm.mono (fun a _ ha ht=>ha ht.1))⟩
 gr:=fun T T' w hT ⟨n,b,h1,h2,h3⟩=>⟨n,b,h1,h2,(JH.good _ _).gr _ _ _ (fun a ha=>⟨hT a ha.1,ha.2⟩) h3⟩
theorem X4 (w:World) (T:Nat→Prop):Calls Tryz.prog 41 #[] w fun e w'=>∃v,e= .returned v∧Mod (fun _=>False) w w'∧VO v (Grow T w w') w':=
 (PL w).mono fun e w' h=>by
  obtain⟨q,h1,h2,h3,h4⟩:=h;obtain⟨R,nx,hk,hq⟩:=h3;exact⟨_,h1,h4,q,rfl,⟨R,nx,hk,hq⟩,.inr ⟨h2,aA hk⟩⟩
theorem GP (w:World):Calls Tryz.prog 42 #[] w fun e w'=>∃n,e= .returned (ptrV n)∧kD (fun i=>w.heap.size≤i∧i<w'.heap.size) w' n []∧Mod (fun _=>False) w w':=by
 have hmm:= @run_makeMap Tryz.prog;go_enter Tryz.func42,Tryz.ntmps42;go_wp2_with fail;go_ret;obtain⟨h1,h2,h3⟩:=pP w (.map #[] 0) (.map #[] 0) (.cells #[.map (some w.heap.size),.map (some (w.heap.size+1))] 167);exact⟨_,rfl,⟨w.heap.size,w.heap.size+1,_,_,_,_,[],h3,h1,aR.empty NJ kv,h2,aR.empty kv id,by omega,⟨by omega,aA h3⟩,⟨by omega,aA h1⟩,⟨by omega,aA h2⟩,(fun p hp=>by cases hp),fun p hp=>by cases hp⟩,(((Mod.refl _ _).alloc _).alloc _).alloc _⟩
theorem X5 (w:World) (T:Nat→Prop) (lo:Nat) (hlo:lo<w.heap.size):Calls Tryz.prog 42 #[] w fun e w'=>∃v,e= .returned v∧Mod (fun _=>False) w w'∧VP lo v (Grow T w w') w':=
 (GP w).mono fun e w' h=>by
  obtain⟨n,h1,h4,h5⟩:=h;exact⟨_,h1,h5,n,w.heap.size,rfl,hlo,kD.mono h4 (fun a ha=>⟨.inr ha,ha.1⟩)⟩
def XP (room:Nat) (v:Value):aL:=fun T w=>∃b,v= .tuple #[ptrV b,.int .i64 0]∧BT b (List.replicate room none) T w
theorem XT (w:World) (T:Nat→Prop) {n:Nat} (h1:1≤n) (h2:n≤4096) (h0:0<w.heap.size):Calls Tryz.prog 43 #[.int .i64 (n:Int)] w fun e w'=>∃v,e= .returned v∧Mod (fun _=>False) w w'∧XP n v (Grow T w w') w':=
 (JZ w h1 h2).mono fun e w' h=>by
  obtain⟨b,h1,h2⟩:=h;have h3:BH w (fun i=>False∧i≠0) b (List.replicate n none) w':=by
   obtain⟨s,h,R,C,Ts,Th,Tr,HB,hS,hp,hT,m⟩:=h2;exact⟨s,h,R,C,Ts,Th,Tr,HB,hS,hp,fun i hi=>⟨.inr ((hT i hi).1.resolve_left (fun h=>h)),(hT i hi).2⟩,m.mono (fun i _ h=>h.elim)⟩
  exact⟨_,h1,h3.mt.mono (fun i _ h=>h),b,rfl,(BT.good _ _).gr _ _ _ (fun a ha=>ha.elim (fun h=>h.elim) .inr) (h3.bt h0)⟩
def XR (n:Nat) (v:Value):aL:=fun T w=>∃t,v= .tuple #[ptrV t,.int .i64 0]∧fG t n [] T w
theorem X6 (w:World) (T:Nat→Prop) {n:Nat} (h1:1≤n) (h2:n≤64):Calls Tryz.prog 44 #[.int .i64 (n:Int)] w fun e w'=>∃v,e= .returned v∧Mod (fun _=>False) w w'∧XR n v (Grow T w w') w':=
 (PO n w h1 h2).mono fun e w' h=>by
  obtain⟨t,hb,wb,h1,h2,h3,h4,h5,h6⟩:=h;obtain⟨_,l1,_,_,_,_,_,_,l2,_,l3,_⟩:=id h5;exact⟨_,h1,h6,t,rfl,hb,wb,h5,.inr ⟨h2,aA l1⟩,.inr ⟨h3,aA l2⟩,.inr ⟨h4,aA l3⟩⟩
def XQ (n:Nat) (v:Value):aL:=fun T w=>∃p,v= .tuple #[ptrV p,.int .i64 0]∧mN p n (List.replicate n []) T w
theorem X0 (w:World) (T:Nat→Prop) {n:Nat} (h1:1≤n) (h2:n≤64):Calls Tryz.prog 45 #[.int .i64 (n:Int)] w fun e w'=>∃v,e= .returned v∧Mod (fun _=>False) w w'∧XQ n v (Grow T w w') w':=
 (P7 w h1 h2).mono fun e w' h=>by
  obtain⟨p,h1,⟨T2,h2,h3⟩,h4⟩:=h;exact⟨_,h1,h4,p,rfl,(mN.good _ _ _).gr _ _ _ (fun a ha=> .inr (h3 a ha)) h2⟩
theorem EW (l:List Nat):cellsOf pQ l=l.map fv:=by
 induction l with
 |nil=>rfl
 |cons a l ih=>
  show(pQ a).toList++cellsOf pQ l=_;rw[ih];rfl
theorem KC {T:Nat→Prop} {w:World} {a:Option Addr} {n c:Nat} {l:List Nat} (h:JM l (.slice a n c) T w) (hn:1≤n):∃g sx,a=some ⟨g,0,none⟩∧CeL g (l.map fv++sx).toArray 129 T w:=by
 obtain⟨⟨h1,h2⟩,h3⟩:=h;rcases h2 with⟨e,_⟩|⟨g,cap,cur,e,hb,hg,hnc,hcm,hcs,ht⟩
 ·cases e;omega
 ·injection e with e1 e2 e3
  subst e1;subst e2;refine⟨g,cur.toList.drop (l.length*1),rfl,h3 g rfl,?_⟩;rw[hg];have e4:l.map fv=cur.toList.take (l.length*1):=by rw[ht,EW]
  rw[e4,aY9]
def paN (room n:Nat):Pa:=⟨List.replicate room none,[],[],0,[],[],[],[],[],[],[],List.replicate n [],List.replicate n 0,List.replicate n 0⟩
theorem K8 (w:World) (sa:Option Addr) (sn sc:Nat) (room win bat fli:Int) (l1 l2 l3 fw:Value) (hold:Int) (oa:Option Addr) (on oc:Nat) (hcf:cfB sn room win bat fli hold on=false):
  Calls Tryz.prog 11 #[.agg (sZ (.slice sa sn sc) room win bat fli l1 l2 l3 fw hold (.slice oa on oc))] w fun e w'=>e= .returned (.tuple #[.pointer none,.int .i64 1])∧Mod (fun _=>False) w w':=by
 have hc:=fun wq=>tA sa sn sc room win bat fli l1 l2 l3 fw hold oa on oc wq;rw[hcf]at hc;unfold sZ at hc⊢;have HC:=Hi hc;clear hcf hc;go_enter Tryz.func11,Tryz.ntmps11;go_upto_region 0 with fail;refine ZP0 [3,0,0] ?_;refine Zb fun p1 hp1=> ?_
 iterate 2 refine Zv ?_
 refine TD.nil (fun w1 hr=> ?_);obtain⟨gp1,kp1⟩:=hr.b p1;have m1:=hr.mod;clear hr;go_wp2_with fail;go_at_call 38;refine(HC.out w1).mono ?_;rintro e w2 ⟨rfl,m2⟩;go_wp2_with fail;exact bodyPost_ret (results_tmp2 rfl _ _ _) rfl ⟨rfl,m1.then0 m2⟩
theorem IV {P:Program} {ops:Array Oper} {Q:Exit→Act→World→Prop} {i:Nat} {r:List Nat} {a:Act} {o:Oper} {w w':World} {T:TypeId} {x y:Operand} {X Y:Value} (ho:ops[i]? =some o) (hw:Region.wanted o (yielded ops a.tmps)=true) (hd:o.dst=none)
  (hop:o.op= .store T x y) (hx:a.eval x=X) (hy:a.eval y=Y) (hr:(Instr.storeAt T X Y).run P w= .ok () w') (h:wpOps P ops Q r a w'):wpOps P ops Q (i::r) a w:=by
 unfold wpOps;simp only[ho,hw,if_true];refine .inl ?_;unfold Oper.wp;have he:(execOp a.eval o).run P w= .ok .skip w':=by
  subst hx;subst hy;simp[execOp,hop,hr]
 rw[he];simpa[Oper.upon,Act.put,hd] using h
theorem ZT {P:Program} {ops:Array Oper} {Q:Exit→Act→World→Prop} {i:Nat} {r:List Nat} {a:Act} {w w':World} {o:Oper} {T:TypeId} {x y:Operand} {X Y:Value} (h:wpOps P ops Q r a w') (ho:ops[i]? =some o:=by simp only[zK];rfl) (hw:Region.wanted o (yielded ops a.tmps)=true:=by rfl) (hd:o.dst=none:=by rfl) (hop:o.op= .store T x y:=by rfl) (hx:a.eval x=X:=by(try simp only[zM]);(try rfl)) (hy:a.eval y=Y:=by(try simp only[zM]);(try rfl)) (hr:(Instr.storeAt T X Y).run P w= .ok () w':=by go_simp;try with_reducible rfl):wpOps P ops Q (i::r) a w:=IV ho hw hd hop hx hy hr h
theorem qK {P:Program} {ops:Array Oper} {Q:Exit→Act→World→Prop} {i:Nat} {r:List Nat} {a:Act} {o:Oper} {w:World} {T:TypeId} {z:Array Value} (ho:ops[i]? =some o) (hw:Region.wanted o (yielded ops a.tmps)=true) (hop:o.op= .alloc T)
  (hr:∀w,(Instr.alloc T true (.tuple #[])).run P w= .ok (.pointer (some ⟨w.heap.size,0,none⟩)) (w.alloc (.cells z T)))
  (h:∀q w',w.heap.size=q→w'.heap[q]? =some (.cells z T (0,0))→Mod (fun _=>False) w w'→wpOps P ops Q r (a.put o.dst (.pointer (some ⟨q,0,none⟩))) w'):wpOps P ops Q (i::r) a w:=
 nP ho hw (by simp[execOp,hop,hr w]) (h _ _ rfl (heap_alloc_new _ _) ((Mod.refl _ _).alloc _))
theorem QO {P:Program} {ops:Array Oper} {Q:Exit→Act→World→Prop} {r:List Nat} {a:Act} {w:World} {p:Nat} {o1 o':Obj} (hb:w.heap[p]? =some o1) (h:∀w',w'.heap[p]? =some o'→Mod (fun i=>i=p) w w'→wpOps P ops Q r a w'):wpOps P ops Q r a (setBlock w p o'):=
 h _ (aD w _ (aA hb)) (bN w p o')
theorem QP {P:Program} {ops:Array Oper} {Q:Exit→Act→World→Prop} {r:List Nat} {a:Act} {w:World} {p i:Nat} {cs:Array Value} {U:TypeId} {fr:Nat×Nat} {v:Value} (hb:w.heap[p]? =some (.cells cs U fr))
  (h:∀w',w'.heap[p]? =some (.cells (cs.setIfInBounds i v) U fr)→Mod (fun i=>i=p) w w'→wpOps P ops Q r a w'):wpOps P ops Q r a (w.setCell ⟨p,i,none⟩ v):=by
 rw[setCell_blk hb];exact QO hb h
theorem iG {P:Program} {ops:Array Oper} {Q:Exit→Act→World→Prop} {i:Nat} {r:List Nat} {a:Act} {o:Oper} {w:World} {f:FuncId} {args:Array Value} {R:Value→World→Prop} (ho:ops[i]? =some o) (hw:Region.wanted o (yielded ops a.tmps)=true)
  (hy:(execOp a.eval o).run P w= .ok (.enter f args) w) (hc:Calls P f args w fun e w'=>∃v,e= .returned v∧R v w') (hn:∀v w',R v w'→wpOps P ops Q r (a.put o.dst v) w'):wpOps P ops Q (i::r) a w:=by
 unfold wpOps;simp only[ho,hw,if_true];refine .inl ?_;unfold Oper.wp;rw[hy,Oper.upon_enter];refine hc.mono ?_;rintro e w' ⟨v,rfl,h⟩;exact hn v w' h
theorem R1 (sp room win bat fli l1 l2 l3 fw hold own:Value) (n q sn fb cb:Nat) (w:World):(Instr.build 69 #[(0,.agg #[sp,room,win,bat,fli,l1,l2,l3,fw,hold,own]),(4,ptrV q),(5,ptrV sn),(6,.slice (some ⟨fb,0,none⟩) n n),(7,.slice (some ⟨cb,0,none⟩) n n)]).run Tryz.prog w= .ok (.agg #[sp,room,win,bat,fli,l1,l2,l3,fw,hold,own,.pointer none,.pointer none,.pointer none,ptrV q,ptrV sn,.slice (some ⟨fb,0,none⟩) n n,.slice (some ⟨cb,0,none⟩) n n]) w:=by kernel_rfl
theorem AK (l:List Nat) (v:Value):aI (JM l v):=RowL.good _ _ _ _ _
theorem GO (w:World) (sa:Option Addr) (spd:List Nat) (sc:Nat) (hsp:aS pQ 1 w sa spd) (room win bat fli:Nat) (l1 l2 l3 fw:UInt64) (hold:Int) (oa:Option Addr) (own:List Bool) (oc:Nat) (how:aS zY 1 w oa own) (hol:own.length≤1000000) (hcf:cfB spd.length room win bat fli hold own.length=true):
  Calls Tryz.prog 11 #[.agg (sZ (.slice sa spd.length sc) room win bat fli (u64v l1) (u64v l2) (u64v l3) (u64v fw) hold (.slice oa own.length oc))] w fun e w'=>∃d,e= .returned (.tuple #[ptrV d,.int .i64 0])∧(∃T,BY d ⟨win,bat,fli,spd.length,spd,[],[]⟩ (paN room spd.length) T w'∧∀a,T a→w.heap.size≤a∧a<w'.heap.size)∧Mod (fun _=>False) w w':=by
 obtain⟨n,hn⟩:∃n,spd.length=n:=⟨_,rfl⟩;obtain⟨on,hon⟩:∃on,own.length=on:=⟨_,rfl⟩;rw[hn,hon]at hcf⊢;have hc:=fun wq=>tA sa n sc room win bat fli (u64v l1) (u64v l2) (u64v l3) (u64v fw) hold oa on oc wq;rw[hcf]at hc;have hcf2:=hcf;unfold cfB xM at hcf2;simp only[aZy,decide_eq_true_eq]at hcf2;have hnb:1≤n∧n≤64∧1≤room∧room≤4096:=by omega
 obtain⟨hn1,hn64,hr1,hr4⟩:=hnb;unfold sZ at hc⊢;have HC:=Hi hc;have HA:=Hi (Ai hsp (Ai hn (Ai how (Ai hon (Ai hcf hol)))));clear hcf hcf2 hc hsp hn how hon hol;go_enter Tryz.func11,Tryz.ntmps11;go_upto_region 0 with fail;refine ZP0 [3,0,0] ?_;refine Zb fun p1 hp1=> ?_
 iterate 2 refine Zv ?_
 refine TD.nil (fun w1 hr=> ?_);obtain⟨gp1,kp1⟩:=hr.b p1;have m1:=hr.mod;clear hr;go_wp2_with fail;go_at_call 38;refine(HC.out w1).mono ?_;rintro e w2 ⟨rfl,m2⟩;have kp1:=m2.at0 kp1;have M2:=Hi (m1.then0 m2);have HP1:Hid (w.heap.size≤p1):=Hi gp1;have LP1:=Hi (aA kp1);clear m1 m2 HC;go_upto_region 4 with fail;have Lkp1:=aA kp1;refine iJ (T0:=fun _=>False) (K:=fun _ _=>True) (κ:=fun i=>[0,0,6,0,0,6,0,6,0,6].getD i 0) (υ:=fun _=>[]) [0,1,2,3,4,5,6] [7,8,9] (by kernel_rfl) (by kernel_rfl) (aI.true).cl (trivial) (fun _ h=>h.elim) ?_;have gK:=aI.true;refine Zg ?_;refine Zh ?_;(refine ZJ (JM spd) (AK spd) gK ?_ (s:=fun T wq kq ltq hSq ub=>by have kp1q:=hSq.at kp1 (fun h=>h);exact(by have hc:=WL (c:=sc) T (HA.out.1.mod0 (M2.out.then0 hSq)) (by rw[HA.out.2.1];omega);rw[HA.out.2.1]at hc;exact hc));rintro v9 ⟨wI,TI,hI⟩;replace gK:=gK.and ((AK spd) v9);(obtain⟨fa,fc,hfe,_⟩:=hI.k.2.1.at FQ;rw[HA.out.2.1]at hfe;subst hfe);(try clear hI TI wI);try simp only[zL]);refine Zg ?_;refine Zh ?_;(refine ZJ (NO on) (AJ on) gK ?_ (s:=fun T wq kq ltq hSq ub=>by have kp1q:=hSq.at kp1 (fun h=>h);exact(by have hc:=V4 (c:=oc) T (HA.out.2.2.1.mod0 (M2.out.then0 hSq)) HA.out.2.2.2.2.2;rw[HA.out.2.2.2.1]at hc;exact hc));rintro v12 ⟨wI,TI,hI⟩;replace gK:=gK.and ((AJ on) v12);(obtain⟨oa2,oc2,rfl⟩:=hI.k.2);(try clear hI TI wI);try simp only[zL]);refine Zg ?_;refine TG.nil (fun w3 ⟨TR,hr⟩=> ?_);replace kp1:=hr.q kp1;clear gK
 rename Nat→Prop=>TR3
 obtain⟨⟨_,hfl⟩,_⟩:=hr.k;have m3:=hr.mod;have H3:=Hi (Ai hfl (Ai hr.old (Ai hr.lt (M2.out.then0 m3))));clear hr hfl m3;refine Zz ?_;refine ZS ?_;refine ZM kp1 fun wn kp1 mS=> ?_;(try simp only[Array.setIfInBounds,zL]at kp1);have ms3:=mS;clear mS;refine Ze ?_;refine Zz ?_;refine ZS ?_;refine ZN kp1 fun wn kp1 mS=> ?_;(try simp only[Array.setIfInBounds,zL]at kp1);have ms4:=ms3.trans mS;obtain⟨w4,hw4⟩:∃w4,wn=w4:=⟨_,rfl⟩;rw[hw4]at kp1 ms4⊢;have HM4:=Hi ms4;clear ms4 ms3 mS hw4;have hmk1:=GJ n (by omega);have hmk2:=SW n (by omega);have hbd:=R1 (.slice fa n fc) (.int .i64 (room:Int)) (.int .i64 (win:Int)) (.int .i64 (bat:Int)) (.int .i64 (fli:Int)) (u64v l1) (u64v l2) (u64v l3) (u64v fw) (.int .i64 hold) (.slice oa2 on oc2) n;go_upto_region 6 with fail;have Lkp1:=aA kp1;refine cJ (T0:=fun _=>False) (K:=fun _ _=>True) (κ:=fun i=>[0,6,6,0,3,0,3,0,3,0].getD i 0) (υ:=fun _=>[]) [0,1,2,3,4,5,6,7,8,9] (by kernel_rfl) (by kernel_rfl) (aI.true).cl (trivial) (fun _ h=>h.elim) ?_;have gK:=aI.true;refine Zh ?_;(refine ZJ (VO) (F0) gK ?_ (s:=fun T wq kq ltq hSq ub=>by have kp1q:=hSq.at kp1 (fun h=>h);exact X4 wq T);rintro v18 ⟨wI,TI,hI⟩;replace gK:=gK.and ((F0) v18);(obtain⟨q,rfl,hqu⟩:=hI.k.2);(try clear hI TI wI);try simp only[zL]);(refine ZJ (VP q) (F1 q) gK ?_ (s:=fun T wq kq ltq hSq ub=>by have kp1q:=hSq.at kp1 (fun h=>h);exact X5 wq T q (by obtain⟨q2,e,hq2⟩:=kq.2;cases e;exact ltq q hq2.2));rintro v19 ⟨wI,TI,hI⟩;replace gK:=gK.and ((F1 q) v19);(obtain⟨sn,_,rfl,_⟩:=hI.k.2);(try clear hI TI wI);try simp only[zL]);refine Zg ?_;(refine TG.mks (by simp only[zK];rfl) rfl (by rfl) rfl rfl ?hx21 ?hz21 hmk1 (fun p27 hp27 _=> ?n21);(case hx21=>simp only[zM];try rfl);(case hz21=>simp only[zM];try rfl);try simp only[zL]);refine Zg ?_;(refine TG.mks (by simp only[zK];rfl) rfl (by rfl) rfl rfl ?hx23 ?hz23 hmk2 (fun p29 hp29 _=> ?n23);(case hx23=>simp only[zM];try rfl);(case hz23=>simp only[zM];try rfl);try simp only[zL]);obtain⟨ne_p29_p27,hp29⟩:=Bx.set_none hp29;(refine TG.build (v:= ?v24) (ps:= ?p24) (by simp only[zK];rfl) rfl (by rfl) rfl ?hx24 (fun w1=> ?y24) ?n24;(case hx24=>(simp only[aYr,aZo,aYo,zM];(try rfl)));(case y24=>(rw[(hbd q sn p27 p29)];(try with_reducible rfl)));try simp only[zL]);(refine TG.box (v:= ?v25) (by simp only[zK];rfl) rfl (by rfl) rfl rfl ?hx25 (fun p31 hp31 _=> ?n25);(case hx25=>simp only[zM];try rfl);try simp only[zL]);obtain⟨ne_p31_p29,hp31⟩:=Bx.set_none hp31;obtain⟨ne_p31_p27,hp31⟩:=Bx.set_none hp31;refine Zg ?_;refine TG.nil (fun w5 ⟨TR,hr⟩=> ?_);replace kp1:=hr.q kp1;obtain⟨gp27,nTp27,kp27⟩:=hr.b p27 (by first|exact Bx.set_same _ _ _|(simp only[Bx.set_ne _ (Ne.symm ne_p29_p27),Bx.set_ne _ (Ne.symm ne_p31_p27),Bx.set_ne _ (Ne.symm ne_p31_p29),Bx.set_ne _ ne_p29_p27,Bx.set_ne _ ne_p31_p27,Bx.set_ne _ ne_p31_p29,Bx.set_same];rfl));obtain⟨gp29,nTp29,kp29⟩:=hr.b p29 (by first|exact Bx.set_same _ _ _|(simp only[Bx.set_ne _ (Ne.symm ne_p29_p27),Bx.set_ne _ (Ne.symm ne_p31_p27),Bx.set_ne _ (Ne.symm ne_p31_p29),Bx.set_ne _ ne_p29_p27,Bx.set_ne _ ne_p31_p27,Bx.set_ne _ ne_p31_p29,Bx.set_same];rfl));obtain⟨gp31,nTp31,kp31⟩:=hr.b p31 (by first|exact Bx.set_same _ _ _|(simp only[Bx.set_ne _ (Ne.symm ne_p29_p27),Bx.set_ne _ (Ne.symm ne_p31_p27),Bx.set_ne _ (Ne.symm ne_p31_p29),Bx.set_ne _ ne_p29_p27,Bx.set_ne _ ne_p31_p27,Bx.set_ne _ ne_p31_p29,Bx.set_same];rfl));clear gK
 rename Nat→Prop=>TR5
 have HK:=Hi hr.k;have HT5:=Hi (Ai hr.old hr.lt);have M5:=Hi hr.mod;have HB5:=Hi (Ai (Ai gp27 nTp27) (Ai (Ai gp29 nTp29) (Ai gp31 nTp31)));clear hr gp27 nTp27 gp29 nTp29 nTp31 hmk1 hmk2 hbd;have h50:Hid (0<w5.heap.size):=Hi (by have:=aA kp31;omega);have LT5:=Hi (Ai (aA kp31) (aA kp1));have hbuf:=XT w5 (fun _=>False) hr1 hr4 h50.out;go_upto_region 7 with fail;refine region_seq 10 rfl ?_;simp only[List.range,List.range.loop]
 iterate 2 refine Zq ?_
 refine Zr ?_;(refine iG (by simp only[zK];rfl) (by rfl) ?y30 (hbuf) (fun vn w6 hR=> ?n30);(case y30=>(go_simp;(try(first|with_reducible rfl|(constructor<;>with_reducible rfl))))))
 (obtain⟨hm,b,rfl,hk⟩:=hR;have kp31:=hm.at0 kp31;have HK6:=Hi (Ai hm hk);clear hm hk)
 (try simp only[zL])
 iterate 5 refine Zq ?_
 refine ZT ?_;refine ZQ kp31 fun wn kp31 mS=> ?_;refine jT ?_;obtain⟨w7,hw7⟩:∃w7,wn=w7:=⟨_,rfl⟩;rw[hw7]at kp31 mS⊢;have MS6:=Hi mS;have htab:=X6 w7 (fun _=>False) hn1 hn64;clear hw7 mS hbuf kp1;go_upto_region 8 with fail;refine region_seq 9 rfl ?_;simp only[List.range,List.range.loop]
 iterate 2 refine Zq ?_
 (refine iG (by simp only[zK];rfl) (by rfl) ?y39 (htab) (fun vn w8 hR=> ?n39);(case y39=>(go_simp;(try(first|with_reducible rfl|(constructor<;>with_reducible rfl))))))
 (obtain⟨hm,tb,rfl,hk⟩:=hR;have kp31:=hm.at0 kp31;have HK8:=Hi (Ai hm hk);clear hm hk)
 (try simp only[zL])
 iterate 5 refine Zq ?_
 refine ZT ?_;refine ZQ kp31 fun wn kp31 mS=> ?_;refine jT ?_;obtain⟨w9,hw9⟩:∃w9,wn=w9:=⟨_,rfl⟩;rw[hw9]at kp31 mS⊢;have MS8:=Hi mS;have hlan:=X0 w9 (fun _=>False) hn1 hn64;clear hw9 mS htab;go_upto_region 9 with fail;refine region_seq 9 rfl ?_;simp only[List.range,List.range.loop]
 iterate 2 refine Zq ?_
 (refine iG (by simp only[zK];rfl) (by rfl) ?y48 (hlan) (fun vn w10 hR=> ?n48);(case y48=>(go_simp;(try(first|with_reducible rfl|(constructor<;>with_reducible rfl))))))
 (obtain⟨hm,ln,rfl,hk⟩:=hR;have kp31:=hm.at0 kp31;have HK10:=Hi (Ai hm hk);clear hm hk)
 (try simp only[zL])
 iterate 5 refine Zq ?_
 refine ZT ?_;refine ZQ kp31 fun wn kp31 mS=> ?_;refine jT ?_;obtain⟨w11,hw11⟩:∃w11,wn=w11:=⟨_,rfl⟩;rw[hw11]at kp31 mS⊢;have MS10:=Hi mS;clear hw11 mS hlan;go_wp2_with fail;refine bodyPost_ret (results_tmp2 rfl _ _ _) rfl ⟨p31,rfl,?_,?_⟩
 ·obtain⟨hfl,hold3,hlt3,m03⟩:=H3.out;obtain⟨⟨_,q',eq,hq⟩,n2,b0,en,hqb,hsn⟩:=HK.out;cases eq;cases en;obtain⟨hold5,hlt5⟩:=HT5.out;obtain⟨⟨g27,n27⟩,⟨g29,n29⟩,g31,n31⟩:=HB5.out;obtain⟨m56,hb⟩:=HK6.out;obtain⟨m78,ht⟩:=HK8.out;obtain⟨m910,hl⟩:=HK10.out;have z3:=m03.size;have z4:=HM4.out.size;have z5:=M5.out.size;have z6:=m56.size;have z7:=MS6.out.size;have z8:=m78.size;have z9:=MS8.out.size;have z10:=m910.size;have z11:=MS10.out.size;have z2:=M2.out.size;have hp1:=HP1.out;have h31:=LT5.out;have m6b:Mod (fun i=>i=p31) w5 w7:=(m56.mono (fun _ _ h=>h.elim)).trans MS6.out;have m7b:Mod (fun i=>i=p31) w7 w9:=(m78.mono (fun _ _ h=>h.elim)).trans MS8.out;have m9b:Mod (fun i=>i=p31) w9 w11:=(m910.mono (fun _ _ h=>h.elim)).trans MS10.out;have m79:=m7b.trans m9b;have m511:=m6b.trans m79;obtain⟨g3,sx,e3,hce⟩:=KC hfl hn1;subst e3;have hp13:∀a,TR3 a→a≠p1:=fun a ha e=>hold3 a (by rw[e];exact LP1.out) ha;have hce11:=(CeL.good g3 _ _).cl _ _ _ ((CeL.good g3 _ _).cl _ _ _ ((CeL.good g3 _ _).cl _ _ _ hce (HM4.out.mono (fun i _ hi hTi=>hp13 i hTi hi))) (M5.out.mono (fun _ _ h=>h.elim))) (m511.mono (fun i _ hi hTi=>by have:=hlt3 i hTi;omega));have hq11:sO q [] (fun a=>a=q) w11:=⟨hq.1.mod m511 (fun e=>n31 (e▸hq.2)),rfl⟩;have hq4:w4.heap.size≤q:=Nat.le_of_not_lt (fun h=>hold5 q h hq.2);have hqlt:=hlt5 q hq.2;have hsn11:=(JH.good sn []).cl _ _ _ hsn (m511.mono (fun i _ hi hTi=>n31 (hi▸hTi.1)));have hb11:=(BT.good b (List.replicate room none)).cl _ _ _ hb ((MS6.out.trans m79).mono (fun i _ hi hTi=>by rcases hTi with h|h;exact h;omega));have ht11:=(fG.good tb n []).cl _ _ _ ht ((MS8.out.trans m9b).mono (fun i _ hi hTi=>by rcases hTi with h|h;exact h;omega));have hl11:=(mN.good ln n (List.replicate n [])).cl _ _ _ hl (MS10.out.mono (fun i _ hi hTi=>by rcases hTi with h|h;exact h;omega));have k27:CeL p27 (List.replicate n (Value.int .i64 0)).toArray 3 (fun a=>a=p27) w11:=⟨rfl,m511.at kp27 (fun e=>ne_p31_p27 e.symm)⟩;have k29:CeL p29 (List.replicate n (Value.int .u64 0)).toArray 23 (fun a=>a=p29) w11:=⟨rfl,m511.at kp29 (fun e=>ne_p31_p29 e.symm)⟩;have l27:=aA kp27;have l29:=aA kp29;have c27:(List.replicate n (Value.int .i64 0)).toArray=((List.replicate n 0).map natV).toArray:=by rw[List.map_replicate];rfl
  have c29:(List.replicate n (Value.int .u64 0)).toArray=((List.replicate n (0:UInt64)).map u64v).toArray:=by rw[List.map_replicate];rfl
  rw[c27]at k27;rw[c29]at k29;have hlow:∀a,TR3 a→w.heap.size≤a∧a<w3.heap.size:=fun a ha=>⟨by
   have:=Nat.le_of_not_lt (fun h=>hold3 a h ha);omega,hlt3 a ha⟩
  have S1:=(bQ.nil w11).add hce11 (fun _ _ h=>h);have S2:=S1.add hq11 (fun a ha h=>by
   rcases h with h|h
   ·exact h
   ·have:=hlow a h;have ha:a=q:=ha;omega)
  have S3:=S2.add hsn11 (fun a ha h=>by
   rcases h with(h|h)|h
   ·exact h
   ·have:=hlow a h;have:=Nat.le_of_not_lt (fun h=>hold5 a h ha.1);omega
   ·have h:a=q:=h;have:=ha.2;omega)
  have S4:=S3.add k27 (fun a ha h=>by
   have ha:a=p27:=ha;subst ha;rcases h with((h|h)|h)|h
   ·exact h
   ·have:=hlow a h;omega
   ·exact n27 (by rw[show a=q from h];exact hq.2)
   ·exact n27 h.1)
  have S5:=S4.add k29 (fun a ha h=>by
   have ha:a=p29:=ha;subst ha;rcases h with(((h|h)|h)|h)|h
   ·exact h
   ·have:=hlow a h;omega
   ·exact n29 (by rw[show a=q from h];exact hq.2)
   ·exact n29 h.1
   ·exact ne_p29_p27 h)
  have S6:=S5.add (K:=CeL p31 (iR ⟨.slice (some ⟨g3,0,none⟩) n fc,room,win,bat,fli,u64v l1,u64v l2,u64v l3,u64v fw,.int .i64 hold,.slice oa2 on oc2,b,tb,ln,q,sn,.slice (some ⟨p27,0,none⟩) n n,.slice (some ⟨p29,0,none⟩) n n⟩) 69) (T':=fun a=>a=p31) ⟨rfl,kp31⟩ (fun a ha h=>by
   have ha:a=p31:=ha;subst ha;rcases h with((((h|h)|h)|h)|h)|h
   ·exact h
   ·have:=hlow a h;omega
   ·exact n31 (by rw[show a=q from h];exact hq.2)
   ·exact n31 h.1
   ·exact ne_p31_p27 h
   ·exact ne_p31_p29 h)
  have B6:∀a,(((((((False∨TR3 a)∨a=q)∨(TR5 a∧b0≤a))∨a=p27)∨a=p29)∨a=p31))→w.heap.size≤a∧a<w5.heap.size:=fun a h=>by
   rcases h with(((((h|h)|h)|h)|h)|h)|h
   ·exact h.elim
   ·have:=hlow a h;omega
   ·omega
   ·have h1:=Nat.le_of_not_lt (fun h2=>hold5 a h2 h.1);have h2:=hlt5 a h.1;omega
   ·omega
   ·omega
   ·omega
  have S7:=S6.add hb11 (fun a ha h=>by
   have:=B6 a h;rcases ha with ha|ha
   ·exact ha
   ·omega)
  have S8:=S7.add ht11 (fun a ha h=>by
   rcases ha with ha|ha
   ·exact ha
   ·rcases h with h|h|h
    ·have:=B6 a h;omega
    ·exact h
    ·omega)
  have S9:=S8.add hl11 (fun a ha h=>by
   rcases ha with ha|ha
   ·exact ha
   ·rcases h with(h|h|h)|h|h
    ·have:=B6 a h;omega
    ·exact h
    ·omega
    ·exact h
    ·omega)
  refine⟨_,⟨⟨⟨.slice (some ⟨g3,0,none⟩) n fc,room,win,bat,fli,u64v l1,u64v l2,u64v l3,u64v fw,.int .i64 hold,.slice oa2 on oc2,b,tb,ln,q,sn,.slice (some ⟨p27,0,none⟩) n n,.slice (some ⟨p29,0,none⟩) n n⟩,g3,p27,p29,fc,sx⟩,⟨⟨rfl,rfl,rfl,hn1,hn64,rfl,rfl,rfl,aZ9,aZ9,HA.out.2.1,aZ9⟩,hold,oa2,on,oc2,rfl,rfl,HA.out.2.2.2.2.1⟩,S9.pick (fun i=>[3,2,7,6,1,0,5,4,8].getD i 0) (fun i j hi hj e=> ?_) (fun i K hK=> ?_)⟩,fun a h=> ?_⟩
  ·have key:∀i,i<9→∀j,j<9→[3,2,7,6,1,0,5,4,8].getD i 0=[3,2,7,6,1,0,5,4,8].getD j 0→i=j:=by decide
   exact key i hi j hj e
  ·match i,hK with
   |0,hK=>exact hK
   |1,hK=>exact hK
   |2,hK=>exact hK
   |3,hK=>exact hK
   |4,hK=>exact hK
   |5,hK=>exact hK
   |6,hK=>exact hK
   |7,hK=>exact hK
   |8,hK=>exact hK
   |n+9,hK=>cases hK
  ·rcases h with((h|h|h)|h|h)|h|h
   ·have:=B6 a h;omega
   ·exact h.elim
   ·omega
   ·exact h.elim
   ·omega
   ·exact h.elim
   ·omega
 ·have hp1:=HP1.out;have g31:=HB5.out.2.2.1;have z3:=H3.out.2.2.2.size;have z4:=HM4.out.size;have m4:=H3.out.2.2.2.then HM4.out (fun i hi e=>by omega);have m5:=m4.then0 M5.out;have m6:=(m5.then0 HK6.out.1).then MS6.out (fun i hi e=>by omega);have m8:=(m6.then0 HK8.out.1).then MS8.out (fun i hi e=>by omega);exact(m8.then0 HK10.out.1).then MS10.out (fun i hi e=>by omega)
theorem bQ.one {K:aL} {T:Nat→Prop} {w:World} (h:K T w):bQ [K] T w:=by
 refine⟨fun i a=>i=0∧T a,fun i K' hK=> ?_,fun i a ha=>ha.2,fun i j a hij hi hj=>hij (hi.1.trans hj.1.symm)⟩;cases i with
 |zero=>
  cases hK;show K (fun a=>0=0∧T a) w
  have:(fun a=>0=0∧T a)=T:=by funext a;simp
  rw[this];exact h
 |succ i=>simp at hK
theorem bQ.app {Ks Ls:List aL} {T T':Nat→Prop} {w:World} (h:bQ Ks T w) (h':bQ Ls T' w) (hd:∀a,T' a→¬T a):bQ (Ks++Ls) (fun a=>T a∨T' a) w:=by
 obtain⟨Ts,h1,h2,h3⟩:=h;obtain⟨Us,g1,g2,g3⟩:=h';refine⟨fun i a=>if i<Ks.length then Ts i a else Us (i-Ks.length) a,fun i L hL=> ?_,fun i a ha=> ?_,fun i j a hij hi hj=> ?_⟩
 ·rw[List.getElem?_append]at hL;split at hL
  ·rename_i e
   have:(fun a=>if i<Ks.length then Ts i a else Us (i-Ks.length) a)=Ts i:=by funext a;rw[if_pos e]
   show L (fun a=>if i<Ks.length then Ts i a else Us (i-Ks.length) a) w;rw[this];exact h1 i L hL
  ·rename_i e
   have:(fun a=>if i<Ks.length then Ts i a else Us (i-Ks.length) a)=Us (i-Ks.length):=by funext a;rw[if_neg e]
   show L (fun a=>if i<Ks.length then Ts i a else Us (i-Ks.length) a) w;rw[this];exact g1 _ L hL
 ·dsimp only at ha;split at ha
  ·exact .inl (h2 _ a ha)
  ·exact .inr (g2 _ a ha)
 ·dsimp only at hi hj;split at hi<;>split at hj
  ·exact h3 i j a hij hi hj
  ·exact hd a (g2 _ a hj) (h2 _ a hi)
  ·exact hd a (g2 _ a hi) (h2 _ a hj)
  ·exact g3 _ _ a (fun e=>hij (by omega)) hi hj
def S0 (X:Pk) (p ob:Nat) (V:List Value) (G:List Gv) (E:Ev) (s:Pa):List aL:=
 [CeL p (pac X) 121,GL X.g s.q s.K,iM X.ab (addB [] s.al),MI X.hb s.hi,CeL ob (V.take E.n).toArray 53,BatL E.n V (s.op++s.gi.map Prod.snd),RowL drc 2 97 X.dv s.dr,RowL gvc 2 86 X.gv G,RowL ic 1 3 X.av s.sd]
def toPa:Nat→Nat:=fun i=>[9,0,1,10,15,2,3,4,5,11,6,7,8,12,13,14,16,17].getD i 0
def toDk:Nat→Nat:=fun i=>[1,2,5,6,7,8,10,11,12].getD i 0
def WT (X:Dm) (Y:Pk) (p ob:Nat) (V:List Value) (G:List Gv):Md:=⟨X.D,Y,p,X.sb,X.fb,X.cb,ob,V,G,X.sc,X.sx⟩
def R6 (M:Md):Dm:=⟨M.D,M.sb,M.fb,M.cb,M.sc,M.sx⟩
theorem bQ.toPa {X:Dm} {Y:Pk} {p ob:Nat} {V:List Value} {G:List Gv} {E:Ev} {s:Pa} {T:Nat→Prop} {w:World} (h:bQ (dparts X Y.d E s++S0 Y p ob V G E s) T w):bQ (parts (WT X Y p ob V G) E s) T w:=by
 refine h.pick Go.Proofs.YtblbegbjlaokjaaGreatDoor.toPa (fun i j hi hj e=> ?_) (fun i K hK=> ?_)
 ·have key:∀i,i<18→∀j,j<18→Go.Proofs.YtblbegbjlaokjaaGreatDoor.toPa i=Go.Proofs.YtblbegbjlaokjaaGreatDoor.toPa j→i=j:=by decide
  exact key i hi j hj e
 ·match i,hK with
  |0,hK=>exact hK
  |1,hK=>exact hK
  |2,hK=>exact hK
  |3,hK=>exact hK
  |4,hK=>exact hK
  |5,hK=>exact hK
  |6,hK=>exact hK
  |7,hK=>exact hK
  |8,hK=>exact hK
  |9,hK=>exact hK
  |10,hK=>exact hK
  |11,hK=>exact hK
  |12,hK=>exact hK
  |13,hK=>exact hK
  |14,hK=>exact hK
  |15,hK=>exact hK
  |16,hK=>exact hK
  |17,hK=>exact hK
  |n+18,hK=>cases hK
theorem bQ.toDk {M:Md} {E:Ev} {s:Pa} {T:Nat→Prop} {w:World} (h:bQ (parts M E s) T w):bQ (dparts (R6 M) M.X.d E s) T w:=by
 refine h.pick Go.Proofs.YtblbegbjlaokjaaGreatDoor.toDk (fun i j hi hj e=> ?_) (fun i K hK=> ?_)
 ·have key:∀i,i<9→∀j,j<9→Go.Proofs.YtblbegbjlaokjaaGreatDoor.toDk i=Go.Proofs.YtblbegbjlaokjaaGreatDoor.toDk j→i=j:=by decide
  exact key i hi j hj e
 ·match i,hK with
  |0,hK=>exact hK
  |1,hK=>exact hK
  |2,hK=>exact hK
  |3,hK=>exact hK
  |4,hK=>exact hK
  |5,hK=>exact hK
  |6,hK=>exact hK
  |7,hK=>exact hK
  |8,hK=>exact hK
  |n+9,hK=>cases hK
structure vE (E:Ev) (s:Pa):Prop where
 ok:eA E s
 n1:1≤E.n
 win:1≤E.win
 fli:1≤E.fli
 K:s.K=[]
 L:s.L=[]
 al:s.al=[]
 hi:s.hi=[]
 gi:s.gi=[]
 op:s.op=List.replicate E.n []
 la:s.la=List.replicate E.n []
 fl:s.fl=List.replicate E.n 0
 dr:s.dr=[]
 sd:s.sd=[]
theorem vE.lw {E:Ev} {s:Pa} (h:vE E s):mO E s s:=mO.start h.ok h.K h.L h.gi h.op h.la h.fl h.dr h.sd
theorem c8.law {E:Ev} {s0 t:Pa} (h:c8 E s0 t) (hs:vE E s0):mO E s0 t∧eA E t∧t.K=[]∧t.D=[]:=by
 obtain⟨⟨h1,h2⟩,h3,h4⟩:=c8.ind (I:=fun s=>eA E s∧mO E s0 s) hs.win (fun s h=>h.1) (fun s y D i x hI hD hy hi hx hp hl hf=>⟨hI.1.put hD hy hi hx hp,hI.2.put hI.1 hD hy hi hx hp hf _⟩) (fun s y D i x hI hD hy hi hx hp hf=>⟨hI.1.drop hD hy hx hp _,hI.2.drop hI.1 hD hy hi hx hp hf⟩) (fun s i hI hr=>⟨hI.1.step hr.mem,hI.2.step hI.1 hr⟩) h ⟨hs.ok,hs.lw⟩;exact⟨h2,h1,h3,h4⟩
section
def RM (t:Pa) (v:Value) (w:World):Prop:=∃(ga da aa:Option Addr) (G:List Gv),v= .agg #[.slice ga t.gi.length t.gi.length,.slice da t.dr.length t.dr.length,.slice aa t.sd.length t.sd.length]∧aS gvc 2 w ga G∧G.map Gv.w=t.gi.map Prod.fst∧
 (∀(i:Nat) (x:Gv) (b:Nat×List Int64),G[i]? =some x→t.gi[i]? =some b→x.n=b.2.length∧aS ic 1 w x.a b.2)∧aS drc 2 w da t.dr∧aS ic 1 w aa t.sd
theorem r9 (w:World) (b o:Nat):(Instr.loadAt 55 (.pointer (some ⟨b,o,none⟩))).run Tryz.prog w=
   match w.heap[b]? with
   |some (.cells cs _ _)=>if o+3≤cs.size then .ok (.agg (cs.extract o (o+3))) w else dU Tryz.prog w 55 b o
   |_=>dU Tryz.prog w 55 b o:=bL (d:=_) Tryz.underlying55 rfl (by kernel_rfl) w b o
theorem BM (w:World) (b o:Nat) (xs:Array Value):(Instr.storeAt 55 (.pointer (some ⟨b,o,none⟩)) (.agg xs)).run Tryz.prog w=
   match w.heap[b]? with
   |some (.cells cs U (0,0))=>
    if o+3≤cs.size∧xs.size=3∧xs.all (·.oneCell')=true then .ok () (setBlock w b (.cells (if o=0∧3=cs.size then xs else wr cs o xs.toList) U (0,0)))else eG Tryz.prog w 55 b o (.agg xs)
   |_=>eG Tryz.prog w 55 b o (.agg xs):=bK (by kernel_rfl) w b o xs
theorem vI (w:World):(Instr.alloc 55 true (.tuple #[])).run Tryz.prog w= .ok (.pointer (some ⟨w.heap.size,0,none⟩)) (w.alloc (.cells #[.slice none 0 0,.slice none 0 0,.slice none 0 0] 55)):=
 aX (z:= .agg #[.slice none 0 0,.slice none 0 0,.slice none 0 0]) (fun w=>by kernel_rfl) w
attribute [local go_sem↓] r9 BM
theorem N7 (a b c:Option Addr) (n m k:Nat) (w:World):(Instr.build 55 #[(0,.slice a n n),(1,.slice b m m),(2,.slice c k k)]).run Tryz.prog w= .ok (.agg #[.slice a n n,.slice b m m,.slice c k k]) w:=by kernel_rfl
theorem R3 (d g ab hb ob n:Nat) (w:World):(Instr.build 121 #[(0,ptrV d),(1,ptrV g),(2,ptrV ab),(3,.map (some hb)),(4,.slice (some ⟨ob,0,none⟩) n n)]).run Tryz.prog w= .ok (.agg #[ptrV d,ptrV g,ptrV ab,.map (some hb),.slice (some ⟨ob,0,none⟩) n n,.slice none 0 0,.slice none 0 0,.slice none 0 0]) w:=by kernel_rfl
def VJ (v:Value):aL:=fun T w=>∃g,v=ptrV g∧GL g 0 [] T w
theorem FV (v:Value):aI (VJ v):=aI.ex fun g=>(aI.pure _).and (GL.good _ _ _)
theorem XY (w:World) (T:Nat→Prop):Calls Tryz.prog 30 #[] w fun e w'=>∃v,e= .returned v∧Mod (fun _=>False) w w'∧VJ v (Grow T w w') w':=
 (PM w).mono fun e w' h=>by
  obtain⟨g,h1,T2,h2,h3,h4⟩:=h;exact⟨_,h1,h3,g,rfl,(GL.good _ _ _).gr _ _ _ (fun a ha=> .inr ⟨h4 a ha,h2.2 a ha⟩) h2.1⟩
def VI (g:Nat) (v:Value):aL:=fun T w=>∃p,v=ptrV p∧bQ [GL g 0 [],iM p []] T w
theorem FU (g:Nat) (v:Value):aI (VI g v):=aI.ex fun p=>(aI.pure _).and (bQ.good (by
 intro K hK;simp only[aZc,aZe,or_false]at hK;rcases hK with rfl|rfl
 ·exact GL.good _ _ _
 ·exact iM.good _ _))
theorem XX {w:World} {T:Nat→Prop} {g:Nat} (h:GL g 0 [] T w) (hT:∀a,T a→a<w.heap.size):Calls Tryz.prog 31 #[] w fun e w'=>∃v,e= .returned v∧Mod T w w'∧VI g v (Grow T w w') w':=
 (wM w).mono fun e w' h2=>by
  obtain⟨p,b,h1,h2,h3,h4,h5⟩:=h2;obtain⟨k1,k2⟩:(∃o,w'.heap[p]? =some o)∧∃o,w'.heap[b]? =some o:=by
   obtain⟨k1,es,c,k2,_⟩:=id h4;exact⟨⟨_,k1⟩,_,k2⟩
  obtain⟨o1,k1⟩:=k1;obtain⟨o2,k2⟩:=k2;have hA:=bQ.one ((GL.good g 0 []).cl _ _ _ h (h5.mono (fun _ _ h=>h.elim)));have hB:bQ [iM p []] (fun a=>a=p∨a=b) w':=bQ.one ⟨b,h4,.inl rfl,.inr rfl⟩;refine⟨_,h1,h5.mono (fun _ _ h=>h.elim),p,rfl,(bQ.good (fun K hK=> ?_)).gr _ _ _ (fun a ha=> ?_) (hA.app hB (fun a ha hTa=> ?_))⟩
  ·simp only[aZc,aZe,or_false]at hK;rcases hK with rfl|rfl
   ·exact GL.good _ _ _
   ·exact iM.good _ _
  ·rcases ha with ha|rfl|rfl
   ·exact .inl ha
   ·exact .inr ⟨h2,aA k1⟩
   ·exact .inr ⟨h3,aA k2⟩
  ·have:=hT a hTa;rcases ha with rfl|rfl<;>omega
theorem CG (v2:Value) (w:World) (n:Nat) {a:Option Addr} {c:Nat} (h:∀w2,(Instr.sliceAt 51 (.slice a n c) none (some (.int .i64 (n:Int))) (some (.int .i64 (n:Int)))).run Tryz.prog w2= .ok v2 w2):
  Calls Tryz.prog 35 #[.slice a n c] w fun e w'=>e= .returned v2∧w'=w:=by
 go_enter Tryz.func35,Tryz.ntmps35;go_wp2_with fail;go_ret;exact⟨rfl,rfl⟩
theorem CH (v2:Value) (w:World) (n:Nat) {a:Option Addr} {c:Nat} (h:∀w2,(Instr.sliceAt 52 (.slice a n c) none (some (.int .i64 (n:Int))) (some (.int .i64 (n:Int)))).run Tryz.prog w2= .ok v2 w2):
  Calls Tryz.prog 36 #[.slice a n c] w fun e w'=>e= .returned v2∧w'=w:=by
 go_enter Tryz.func36,Tryz.ntmps36;go_wp2_with fail;go_ret;exact⟨rfl,rfl⟩
theorem AG (s:Pa) {j:Nat}:∀k,k≤j→(endP k s).op[j]? =s.op[j]? ∧(endP k s).la[j]? =s.la[j]? ∧(endP k s).gi.length≤s.gi.length+k
 |0,_=>⟨rfl,rfl,aZq _⟩
 |k+1,hk=>by
  obtain⟨h1,h2,h3⟩:=AG s (j:=j) k (by omega);rw[j3];refine⟨?_,?_,?_⟩
  ·rw[wT,aZ0 (by omega)];exact h1
  ·unfold pushP;split
   ·exact h2
   ·show((endP k s).la.set k _)[j]? =_;rw[aZ0 (by omega)];exact h2
  ·unfold pushP;split
   ·omega
   ·show((endP k s).gi++[_]).length≤_;rw[aZg,aZx];omega
theorem N5 {S:List (Option It)} {k:Int64} {x:It} (h:itS S k=some x):vQ S k=S.set (ix k) (some {x with pl:=0}):=by
 unfold vQ;rw[h]
theorem EQ {l:List Int64} {k:Int64}:∀ {S:List (Option It)},k∉l→(∀m∈l,m=idn (ix m))→k=idn (ix k)→itS (l.foldl vQ S) k=itS S k:=by
 induction l with
 |nil=>intro S _ _ _;rfl
 |cons m l ih=>
  intro S hk hm hi;rw[aZc]at hk;rw[List.foldl_cons,ih (fun h=>hk (.inr h)) (fun x hx=>hm x (aZp _ hx)) hi];unfold vQ;cases h:itS S m with
  |none=>rfl
  |some x=>
   dsimp only;refine dA (fun e=>hk (.inl ?_));rw[hi,e,←hm m List.mem_cons_self]
theorem PY {d:Nat} {E:Ev} {s:Pa} {T:Nat→Prop} {w:World} (h:BY d E s T w) (hT:∀a,T a→a<w.heap.size) (h0:¬T 0) (htw:dS w) (hst:vE E s) (hq:s.q=0):
  Calls Tryz.prog 10 #[ptrV d] w fun e w'=>∃t v,c8 E s t∧e= .returned (.tuple #[v,.int .i64 0])∧RM (endP E.n t) v w'∧Goes (RH d E {endP E.n t with S:=J7 (endP E.n t)}) T w w':=by
 obtain⟨X,hX,hS⟩:=h;obtain⟨Td,⟨td,kd⟩,sd⟩:=hS.get (i:=0) rfl;obtain⟨hold,oa,on,oc,hh,ho,hcf⟩:=hX.cf;have hw:=eO (d:=d) (w:=w) (sa:=some ⟨X.sb,0,none⟩) (sn:=E.n) (sc:=X.sc) (room:=(X.D.room:Int)) (win:=(X.D.win:Int)) (bat:=(X.D.bat:Int)) (fli:=(X.D.fli:Int)) (l1:=X.D.l1) (l2:=X.D.l2) (l3:=X.D.l3) (fw:=X.D.fw) (hold:=hold) (oa:=oa) (on:=on) (oc:=oc) (b:=some X.D.b) (t:=some X.D.t) (ln:=some X.D.ln) (q:=some X.D.q) (sn2:=some X.D.sn) (fa:=some ⟨X.fb,0,none⟩) (fn:=E.n) (fc:=E.n) (ca:=some ⟨X.cb,0,none⟩) (cn:=E.n) (cc:=E.n);have hwh:∀wq,Mod (fun _=>False) w wq→Calls Tryz.prog 29 #[ptrV d] wq fun e w'=>e= .returned (.int .i64 0)∧Mod (fun _=>False) wq w':=fun wq hm=>by
  have hw:=eO (d:=d) (w:=wq) (sa:=some ⟨X.sb,0,none⟩) (sn:=E.n) (sc:=X.sc) (room:=(X.D.room:Int)) (win:=(X.D.win:Int)) (bat:=(X.D.bat:Int)) (fli:=(X.D.fli:Int)) (l1:=X.D.l1) (l2:=X.D.l2) (l3:=X.D.l3) (fw:=X.D.fw) (hold:=hold) (oa:=oa) (on:=on) (oc:=oc) (b:=some X.D.b) (t:=some X.D.t) (ln:=some X.D.ln) (q:=some X.D.q) (sn2:=some X.D.sn) (fa:=some ⟨X.fb,0,none⟩) (fn:=E.n) (fc:=E.n) (ca:=some ⟨X.cb,0,none⟩) (cn:=E.n) (cc:=E.n) (by
   have:=hm.at0 kd;unfold iR at this;rw[hX.sv,hX.fv,hX.cv,hh,ho]at this;exact this)
  rw[hX.win,hX.bat,hX.fli,hcf]at hw;simpa[whB] using hw
 clear hw;unfold iR at kd;rw[hX.fv]at kd;have HW:=Hi hwh;have hn:=Ai hX.n1 hX.n2;obtain⟨hn1,hn2⟩:=hn;have HX:=Hi (Ai hX (Ai hS (Ai hT (Ai h0 (Ai htw (Ai hst (Ai hq (sd d td))))))));clear hX hS hT h0 htw hst hq td sd hh ho hcf hwh;have hmk:=SV E.n (by omega);go_enter Tryz.func10,Tryz.ntmps10;go_upto_region 0 with fail;have Lkd:=aA kd;refine ZP0 [3,0] ?_;refine Za vI fun p2 hp2=> ?_;refine Zv ?_;refine TD.nil (fun w1 hr=> ?_);replace kd:=hr.q kd;obtain⟨gp2,kp2⟩:=hr.b p2;have m1:=Hi hr.mod;have HP2:Hid (w.heap.size≤p2):=Hi gp2;clear hr gp2;have HW:=Hi (HW.out w1 m1.out);go_wp2_with fail;refine wp_scope_straight ?_;go_wp2_with fail;go_at_call 29;refine HW.out.mono ?_;rintro e w2 ⟨rfl,m2⟩;have kp2:=m2.at0 kp2;have kd:=m2.at0 kd;have M2:=Hi (m1.out.then0 m2);have P2L:=Hi (aA kp2);clear m2 HW m1;go_upto_region 4 with fail;have Lkp2:=aA kp2;have Lkd:=aA kd;refine cJ (T0:=fun _=>False) (K:=fun _ _=>True) (κ:=fun i=>[0,6,6,3,0,0,0,0,0,3,0,3,0].getD i 0) (υ:=fun _=>[]) [0,1,2,3,4,5,6,7,8,9,10,11,12] (by kernel_rfl) (by kernel_rfl) (aI.true).cl (trivial) (fun _ h=>h.elim) ?_;have gK:=aI.true;refine Zg ?_;(refine ZJ (VJ) (FV) gK ?_ (s:=fun T wq kq ltq hSq ub=>by have kp2q:=hSq.at kp2 (fun h=>h);have kdq:=hSq.at kd (fun h=>h);exact XY wq T);rintro v4 ⟨wI,TI,hI⟩;replace gK:=gK.and ((FV) v4);(obtain⟨g,rfl,_⟩:=hI.k.2);(try clear hI TI wI);try simp only[zL]);(refine TG.callK (f:= ?f5) (args:= ?r5) (VI g) (FU g) (by simp only[zK];rfl) rfl (by rfl) (fun w1=> ?y5) (fun T wq kq ltq hSq ub=> ?hsp5) ?n5;(case y5=>(go_simp;(first|with_reducible rfl|(constructor<;>with_reducible rfl))));(case hsp5=>(have kp2q:=hSq.at kp2 (fun h=>h);have kdq:=hSq.at kd (fun h=>h);exact XX (by obtain⟨g2,e,hg⟩:=kq.2;cases e;exact hg) ltq));rintro v5 ⟨wI,TI,hI⟩;replace gK:=(FU g) v5;(obtain⟨ab,rfl,_⟩:=hI.k);(try clear hI TI wI);try simp only[zL]);(refine TG.mkm (by simp only[zK];rfl) rfl (by rfl) rfl rfl (fun p18 hp18 _=> ?n6);try simp only[zL])
 iterate 5 first|refine Zg ?_|refine Zh ?_
 (refine TG.mks (by simp only[zK];rfl) rfl (by rfl) rfl rfl ?hx12 ?hz12 hmk (fun p24 hp24 _=> ?n12);(case hx12=>simp only[zM];try rfl);(case hz12=>simp only[zM];try rfl);try simp only[zL]);obtain⟨ne_p24_p18,hp24⟩:=Bx.set_none hp24;(refine TG.build (v:= ?v13) (ps:= ?p13) (by simp only[zK];rfl) rfl (by rfl) rfl ?hx13 (fun w1=> ?y13) ?n13;(case hx13=>(simp only[aYr,aZo,aYo,zM];(try rfl)));(case y13=>(rw[(R3 d g ab p18 p24 E.n)];(try with_reducible rfl)));try simp only[zL]);(refine TG.box (v:= ?v14) (by simp only[zK];rfl) rfl (by rfl) rfl rfl ?hx14 (fun p26 hp26 _=> ?n14);(case hx14=>simp only[zM];try rfl);try simp only[zL]);obtain⟨ne_p26_p24,hp26⟩:=Bx.set_none hp26;obtain⟨ne_p26_p18,hp26⟩:=Bx.set_none hp26;refine Zg ?_;refine TG.nil (fun w3 ⟨TR,hr⟩=> ?_);replace kp2:=hr.q kp2;replace kd:=hr.q kd;have kp18:=hr.boxM p18 _ (by first|exact Bx.set_same _ _ _|(simp only[Bx.set_ne _ (Ne.symm ne_p24_p18),Bx.set_ne _ (Ne.symm ne_p26_p18),Bx.set_ne _ (Ne.symm ne_p26_p24),Bx.set_ne _ ne_p24_p18,Bx.set_ne _ ne_p26_p18,Bx.set_ne _ ne_p26_p24,Bx.set_same];rfl));obtain⟨gp18,nTp18,kp18⟩:=kp18;obtain⟨gp24,nTp24,kp24⟩:=hr.b p24 (by first|exact Bx.set_same _ _ _|(simp only[Bx.set_ne _ (Ne.symm ne_p24_p18),Bx.set_ne _ (Ne.symm ne_p26_p18),Bx.set_ne _ (Ne.symm ne_p26_p24),Bx.set_ne _ ne_p24_p18,Bx.set_ne _ ne_p26_p18,Bx.set_ne _ ne_p26_p24,Bx.set_same];rfl));obtain⟨gp26,nTp26,kp26⟩:=hr.b p26 (by first|exact Bx.set_same _ _ _|(simp only[Bx.set_ne _ (Ne.symm ne_p24_p18),Bx.set_ne _ (Ne.symm ne_p26_p18),Bx.set_ne _ (Ne.symm ne_p26_p24),Bx.set_ne _ ne_p24_p18,Bx.set_ne _ ne_p26_p18,Bx.set_ne _ ne_p26_p24,Bx.set_same];rfl));clear gK;have hpa:Hid (∃T3,oE p26 d E s T3 w3 T3 w3∧(∀a,T3 a→T a∨(w.heap.size≤a∧a<w3.heap.size))∧¬T3 p2∧Mod (fun _=>False) w w3):=Hi (by
  obtain⟨hX,hS,hT,h0,htw,hst,hq,hdT⟩:=HX.out;obtain⟨ab',e,hgb⟩:=hr.k;cases e;have m3:=M2.out.then0 hr.mod;have z2:=M2.out.size;have z3:=hr.mod.size;have hold:=hr.old;have hlt:=hr.lt;have hDS:=hS.mod0 (dparts.good X d E s) m3;have l2:=P2L.out;have l18:=aA kp18;have l24:=aA kp24;have l26:=aA kp26;have hGK:GL g s.q s.K=GL g 0 []:=by rw[hq,hst.K]
  have hBK:iM ab (addB [] s.al)=iM ab []:=by rw[hst.al];rfl
  rw[←hGK,←hBK]at hgb;have A1:=hgb.add (K:=CeL p26 (pac ⟨d,g,ab,p18,.slice (some ⟨p24,0,none⟩) E.n E.n,.slice none 0 0,.slice none 0 0,.slice none 0 0⟩) 121) (T':=fun a=>a=p26) ⟨rfl,kp26⟩ (fun a ha h=>nTp26 (ha▸h));have A2:=A1.add (K:=MI p18 s.hi) (T':=fun a=>a=p18) ⟨rfl,_,_,kp18,by rw[hst.hi];exact aR.empty tK natV⟩ (fun a ha h=>by
   have ha:a=p18:=ha;subst ha;rcases h with h|h
   ·exact nTp18 h
   ·exact ne_p26_p18 h.symm)
  have A3:=A2.add (K:=CeL p24 ((List.replicate E.n (Value.slice none 0 0)).take E.n).toArray 53) (T':=fun a=>a=p24) ⟨rfl,by rw[List.take_replicate,Nat.min_self];exact kp24⟩ (fun a ha h=>by
   have ha:a=p24:=ha;subst ha;rcases h with(h|h)|h
   ·exact nTp24 h
   ·exact ne_p26_p24 h.symm
   ·exact ne_p24_p18 h)
  have hbat:BatL E.n (List.replicate E.n (Value.slice none 0 0)) (s.op++s.gi.map Prod.snd) (fun _=>False) w3:=by
   rw[hst.op,hst.gi,aYo,aYx];refine⟨by rw[aZ9,aZ9],fun j v l hv hl=> ?_,fun i j u v hij hu hv g hg=> ?_⟩
   ·have hv:=aXy (aZi hv);have hl:=aXy (aZi hl);subst hv;subst hl;exact⟨fun _=>aE.nil _ _,fun _=> .inl ⟨rfl,rfl⟩,fun g hg=>by cases hg⟩
   ·have hu:=aXy (aZi hu);subst hu;cases hg
  have A4:=A3.add hbat (fun _ h=>h.elim);have A5:=A4.add (K:=RowL drc 2 97 (.slice none 0 0) s.dr) (T':=fun _=>False) ⟨by rw[hst.dr];exact aE.nil _ _,fun g hg=>by cases hg⟩ (fun _ h=>h.elim);have A6:=A5.add (K:=RowL gvc 2 86 (.slice none 0 0) ([]:List Gv)) (T':=fun _=>False) ⟨aE.nil _ _,fun g hg=>by cases hg⟩ (fun _ h=>h.elim);have A7:=A6.add (K:=RowL ic 1 3 (.slice none 0 0) s.sd) (T':=fun _=>False) ⟨by rw[hst.sd];exact aE.nil _ _,fun g hg=>by cases hg⟩ (fun _ h=>h.elim);have hnew:∀a,(((((((TR a∨a=p26)∨a=p18)∨a=p24)∨False)∨False)∨False)∨False)→w2.heap.size≤a∧a<w3.heap.size:=fun a h=>by
   rcases h with((((((h|h)|h)|h)|h)|h)|h)|h
   ·exact⟨Nat.le_of_not_lt (fun h2=>hold a h2 h),hlt a h⟩
   ·omega
   ·omega
   ·omega
   ·exact h.elim
   ·exact h.elim
   ·exact h.elim
   ·exact h.elim
  have A8:bQ (S0 ⟨d,g,ab,p18,.slice (some ⟨p24,0,none⟩) E.n E.n,.slice none 0 0,.slice none 0 0,.slice none 0 0⟩ p26 p24 (List.replicate E.n (Value.slice none 0 0)) [] E s) (fun a=>(((((((TR a∨a=p26)∨a=p18)∨a=p24)∨False)∨False)∨False)∨False)) w3:=by
   refine A7.pick (fun i=>[6,7,8,5,4,3,2,1,0].getD i 0) (fun i j hi hj e=> ?_) (fun i K hK=> ?_)
   ·have key:∀i,i<9→∀j,j<9→[6,7,8,5,4,3,2,1,0].getD i 0=[6,7,8,5,4,3,2,1,0].getD j 0→i=j:=by decide
    exact key i hi j hj e
   ·match i,hK with
    |0,hK=>exact hK
    |1,hK=>exact hK
    |2,hK=>exact hK
    |3,hK=>exact hK
    |4,hK=>exact hK
    |5,hK=>exact hK
    |6,hK=>exact hK
    |7,hK=>exact hK
    |8,hK=>exact hK
    |n+9,hK=>cases hK
  have A9:=bQ.toPa (Y:=⟨d,g,ab,p18,.slice (some ⟨p24,0,none⟩) E.n E.n,.slice none 0 0,.slice none 0 0,.slice none 0 0⟩) (hDS.app A8 (fun a h hTa=>by
   have:=hnew a h;have:=hT a hTa;omega))
  refine⟨_,oE.start ⟨_,rfl,rfl,⟨hX.win,hX.bat,hX.fli,hX.n1,hX.n2,hX.fv,hX.cv,hX.sv,rfl,hX.fl,hX.co,hX.sp,by rw[hst.op,aZ9],hX.la,by rw[hst.gi];rfl,by rw[hst.gi];rfl⟩,A9⟩ (fun a ha=> ?_) (fun ha=> ?_) (htw.mod0 m3),fun a ha=> ?_,fun ha=> ?_,m3⟩
  ·rcases ha with ha|ha
   ·exact aZd (hT a ha) m3.size
   ·exact(hnew a ha).2
  ·rcases ha with ha|ha
   ·exact h0 ha
   ·have:=hnew 0 ha;omega
  ·rcases ha with ha|ha
   ·exact .inl ha
   ·have:=hnew a ha;exact .inr (by omega)
  ·have:=HP2.out;rcases ha with ha|ha
   ·have:=hT p2 ha;omega
   ·have:=hnew p2 ha;omega)
 clear hr kp18 kp24 kp26 hmk;obtain⟨T3,hG3,hT3,hn3,m3⟩:=hpa.out;have hst:=HX.out.2.2.2.2.2.1;have H3:Hid (∃s' Tq,s'.D.length+s'.K.length=s.D.length+s.K.length∧eA E s'∧(∀t,c8 E s' t→c8 E s t)∧oE p26 d E s' T3 w3 Tq w3):=Hi ⟨s,T3,rfl,hst.ok,fun _ h=>h,hG3⟩;have HT3:=Hi (Ai hT3 (Ai hn3 m3));have KD:=Hi (Ai kd kp2);clear hG3 hT3 hn3 m3 hpa hst kd kp2;go_wp2_with fail;apply wp_label;go_wp2_with fail
 go_loopg [] (s.D.length+s.K.length) (fun k ws=>Hid (∃s' Tq,s'.D.length+s'.K.length=k∧eA E s'∧(∀t,c8 E s' t→c8 E s t)∧oE p26 d E s' T3 w3 Tq ws))
 case atStart=>exact H3
 case round=>
  obtain⟨s',Tq,hk,hok,hcont,hG⟩:=hrel.out;have hround:=LM hG.pa hG.lt hG.n0 hG.tw hok;obtain⟨z,hz⟩:∃z,decide (readyR (fillP E s'.D s').K≠[])=z:=⟨_,rfl⟩;rw[hz]at hround;have HR:=Hi hround;have HS:=Hi (Ai hk (Ai hok (Ai hcont (Ai hG hz))));clear hk hok hcont hG hround hz hrel;go_wp2_with fail;go_at_call 32;refine HR.out.mono ?_;rintro e w4 ⟨rfl,hgo⟩;cases z with
  |true=>
   have HN:Hid (∃k',k'<s'.D.length+s'.K.length∧∃s2 Tq,s2.D.length+s2.K.length=k'∧eA E s2∧(∀t,c8 E s2 t→c8 E s t)∧oE p26 d E s2 T3 w3 Tq w4):=Hi (by
    obtain⟨hk,hok,hcont,hG,hz⟩:=HS.out;have hz:=of_decide_eq_true hz;obtain⟨Tq2,hG2,_,_⟩:=hG.go hgo;obtain⟨f1,f2,f3⟩:=mX (E:=E) (I:=eA E) (fun s h=>h.fi) (fun s y D i x h h1 h2 h3 h4 h5 _ _=>h.put h1 h2 h3 h4 h5) (fun s y D i x h h1 h2 h3 h4 h5 _=>h.drop h1 h2 h4 h5 _) _ s' rfl hok;obtain⟨g1,g2,g3⟩:=pO (E:=E) (I:=eA E) (fun s h=>h) (fun s i h hr=>h.step hr.mem) _ _ (jR f1.kn) (fun i hi=>oV hi) f1;have hl:0<(readyR (fillP E s'.D s').K).length:=List.length_pos_iff.2 hz;refine⟨_,?_,gS E s',Tq2,rfl,g1,fun t ht=>hcont t (c8.go s' t hz ht),hG2⟩;show((readyR (fillP E s'.D s').K).foldl (stepP E) (fillP E s'.D s')).D.length+((readyR (fillP E s'.D s').K).foldl (stepP E) (fillP E s'.D s')).K.length<s'.D.length+s'.K.length;rw[g3];omega)
   obtain⟨k',hk',HN'⟩:=HN.out;have HN':=Hi HN';clear hgo HN;go_wp2_with fail
   go_roundg k'
   case measure=>
    have:=HS.out.1;omega
   case rel=>exact HN'
  |false=>
   have HE:Hid (∃t Tq,c8 E s t∧oE p26 d E t T3 w3 Tq w4):=Hi (by
    obtain⟨hk,hok,hcont,hG,hz⟩:=HS.out;have hz:readyR (fillP E s'.D s').K=[]:=by simpa using of_decide_eq_false hz
    obtain⟨Tq2,hG2,_,_⟩:=hG.go hgo;have hrp:gS E s'=fillP E s'.D s':=by unfold gS;rw[hz];rfl
    rw[hrp]at hG2;exact⟨_,Tq2,hcont _ (c8.done s' hz),hG2⟩)
   clear hgo HR HS;obtain⟨t,T4,hrd,hG4⟩:=HE.out;have hlaw:=hrd.law HX.out.2.2.2.2.2.1;have HL:=Hi (Ai hrd (Ai hlaw.1 hlaw.2));have H4:Hid (∃Tq,oE p26 d E (endP 0 t) T3 w3 Tq w4):=Hi ⟨T4,hG4⟩;obtain⟨M,hp,hd,hMk,hS⟩:=hG4.pa;obtain⟨T0,⟨_,kp⟩,_⟩:=hS.get (i:=0) rfl;have hov:=hMk.ov;rw[hp]at kp;unfold pac at kp;rw[hd,hov]at kp;clear hrd hlaw hG4 hp hd hMk hS hov HE;go_wp2_with fail;clear kp;go_loopw [35] (fun s35 ws=>∃i:Nat,i≤E.n∧s35= .int .i64 (i:Int)∧Hid (∃Tq,oE p26 d E (endP i t) T3 w3 Tq ws)) (fun s35 _=>E.n-(intOf s35).toNat)
   case atStart=>exact⟨0,aYf _,rfl,H4⟩
   case round=>
    obtain⟨i,hi,rfl,HG⟩:=hrel;by_cases hlt:i<E.n
    ·obtain⟨Ti,hG⟩:=HG.out;have hpush:Hid (Calls Tryz.prog 33 #[ptrV p26,.int .i64 (i:Int)] wr fun e w'=>e= .returned (.tuple #[])∧∃Tq,oE p26 d E (endP (i+1) t) T3 w3 Tq w'):=Hi (by
      obtain⟨hrd,hlw,hok,hK,hD⟩:=HL.out;obtain⟨e1,e2,e3⟩:=AG t (j:=i) i (aZq _);have hjo:i<t.op.length:=by rw[hok.lo];exact hlt
      have hjl:i<t.la.length:=by rw[hok.ll];exact hlt
      have hmo:=aXt hjo;have hml:=aXt hjl;have hbl:=hok.ol _ hmo;have hb2:=hok.b2;have hbq:=hok.bq _ hml;have hbb:=hok.bb _ hml;have hbg:=hok.bg;refine(AX hG.pa hG.lt hlt (b:=t.op[i]) (by rw[e1];exact aZb hjo) (q:=t.la[i]) (by rw[e2];exact aZb hjl) (by omega) (by omega) (by omega) (by omega)).mono ?_;rintro e w' ⟨he,hgo⟩;rw[←j3]at hgo;obtain⟨Tq,hq,_⟩:=hG.go hgo;exact⟨he,Tq,hq⟩)
     clear hG;go_wp2_with fail;go_at_call 33;refine hpush.out.mono ?_;rintro e w5 ⟨rfl,hq⟩;have HQ:=Hi hq;clear hq hpush;go_wp2_with fail;go_roundw
     case rel=>exact⟨i+1,by omega,by go_num,HQ⟩
     case measure=>simp[intOf];omega
    ·obtain rfl:i=E.n:=by omega
     obtain⟨T5,hG⟩:=HG.out;obtain⟨hrd,hlw,hok,hK,hD⟩:=HL.out;obtain⟨e1,e2,e3,e4,e5,e6,e7,e8⟩:=rT E.n t;have hE:=mO.atEnd hlw hK hD;have hnd:t.sd.Nodup:=by
      have:=hE.nodup;rw[e5,aZ7]at this;exact this.2.1
     have hsi:=hok.si;have hsl:t.sd.length≤9000:=by
      have:=hok.bs;omega
     obtain⟨t5,ht5⟩:∃t5,endP E.n t=t5:=⟨_,rfl⟩;rw[ht5]at hG e1 e5;obtain⟨M,hp,hd,hMk,hS⟩:=hG.pa;obtain⟨T0,⟨_,kp⟩,_⟩:=hS.get (i:=0) rfl;obtain⟨T17,hrow,h17⟩:=hS.get (i:=17) rfl;obtain⟨av,ac,hav,hsl17,_⟩:=hrow.1.at fZ;obtain⟨n5,hn5⟩:∃n5,t.sd.length=n5:=⟨_,rfl⟩;rw[e5,hn5]at hav;rw[e5]at hsl17;rw[hp]at kp;unfold pac at kp;rw[hav]at kp;rw[hn5]at hsl;obtain⟨T1,⟨_,kd⟩,_⟩:=hS.get (i:=1) rfl;rw[hd]at kd;unfold iR at kd;obtain⟨w5,hw5⟩:∃w5:World,w5=wr:=⟨_,rfl⟩;rw[←hw5]at hG hS kp kd hsl17⊢;have H5:=Hi (Ai hG (Ai hp (Ai hd (Ai hMk (Ai hav (Ai e5 (Ai hnd (Ai hsi (Ai hn5 (Ai ht5 (Ai hE e1)))))))))));have HI0:Hid (∃Tq,bQ (parts M E {t5 with S:=(t.sd.take 0).foldl vQ t5.S}) Tq w5∧(∀a,Tq a→a<w5.heap.size)∧Mod T5 w5 w5∧(∀a,Tq a→T5 a∨(w5.heap.size≤a∧a<w5.heap.size))):=Hi ⟨T5,hS,hG.lt,Mod.refl _ _,fun _ h=> .inl h⟩;clear hG hp hd hMk hS hav e5 hnd hsi hn5 ht5 hE e1 e2 e3 e4 e6 e7 e8 hrd hlw hok hK hD hrow h17 hsl17 hw5;go_wp2_with fail;clear kp kd;go_loopw [48] (fun s48 ws=>∃i:Nat,i≤n5∧s48= .int .i64 (i:Int)∧Hid (∃Tq,bQ (parts M E {t5 with S:=(t.sd.take i).foldl vQ t5.S}) Tq ws∧(∀a,Tq a→a<ws.heap.size)∧Mod T5 w5 ws∧(∀a,Tq a→T5 a∨(w5.heap.size≤a∧a<ws.heap.size)))) (fun s48 _=>n5-(intOf s48).toNat)
     case atStart=>exact⟨0,aYf _,rfl,HI0⟩
     case round=>
      obtain⟨i,hi,rfl,HI⟩:=hrel;by_cases hlt:i<n5
      ·obtain⟨Tq,hS,hltq,hm,hsub⟩:=HI.out;obtain⟨hG,hp,hd,hMk,hav,e5,hnd,hsi,hn5,ht5,hE,e1⟩:=H5.out;obtain⟨k,hk⟩:∃k,t.sd[i]? =some k:=⟨_,aZb (by rw[hn5];exact hlt)⟩;obtain⟨T1,⟨_,kd⟩,_⟩:=hS.get (i:=1) rfl;obtain⟨T17,hrow,_⟩:=hS.get (i:=17) rfl;rw[hd]at kd;obtain⟨av2,ac2,hav2,hsl2,_⟩:=hrow.1.at fZ;rw[hav]at hav2;injection hav2 with hav3 hx1 hx2
       clear hx1 hx2;subst hav3;have hsl2:aS ic 1 wr av t5.sd:=hsl2;rw[e5]at hsl2;obtain⟨g,o,C,U,fr,e,kg,hx,hle⟩:=hsl2.block hk;subst e;simp only[aYp]at hx hle;have hce:C[o+i]? =some (.int .i64 k.toInt):=by
        have h1:=congrArg (fun A=>A[0]?) hx;rw[aYl]at h1;split at h1
        ·rw[aXz]at h1;exact h1
        ·omega
       have hc1:∀h:o+i<C.size,C[o+i]= .int .i64 k.toInt:=fun h=>aU hce h;obtain⟨x,hxk,hpl,hid⟩:=hsi k (aZi hk);have htk:t.sd=t.sd.take i++k::t.sd.drop (i+1):=by
        have hi:=(aZa.1 hk).1;obtain⟨_,e⟩:=aZa.1 hk;rw[←e,List.getElem_cons_drop,aY9]
       have hni:k∉t.sd.take i:=fun hm=>by
        rw[htk,aZ7]at hnd;exact hnd.2.2 k hm k List.mem_cons_self rfl
       have hxi:itS ((t.sd.take i).foldl vQ t5.S) k=some x:=by
        rw[EQ hni (fun m hm=>by obtain⟨_,_,_,h⟩:=hsi m (List.mem_of_mem_take hm);exact h) hid,e1];exact hxk
       have hxs:=eX hxi;have hkl:ix k<4096:=by
        have h1:=(aZa.1 (eX hxk)).1;have h2:=(HL.out.2.2.1).fi.sl;omega
       have hkI:k.toInt=((ix k:Nat):Int):=by
        conv=>lhs;rw[hid]
        exact cB (by omega)
       have hstep:(t.sd.take (i+1)).foldl vQ t5.S=((t.sd.take i).foldl vQ t5.S).set (ix k) (some {x with pl:=0}):=by
        rw[aYa,hk,aXl];exact N5 hxi
       have hback:Hid (Calls Tryz.prog 34 #[ptrV M.D.b,.int .i64 k.toInt] wr fun e w'=>e= .returned (.int .i64 0)∧Goes (bQ (parts M E {t5 with S:=(t.sd.take (i+1)).foldl vQ t5.S})) Tq wr w'):=Hi (by
        rw[hkI,hstep];exact bQ.callX (R:=fun e _=>e= .returned (.int .i64 0)) (parts.good M E {t5 with S:=(t.sd.take i).foldl vQ t5.S}) hltq hS (i:=2) (K:=BT M.D.b ((t.sd.take i).foldl vQ t5.S)) (K':=BT M.D.b (((t.sd.take i).foldl vQ t5.S).set (ix k) (some {x with pl:=0}))) rfl (fun T3 hsub ht hg=>BT.back hg hxs hpl))
       have HQ:=Hi (Ai hltq (Ai hm hsub));unfold iR at kd;clear hS hltq hm hsub hG hp hd hMk e5 hnd hsi hn5 ht5 hE e1 hrow hsl2 hx hle hxk hpl hid htk hni hxi hxs hkl hkI hstep hk hav;go_wp2_with fail;go_at_call 34;refine hback.out.mono ?_;rintro e w6 ⟨rfl,T6,hS6,hm6,hT6⟩;have HN:Hid (∃Tq,bQ (parts M E {t5 with S:=(t.sd.take (i+1)).foldl vQ t5.S}) Tq w6∧(∀a,Tq a→a<w6.heap.size)∧Mod T5 w5 w6∧(∀a,Tq a→T5 a∨(w5.heap.size≤a∧a<w6.heap.size))):=Hi (by
        obtain⟨hltq,hm,hsub⟩:=HQ.out;have z1:=hm.size;have z2:=hm6.size;refine⟨T6,hS6,b9 hltq hm6 hT6,hm.then hm6 (fun a ha ht=>(hsub a ht).resolve_right (by omega)),fun a ha=> ?_⟩;rcases hT6 a ha with h|h
        ·rcases hsub a h with h|h
         ·exact .inl h
         ·exact .inr (by omega)
        ·exact .inr (by omega))
       clear hS6 hm6 hT6 hback kg hce hc1;go_wp2_with fail;go_roundw
       case rel=>exact⟨i+1,by omega,by go_num,HN⟩
       case measure=>simp[intOf];omega
      ·obtain rfl:i=n5:=by omega
       obtain⟨Tq,hS,hltq,hm,hsub⟩:=HI.out;rw[aY6 (Nat.le_of_eq H5.out.2.2.2.2.2.2.2.2.1)]at hS;obtain⟨t6,ht6⟩:∃t6:Pa,{t5 with S:=t.sd.foldl vQ t5.S}=t6:=⟨_,rfl⟩;rw[ht6]at hS;obtain⟨T0,⟨_,kp⟩,_⟩:=hS.get (i:=0) rfl;obtain⟨T4r,hr4,_⟩:=hS.get (i:=4) rfl;obtain⟨T16,hr16,_⟩:=hS.get (i:=16) rfl;obtain⟨T17,hr17,_⟩:=hS.get (i:=17) rfl;obtain⟨da,dc,hdv,hdcl,hdsl,_⟩:=fO UX hr4.1;obtain⟨ga,gc,hgv,hgcl,hgsl,_⟩:=fO UY hr16.1;obtain⟨aa,ac3,hav3,hacl,hasl,_⟩:=fO fZ hr17.1;have kp2:=(hm.at (H5.out.1.m.at KD.out.2 HT3.out.2.1) (fun h5=>by
        rcases H5.out.1.sub p2 h5 with h|h
        ·exact HT3.out.2.1 h
        ·have:=aA KD.out.2;omega))
       obtain⟨dn,hdn⟩:∃dn,t6.dr.length=dn:=⟨_,rfl⟩;obtain⟨gn,hgn⟩:∃gn,M.G.length=gn:=⟨_,rfl⟩;obtain⟨an,han⟩:∃an,t6.sd.length=an:=⟨_,rfl⟩;rw[hdn]at hdv hdcl;rw[hgn]at hgv hgcl;rw[han]at hav3 hacl;rw[hdv]at hdcl;rw[hgv]at hgcl;rw[hav3]at hacl;rw[H5.out.2.1]at kp;unfold pac at kp;rw[hdv,hgv,hav3]at kp;have HDC:=Hi hdcl;have HGC:=Hi hgcl;have HAC:=Hi hacl;have H6:=Hi (Ai hS (Ai hltq (Ai hm (Ai hsub (Ai ht6 (Ai hdsl (Ai hgsl (Ai hasl (Ai hdn (Ai hgn (Ai han (Ai hdv (Ai hgv hav3)))))))))))));clear hS hltq hm hsub ht6 hdsl hgsl hasl hdn hgn han hdcl hgcl hacl hdv hgv hav3 hr4 hr16 hr17;go_upto_region 16 with fail;have Lkp:=aA kp;have Lkp2:=aA kp2;refine iJ (T0:=fun _=>False) (K:=fun _ _=>True) (κ:=fun i=>[0,0,0,0,0,6,0,0,0,0,0,6,0,0,0,0,0,6,0,6,0].getD i 0) (υ:=fun _=>[]) [0,1,2,3,4,5,6,7,8,9,10,11,12,13,14,15,16,17,18] [19,20] (by kernel_rfl) (by kernel_rfl) (aI.true).cl (trivial) (fun _ h=>h.elim) ?_;have gK:=aI.true
       iterate 4 refine Zg ?_
       refine Zh ?_;(refine ZG (fun v=>v= .slice ga gn gn) gK ?_ (s:=fun T wq kq ltq hSq ub=>by exact(CG _ wq gn HGC.out).mono (fun e w' h=>⟨_,h.1,rfl,by rw[h.2];exact Mod.refl _ _⟩));rintro v21 hC;subst hC;try simp only[zL])
       iterate 4 refine Zg ?_
       refine Zh ?_;(refine ZG (fun v=>v= .slice da dn dn) gK ?_ (s:=fun T wq kq ltq hSq ub=>by exact(CH _ wq dn HDC.out).mono (fun e w' h=>⟨_,h.1,rfl,by rw[h.2];exact Mod.refl _ _⟩));rintro v27 hC;subst hC;try simp only[zL])
       iterate 4 refine Zg ?_
       refine Zh ?_;(refine ZG (fun v=>v= .slice aa an an) gK ?_ (s:=fun T wq kq ltq hSq ub=>by exact(clipI_cG _ _ wq an rfl HAC.out).mono (fun e w' h=>⟨_,h.1,rfl,by rw[h.2];exact Mod.refl _ _⟩));rintro v33 hC;subst hC;try simp only[zL]);(refine TG.build (v:= ?v34) (ps:= ?p34) (by simp only[zK];rfl) rfl (by rfl) rfl ?hx34 (fun w1=> ?y34) ?n34;(case hx34=>(simp only[aYr,aZo,aYo,zM];(try rfl)));(case y34=>(rw[(N7 ga da aa gn dn an)];(try with_reducible rfl)));try simp only[zL]);refine TG.nil (fun w7 ⟨TR,hr⟩=> ?_);replace kp:=hr.q kp;replace kp2:=hr.q kp2;clear gK;have m7:=Hi hr.mod;clear hr;refine Zz ?_;refine ZS ?_;refine ZM kp2 fun wn kp2 mS=> ?_;(try simp only[Array.setIfInBounds,zL]at kp2);have MS8:=Hi mS;refine Ze ?_;refine TE.nil ?_;have ms8:=mS;obtain⟨w8,hw8⟩:∃w8,wn=w8:=⟨_,rfl⟩;rw[hw8]at kp2 MS8⊢;clear hw8 ms8;go_wp2_with fail;(try simp only[Exit.noGoto]);have hk28:w8.heap[p2]? =some (.cells #[.slice ga gn gn,.slice da dn dn,.slice aa an an] 55 (0,0)):=by simpa using kp2
       have HSF:Hid (bQ (parts M E t6) Tq wr→(∀a,Tq a→T5 a∨(w5.heap.size≤a∧a<wr.heap.size))→bQ (parts M E t6) Tq w8):=Hi (fun hS hsub=>by
        have mf:Mod (fun i=>i=p2) wr w8:=(m7.out.mono (fun _ _ h=>h.elim)).trans MS8.out;refine(bQ.good (parts.good M E t6)).cl _ _ _ hS (mf.mono (fun a _ hi hTi=> ?_));subst hi;have l2:=aA KD.out.2;have z:=H5.out.1.m.size;rcases hsub _ hTi with h|h
        ·rcases H5.out.1.sub _ h with h|h
         ·exact HT3.out.2.1 h
         ·omega
        ·omega)
       refine bodyPost_ret (results_cell2 (x:= .agg #[.slice ga gn gn,.slice da dn dn,.slice aa an an]) rfl rfl (by rw[r9];simp[hk28])) rfl ⟨t,_,HL.out.1,rfl,?_,?_⟩
       ·obtain⟨hS,hltq,hm,hsub,ht6,hdsl,hgsl,hasl,hdn,hgn,han,hdv,hgv,hav3⟩:=H6.out;obtain⟨hG,hp,hd,hMk,hav,e5,hnd,hsi,hn5,ht5,hE,e1⟩:=H5.out;have hSf:=HSF.out hS hsub;obtain⟨T4r,hr4,_⟩:=hSf.get (i:=4) rfl;obtain⟨T15,hb15,_⟩:=hSf.get (i:=15) rfl;obtain⟨T16,hr16,_⟩:=hSf.get (i:=16) rfl;obtain⟨T17,hr17,_⟩:=hSf.get (i:=17) rfl;obtain⟨a1,c1,f1,_,s1,_⟩:=fO UX hr4.1;obtain⟨a2,c2,f2,_,s2,_⟩:=fO UY hr16.1;obtain⟨a3,c3,f3,_,s3,_⟩:=fO fZ hr17.1;rw[hdv]at f1;rw[hgv]at f2;rw[hav3]at f3;injection f1 with f1 _ _
        injection f2 with f2 _ _
        injection f3 with f3 _ _
        subst f1;subst f2;subst f3;rw[ht5];have hgi:t6.gi=t5.gi:=by rw[←ht6]
        have hop:t6.op=t5.op:=by rw[←ht6]
        have hdr:t6.dr=t5.dr:=by rw[←ht6]
        have hsd:t6.sd=t5.sd:=by rw[←ht6]
        have hgl:t5.gi.length=gn:=by rw[←hgn];exact hMk.gl
        have hgw:=hMk.gw;have hVl:=hb15.1;rw[hgi,hop,aZg,hMk.op,aZs]at hVl;refine⟨ga,da,aa,M.G,by rw[hgl,←hdr,hdn,←hsd,han],s2,?_,fun j x b hx hb=> ?_,by rw[←hdr];exact s1,by rw[←hsd];exact s3⟩
        ·have h1:=congrArg (List.map Prod.fst) hgw;rw[aX0,List.map_fst_zip (by rw[aZs,List.length_drop];omega)]at h1;exact h1
        ·have h1:=congrArg (fun l=>l[j]?) hgw;simp only[aZv,hx,aYj]at h1;have h2:=List.getElem?_zip_eq_some.1 h1.symm;obtain⟨h3,h4⟩:=h2;rw[List.getElem?_drop]at h4;have h5:(t6.op++t6.gi.map Prod.snd)[E.n+j]? =some b.2:=by
          rw[hgi,hop,aZ3 (by rw[hMk.op];omega),hMk.op,aXs,aZv,hb];rfl
         obtain⟨_,hN,_⟩:=hb15.2.1 _ _ _ h4 h5;obtain⟨a4,f4,s4,_⟩:=(hN (by omega)).at;injection f4 with f5 f6 _
         rw[f5];exact⟨f6,s4⟩
       ·obtain⟨hS,hltq,hm,hsub,ht6,hdsl,hgsl,hasl,hdn,hgn,han,hdv,hgv,hav3⟩:=H6.out;obtain⟨hG,hp,hd,hMk,hav,e5,hnd,hsi,hn5,ht5,hE,e1⟩:=H5.out;have hSf:=HSF.out hS hsub;rw[ht5];have ht7:({t5 with S:=J7 t5}:Pa)=t6:=by
         have h1:J7 t5=t.sd.foldl vQ t5.S:=by
          unfold J7;rw[e5]
         rw[h1];exact ht6
        rw[ht7];have hDk:=bQ.toDk hSf;rw[hd]at hDk;have h3:=HT3.out;have l2:=aA KD.out.2;have g2:=HP2.out;have z3:=h3.2.2.size;have z5:=hG.m.size;have z6:=hm.size;have z7:=m7.out.size;have z8:=MS8.out.size;refine⟨Tq,⟨R6 M,⟨hMk.win,hMk.bat,hMk.fli,hMk.n1,hMk.n2,hMk.fv,hMk.cv,hMk.sv,by rw[←ht6];exact hMk.fl,by rw[←ht6];exact hMk.co,hMk.sp,by rw[←ht6];exact hMk.la⟩,hDk⟩,?_,fun a ha=> ?_⟩
        ·have c3:∀a,T3 a→a<w.heap.size→T a:=fun a ha hl=>(h3.1 a ha).resolve_right (by omega);have c5:∀a,T5 a→a<w.heap.size→T a:=fun a ha hl=>c3 a ((hG.sub a ha).resolve_right (by omega)) hl;have k3:Mod T w w3:=h3.2.2.mono (fun _ _ h=>h.elim);exact(((k3.then hG.m (fun a hl ha=>c3 a ha hl)).then hm (fun a hl ha=>c5 a ha hl)).then0 m7.out).then MS8.out (fun a hl ha=>by omega)
        ·rcases hsub a ha with h|h
         ·rcases hG.sub a h with h|h
          ·rcases h3.1 a h with h|h
           ·exact .inl h
           ·exact .inr (by omega)
          ·exact .inr (by omega)
         ·exact .inr (by omega)
end
def MX (n:UInt8):aQ:=⟨n::List.replicate 31 0,by simp⟩
def RD (n:UInt8):Sg:=⟨n::List.replicate 63 0,by simp⟩
def qX (p:UInt64) (g k:UInt8):JG:=⟨[],[RD g],false,0,0,0,[],iC,[],[],[⟨MX k,false,true⟩],0,0,0,0,100,p⟩
def evE:Ev:=⟨8,4,4,2,[4607182418800017408,4607182418800017408],[iC],[]⟩
def WP (n p:UInt64) (g k:UInt8):It:=⟨n,qX p g k,0,false⟩
def RE:List (Option It):=some (WP 1 9 1 50)::some (WP 2 5 2 50)::some (WP 3 7 3 51)::List.replicate 57 none
def paE:Pa:= {paN 60 2 with S:=RE,D:=[⟨⟨9,1⟩,idn 0⟩,⟨⟨7,3⟩,idn 2⟩,⟨⟨5,2⟩,idn 1⟩],op:=[[],[]]}
theorem WI:(readyR (fillP evE paE.D paE).K).isEmpty=false:=by kernel_rfl
theorem WJ:(readyR (fillP evE (gS evE paE).D (gS evE paE)).K).isEmpty=false:=by kernel_rfl
def paE2:Pa:=gS evE (gS evE paE)
theorem WK:(readyR (fillP evE paE2.D paE2).K).isEmpty=true:=by kernel_rfl
theorem SA:(endP 2 (fillP evE paE2.D paE2)).gi=[(0,[idn 0]),(0,[idn 1]),(1,[idn 2])]:=by kernel_rfl
theorem WH:(endP 2 (fillP evE paE2.D paE2)).fl=[2,1]:=by kernel_rfl
theorem WG:(endP 2 (fillP evE paE2.D paE2)).co=[200,100]:=by kernel_rfl
theorem OT:(endP 2 (fillP evE paE2.D paE2)).dr=[]∧(endP 2 (fillP evE paE2.D paE2)).sd=[]:=⟨by kernel_rfl,by kernel_rfl⟩
theorem SB {t:Pa} (h:c8 evE paE t):t=fillP evE paE2.D paE2:=by
 cases h with
 |done _ hr=>
  have:=WI;rw[hr]at this;cases this
 |go _ _ _ h=>
  cases h with
  |done _ hr=>
   have:=WJ;rw[hr]at this;cases this
  |go _ _ _ h=>
   cases h with
   |done _ hr=>rfl
   |go _ _ hr h=>
    have:=WK;rw[List.isEmpty_iff]at this;exact absurd this hr
section
def Q8:Array Value:=sZ (.slice none 0 0) 0 0 0 0 (.int .u64 0) (.int .u64 0) (.int .u64 0) (.int .u64 0) 0 (.slice none 0 0)
theorem MY (w:World) (b o:Nat):(Instr.loadAt 28 (.pointer (some ⟨b,o,none⟩))).run Tryz.prog w=
   match w.heap[b]? with
   |some (.cells cs _ _)=>if o+11≤cs.size then .ok (.agg (cs.extract o (o+11))) w else dU Tryz.prog w 28 b o
   |_=>dU Tryz.prog w 28 b o:=bL (d:=_) Tryz.underlying28 rfl (by kernel_rfl) w b o
theorem TW (w:World) (b o:Nat) (xs:Array Value):(Instr.storeAt 28 (.pointer (some ⟨b,o,none⟩)) (.agg xs)).run Tryz.prog w=
   match w.heap[b]? with
   |some (.cells cs U (0,0))=>
    if o+11≤cs.size∧xs.size=11∧xs.all (·.oneCell')=true then .ok () (setBlock w b (.cells (if o=0∧11=cs.size then xs else wr cs o xs.toList) U (0,0)))else eG Tryz.prog w 28 b o (.agg xs)
   |_=>eG Tryz.prog w 28 b o (.agg xs):=bK (by kernel_rfl) w b o xs
theorem alCfg (w:World):(Instr.alloc 28 true (.tuple #[])).run Tryz.prog w= .ok (.pointer (some ⟨w.heap.size,0,none⟩)) (w.alloc (.cells Q8 28)):=
 aX (z:= .agg Q8) (fun w=>by kernel_rfl) w
attribute [local go_sem↓] MY TW
attribute [local go_sem] Q8 sZ
theorem N8 (w:World):(Instr.buildSlice 26 1 #[(0,.bool true)]).run Tryz.prog w= .ok (.slice (some ⟨w.heap.size,0,none⟩) 1 1) (w.alloc (.cells #[.bool true] 4)):=by kernel_rfl
theorem OC (x:Nat) (w:World):(Instr.buildSlice 22 1 #[(0,.float .f64 x)]).run Tryz.prog w= .ok (.slice (some ⟨w.heap.size,0,none⟩) 1 1) (w.alloc (.cells #[.float .f64 x] 129)):=by kernel_rfl
theorem N6 (a:Option Addr) (w:World):(Instr.build 28 #[(1,.int .i64 60),(2,.int .i64 8),(3,.int .i64 4),(4,.int .i64 4),(8,.slice a 1 1)]).run Tryz.prog w= .ok (.agg #[.slice none 0 0,.int .i64 60,.int .i64 8,.int .i64 4,.int .i64 4,.int .u64 0,.int .u64 0,.int .u64 0,.int .u64 0,.int .i64 0,.slice a 1 1]) w:=by kernel_rfl
theorem plain_c (w:World) (n:Nat) (hn:n≤64):Calls Tryz.prog 26 #[.int .i64 (n:Int)] w fun e w'=>∃sa sc oa,e= .returned (.agg (sZ (.slice sa n sc) 60 8 4 4 (u64v 0) (u64v 0) (u64v 0) (u64v 0) 0 (.slice oa 1 1)))∧aS pQ 1 w' sa (List.replicate n 4607182418800017408)∧aS zY 1 w' oa [true]∧Mod (fun _=>False) w w':=by
 go_enter Tryz.func26,Tryz.ntmps26;go_upto_region 0 with fail;refine ZP0 [3] ?_;refine Za alCfg fun p2 hp2=> ?_;refine TD.nil (fun w1 hr=> ?_);obtain⟨gp2,kp2⟩:=hr.b p2;have m1:=hr.mod;clear hr;go_upto_region 1 with fail;have Lkp2:=aA kp2;refine ZP0 [3,0,3,4] ?_;refine Zy N8 fun p5 hp5=> ?_;refine Zu (N6 _) ?_;refine Za alCfg fun p3 hp3=> ?_;obtain⟨ne_p3_p5,hp3⟩:=Bx.set_none hp3;(refine TD.storeB (d:= ?d5) (T:= ?T5) (y:= ?y5) (p:= ?p5) (b:= ?b5) (v:= ?v5) (by simp only[zK];rfl) rfl (by rfl) ?hd5 ?hop5 ?hev5 ?hx5 ?hb5 ?htag5 (fun w1 hb1=> ?hy5) ?hn5;(case hd5=>rfl);(case hop5=>rfl);(case hev5=>(simp only[zM];(try rfl)));(case hx5=>simp only[zM];try rfl);(case hb5=>first|exact Bx.set_same _ _ _|(simp only[Bx.set_ne _ (Ne.symm ne_p3_p5),Bx.set_ne _ ne_p3_p5,Bx.set_same];rfl));(case hy5=>(go_simp;(try first|with_reducible rfl|(rw[setCell_blk hb1];rfl))));try simp only[zL]);refine TD.nil (fun w2 hr=> ?_);replace kp2:=hr.q kp2;obtain⟨gp5,kp5⟩:=hr.b p5 (by first|exact Bx.set_same _ _ _|(simp only[Bx.set_ne _ (Ne.symm ne_p3_p5),Bx.set_ne _ ne_p3_p5,Bx.set_same];rfl));obtain⟨gp3,kp3⟩:=hr.b p3 (by first|exact Bx.set_same _ _ _|(simp only[Bx.set_ne _ (Ne.symm ne_p3_p5),Bx.set_ne _ ne_p3_p5,Bx.set_same];rfl));have m2:=m1.then0 hr.mod;have hb:aS zY 1 w2 (some ⟨p5,0,none⟩) [true]:=aS.one kp5 true rfl rfl;have hb5:=aA kp5;have L23:=Hi (aA kp3);have hp52:p5≠p2:=by have:=aA kp2;omega
 have HG:=Hi (Ai gp2 gp3);have n23:p2≠p3:=by have:=aA kp2;omega
 have hstart:Hid (aE pQ 1 129 w2 0 (.slice none 0 0) (List.replicate 0 4607182418800017408)∧∀g,(Value.slice none 0 0).ownBlock=some g→w2.heap.size≤g):=Hi ⟨aE.nil _ _,fun g hg=>by cases hg⟩;have M2:=Hi (Ai m2 (Ai hb (Ai kp2 kp5)));have hne:p5≠p3:=fun e=>ne_p3_p5 e.symm;clear hr m1 m2 hb kp5 kp2;go_wp2_with fail;go_loopw [4] (fun s4 ws=>∃i:Nat,i≤n∧s4= .int .i64 (i:Int)∧∃a c,ws.heap[p3]? =some (.cells #[.slice a i c,.int .i64 60,.int .i64 8,.int .i64 4,.int .i64 4,.int .u64 0,.int .u64 0,.int .u64 0,.int .u64 0,.int .i64 0,.slice (some ⟨p5,0,none⟩) 1 1] 28 (0,0))∧Hid (aE pQ 1 129 ws 0 (.slice a i c) (List.replicate i 4607182418800017408)∧∀g,(Value.slice a i c).ownBlock=some g→w2.heap.size≤g)∧Mod (fun x=>x=p3) w2 ws) (fun s4 _=>n-(intOf s4).toNat)
 case atStart=>exact⟨0,aYf _,rfl,none,0,kp3,hstart,Mod.refl _ _⟩
 case round=>
  obtain⟨i,hi,rfl,a,c,k3,HS,hm⟩:=hrel;by_cases hlt:i<n
  ·have HM:=Hi hm;clear hm;go_upto_region 5 with fail;have Lk3:=aA k3;refine ZP0 [0,1,3,5,0,6] ?_;refine Zv ?_;refine Zd ?_;refine Zy (OC 4607182418800017408) fun p14 hp14=> ?_;refine Zi fun w4 hr=> ?_;replace k3:=hr.q k3;obtain⟨gp14,kp14⟩:=hr.b p14;have m4:=hr.mod;have hap:∃v6 w6,(Builtin.append_ #[22,22] 22 #[.slice a i c,.slice (some ⟨p14,0,none⟩) 1 1]).run Tryz.prog w4= .ok v6 w6∧(∃a6 c6,v6= .slice a6 (i+1) c6)∧aE pQ 1 129 w6 0 v6 (List.replicate (i+1) 4607182418800017408)∧(∀g,v6.ownBlock=some g→w2.heap.size≤g)∧w6.heap[p3]? =w4.heap[p3]? ∧Mod (fun x=>x=p3) w2 w6:=by
    obtain⟨hO,hg⟩:=HS.out;have z:=HM.out.size;have z4:=m4.size;obtain⟨v6,w6,h1,h2,h3,h4⟩:=aE.append FQ (q:=[4607182418800017408]) (c:=1) (hO.mod0 m4) (aS.one kp14 4607182418800017408 rfl rfl) (by rw[aZ9,aZx];omega) (by decide) (aYf _) 22;have hl:(List.replicate i 4607182418800017408++[4607182418800017408])=List.replicate (i+1) 4607182418800017408:=by rw[List.replicate_succ']
    rw[hl]at h2;have h3k:=aA k3;rw[aZx]at h1;refine⟨v6,w6,h1,?_,h2,fun g hg6=> ?_,?_,?_⟩
    ·obtain⟨a6,c6,e6,_⟩:=h2.at FQ;rw[aZ9]at e6;exact⟨a6,c6,e6⟩
    ·rcases h4 with h4|h4
     ·exact hg g (by rw[←h4];exact hg6)
     ·rw[h4]at hg6;cases hg6;omega
    ·have:=h3.at k3 (fun e=>by
      have:=hg p3 e;have:=L23.out;omega)
     rw[this,k3]
    ·exact((HM.out.then0 m4).then h3 (fun x hx e=>by
      have:=hg x e;omega))
   obtain⟨v6,w6,hap,⟨a6,c6,rfl⟩,hO6,hg6,k6,m6⟩:=hap;rw[k3]at k6;have HO:=Hi (Ai hO6 (Ai hg6 m6));clear hO6 hg6 m6 k3 hr m4 kp14;refine ZA hap ?_;refine Ze ?_;refine Zz ?_;refine ZS ?_;refine ZN k6 fun wn k6 mS=> ?_;(try simp only[Array.setIfInBounds,zL]at k6);have HF:Hid (aE pQ 1 129 wn 0 (.slice a6 (i+1) c6) (List.replicate (i+1) 4607182418800017408)∧(∀g,(Value.slice a6 (i+1) c6).ownBlock=some g→w2.heap.size≤g)∧Mod (fun x=>x=p3) w2 wn):=Hi (by
    obtain⟨hO6,hg6,m6⟩:=HO.out;exact⟨hO6.mod mS (fun g hg e=>by
     have:=hg6 g hg;have:=L23.out;omega),hg6,m6.trans mS⟩)
   have k6:wn.heap[p3]? =some (.cells #[.slice a6 (i+1) c6,.int .i64 60,.int .i64 8,.int .i64 4,.int .i64 4,.int .u64 0,.int .u64 0,.int .u64 0,.int .u64 0,.int .i64 0,.slice (some ⟨p5,0,none⟩) 1 1] 28 (0,0)):=by simpa using k6
   clear mS hap HO;go_wp2_with fail;go_roundw
   case rel=>exact⟨i+1,by omega,by go_num,a6,c6,k6,Hi ⟨HF.out.1,HF.out.2.1⟩,HF.out.2.2⟩
   case measure=>simp[intOf];omega
  ·obtain rfl:i=n:=by omega
   have k2:=hm.at M2.out.2.2.1 n23;have HM:=Hi hm;clear hm;go_upto_region 6 with fail;have Lk3:=aA k3;have Lk2:=aA k2;refine ZP0 [1,5] ?_;refine Zd ?_;refine Zi fun wE hr=> ?_;replace k3:=hr.mod.at0 k3;replace k2:=hr.mod.at0 k2;have mE:=hr.mod;refine ZS ?_;refine ZN k2 fun w4 k2 mS=> ?_;(try simp only[Array.setIfInBounds,zL]at k2);replace k3:=mS.at_ne k3 (by omega);have HE:Hid (aS pQ 1 w4 a (List.replicate i 4607182418800017408)∧aS zY 1 w4 (some ⟨p5,0,none⟩) [true]∧Mod (fun _=>False) w w4):=Hi (by
    obtain⟨m2,hb,kp2,kp5⟩:=M2.out;obtain⟨a2,c2,e2,hsl,_⟩:=HS.out.1.at FQ;injection e2 with e3 _ _
    subst e3;have z2:=m2.size;have l23:=L23.out;have ms:Mod (fun x=>x=p2) wr w4:=(mE.mono (fun _ _ h=>h.elim)).trans mS;have hp5:p5≠p2:=fun e=>hp52 e;refine⟨hsl.mod ms (fun b o e hb2=> ?_),?_,?_⟩
    ·have:=HS.out.2 b (by rw[e];rfl);omega
    ·exact aS.one (ms.at (HM.out.at kp5 hne) hp5) true rfl rfl
    ·exact(m2.then HM.out (fun x hx e=>by omega)).then ms (fun x hx e=>by omega))
   have k2:w4.heap[p2]? =some (.cells #[.slice a i c,.int .i64 60,.int .i64 8,.int .i64 4,.int .i64 4,.int .u64 0,.int .u64 0,.int .u64 0,.int .u64 0,.int .i64 0,.slice (some ⟨p5,0,none⟩) 1 1] 28 (0,0)):=by simpa using k2
   go_wp2_with fail;exact bodyPost_ret (results_cell1 (v:= .agg #[.slice a i c,.int .i64 60,.int .i64 8,.int .i64 4,.int .i64 4,.int .u64 0,.int .u64 0,.int .u64 0,.int .u64 0,.int .i64 0,.slice (some ⟨p5,0,none⟩) 1 1]) rfl rfl (by rw[MY];simp[k2])) rfl ⟨a,c,_,rfl,HE.out⟩
attribute [local go_sem↓] jX iD jV jY
attribute [local go_sem] bF dE dW fM
def TF (p:UInt64) (g k:UInt8) (sa ra:Nat):cS:= {rd0 with sg:=⟨some ⟨sa,0,none⟩,[RD g],1⟩,ro:=⟨some ⟨ra,0,none⟩,[⟨MX k,false,true⟩],1⟩,cost:=100,prio:=p}
def XO (a:Nat):Array Value:=(bT {rd0 with sg:=⟨some ⟨a,0,none⟩,[sg0],1⟩}).extract 1 41
theorem VX (g:UInt8) (w:World):(Instr.build 92 #[(0,.int .u8 (g.toNat:Int))]).run Tryz.prog w= .ok (.agg (sgc (RD g))) w:=by kernel_rfl
theorem R0 (g:UInt8) (w:World):(Instr.buildSlice 30 1 #[(0,.agg (sgc (RD g)))]).run Tryz.prog w= .ok (.slice (some ⟨w.heap.size,0,none⟩) 1 1) (w.alloc (.cells (sgc (RD g)) 92)):=by kernel_rfl
theorem VY (a:Nat) (w:World):(Instr.build 41 #[(0,.slice (some ⟨a,0,none⟩) 1 1)]).run Tryz.prog w= .ok (.agg (XO a)) w:=by kernel_rfl
theorem VU (k:UInt8) (w:World):(Instr.build 107 #[(0,.int .u8 (k.toNat:Int))]).run Tryz.prog w= .ok (.agg (kc (MX k))) w:=by kernel_rfl
theorem VW (k:UInt8) (w:World):(Instr.build 178 #[(0,.agg (kc (MX k))),(2,.bool true)]).run Tryz.prog w= .ok (.agg (rcr ⟨MX k,false,true⟩)) w:=by kernel_rfl
theorem RZ (k:UInt8) (w:World):(Instr.buildSlice 42 1 #[(0,.agg (rcr ⟨MX k,false,true⟩))]).run Tryz.prog w= .ok (.slice (some ⟨w.heap.size,0,none⟩) 1 1) (w.alloc (.cells (rcr ⟨MX k,false,true⟩) 178)):=by kernel_rfl
theorem VV (p:UInt64) (g k:UInt8) (sa ra:Nat) (w:World):(Instr.build 46 #[(6,u64v p),(5,.int .u64 100),(1,.agg (XO sa)),(2,.slice (some ⟨ra,0,none⟩) 1 1)]).run Tryz.prog w= .ok (.agg (bT (TF p g k sa ra))) w:=by kernel_rfl
theorem I7 (w:World) (p:UInt64) (g k:UInt8):Calls Tryz.prog 27 #[u64v p,.int .u8 (g.toNat:Int),.int .u8 (k.toNat:Int)] w fun e w'=>∃x:cS,e= .returned (.agg (bT x))∧x.con=qX p g k∧gL w' x∧kA (fun i=>w.heap.size≤i∧i<w'.heap.size) x∧Mod (fun _=>False) w w':=by
 go_enter Tryz.func27,Tryz.ntmps27;go_upto_region 0 with fail;refine ZP0 [3] ?_;refine Za alRdy fun p6 hp6=> ?_;refine TD.nil (fun w1 hr=> ?_);obtain⟨gp6,kp6⟩:=hr.b p6;have m1:=hr.mod;clear hr;go_upto_region 1 with fail;have Lkp6:=aA kp6;refine ZP0 [0,0,0,3,0,0,0,0,3,0,5] ?_
 iterate 2 refine Zv ?_
 refine Zu (VX g) ?_;refine Zy (R0 g) fun p10 hp10=> ?_;refine Zu (VY p10) ?_;refine Zv ?_;refine Zu (VU k) ?_;refine Zu (VW k) ?_;refine Zy (RZ k) fun p15 hp15=> ?_;obtain⟨ne_p15_p10,hp15⟩:=Bx.set_none hp15;refine Zu (VV p g k p10 p15) ?_;refine Zi fun w3 hr=> ?_;replace kp6:=hr.q kp6;obtain⟨gp10,kp10⟩:=hr.b p10 (by first|exact Bx.set_same _ _ _|(simp only[Bx.set_ne _ (Ne.symm ne_p15_p10),Bx.set_ne _ ne_p15_p10,Bx.set_same];rfl));obtain⟨gp15,kp15⟩:=hr.b p15 (by first|exact Bx.set_same _ _ _|(simp only[Bx.set_ne _ (Ne.symm ne_p15_p10),Bx.set_ne _ ne_p15_p10,Bx.set_same];rfl));have m3:=hr.mod;clear hr;refine ZS ?_;refine ZN kp6 fun wn kp6 mS=> ?_;(try simp only[Array.setIfInBounds,zL]at kp6);obtain⟨w2,hw2⟩:∃w2,wn=w2:=⟨_,rfl⟩;rw[hw2]at kp6 mS⊢;have l6:=aA kp6;have kp10:=mS.at_ne kp10 (by omega);have kp15:=mS.at_ne kp15 (by omega);have kp6:w2.heap[p6]? =some (.cells (bT (TF p g k p10 p15)) 46 (0,0)):=by simpa using kp6
 have hmf:Mod (fun _=>False) w w2:=(m1.then0 m3).then mS (fun x hx e=>by omega);have hok:gL w2 (TF p g k p10 p15):=⟨.inl rfl,aS.one kp10 (RD g) rfl (fD _),.inl rfl,.inl rfl,fun y hy=>(by cases hy),.inl rfl,fun y hy=>(by cases hy),aS.one kp15 (⟨MX k,false,true⟩:aT) rfl (by rfl)⟩;have l10:=aA kp10;have l15:=aA kp15;have z1:=m1.size;have hin:kA (fun i=>w.heap.size≤i∧i<w2.heap.size) (TF p g k p10 p15):=⟨fun _ _ e=>(by cases e),fun _ _ e=>(by cases e;exact⟨by omega,l10⟩),fun _ _ e=>(by cases e),fun _ _ e=>(by cases e),fun y hy=>(by cases hy),fun _ _ e=>(by cases e),fun y hy=>(by cases hy),fun _ _ e=>(by cases e;exact⟨by omega,l15⟩)⟩;have HH:=Hi (Ai hmf (Ai hok hin));clear mS hmf hok kp10 kp15 m1 m3 hw2;go_wp2_with fail;exact bodyPost_ret (results_cell1 (v:= .agg (bT (TF p g k p10 p15))) rfl rfl (by rw[iD];simp[kp6,dE,bF])) rfl ⟨_,rfl,rfl,HH.out.2.1,HH.out.2.2,HH.out.1⟩
theorem sV (w:World) (a a2:Option Addr) (j:Nat) (i:Int64) (c:Nat) (h1:aS ic 1 w a [i]) (h2:aS ic 1 w a2 [i]):Calls Tryz.prog 28 #[.agg #[.int .i64 (j:Int),.slice a 1 c],.int .i64 (j:Int),.slice a2 1 1] w fun e w'=>e= .returned (.bool true)∧Mod (fun _=>False) w w':=by
 obtain⟨g,o,C,U,fr,e,kg,hx,hle⟩:=h1.block (i:=0) rfl;obtain⟨g2,o2,C2,U2,fr2,e2,kg2,hx2,hle2⟩:=h2.block (i:=0) rfl;subst e;subst e2;simp only[Nat.zero_mul,aXz]at hx hle hx2 hle2;have hce:C[o]? =some (.int .i64 i.toInt):=by
  have h1:=congrArg (fun A=>A[0]?) hx;rw[aYl]at h1;split at h1
  ·rw[aXz]at h1;exact h1
  ·omega
 have hc1:∀h:o<C.size,C[o]= .int .i64 i.toInt:=fun h=>aU hce h;have hce2:C2[o2]? =some (.int .i64 i.toInt):=by
  have h1:=congrArg (fun A=>A[0]?) hx2;rw[aYl]at h1;split at h1
  ·rw[aXz]at h1;exact h1
  ·omega
 have hc2:∀h:o2<C2.size,C2[o2]= .int .i64 i.toInt:=fun h=>aU hce2 h;clear hx hx2 h1 h2;go_enter Tryz.func28,Tryz.ntmps28;go_upto_region 0 with fail;have Lkg:=aA kg;have Lkg2:=aA kg2;refine ZP0 [3,0] ?_;refine Zb fun p3 hp3=> ?_;refine Zv ?_;refine TD.nil (fun w1 hr=> ?_);replace kg:=hr.q kg;replace kg2:=hr.q kg2;obtain⟨gp3,kp3⟩:=hr.b p3;have m1:=hr.mod;clear hr;go_wp2_with fail;go_loopw [7] (fun s7 ws=>∃q:Nat,q≤1∧s7= .int .i64 (q:Int)∧Mod (fun _=>False) w1 ws) (fun s7 _=>1-(intOf s7).toNat)
 case atStart=>exact⟨0,by omega,rfl,Mod.refl _ _⟩
 case round=>
  obtain⟨q,hq,rfl,hm⟩:=hrel;have kp3:=hm.at0 kp3;have kg:=hm.at0 kg;have kg2:=hm.at0 kg2;by_cases h0:q=0
  ·subst h0;have hne:((i.toInt:Int) !=i.toInt)=false:=by simp
   go_upto_region 6 with fail;have Lkp3:=aA kp3;have Lkg:=aA kg;have Lkg2:=aA kg2;refine ZP [0,1,0,0,1,0,0,0,1,0] ?_
   iterate 10 first|refine Zv ?_|refine Zd ?_
   refine TD.nil (fun w2 hr=> ?_);replace kp3:=hr.q kp3;replace kg:=hr.q kg;replace kg2:=hr.q kg2;have m2:=hm.then0 hr.mod;clear hr;go_wp2_with fail;go_roundw
   case rel=>exact⟨1,by omega,by go_num,m2⟩
   case measure=>simp[intOf]
  ·obtain rfl:q=1:=by omega
   go_wp2_with fail;go_ret;exact⟨rfl,m1.then0 hm⟩
theorem Whole_c {w:World} {d n:Nat} {D:Dk} (kd:w.heap[d]? =some (.cells (iR D) 69 (0,0))) {fa ca:Option Addr} {fc cc:Nat} (hf:D.fv= .slice fa n fc) (hc:D.cv= .slice ca n cc) (sa:Option Addr) (sc:Nat) (room win bat fli:Int) (l1 l2 l3 fw:Value) (hold:Int) (own:Value):
  Calls Tryz.prog 12 #[ptrV d,.agg (sZ (.slice sa n sc) room win bat fli l1 l2 l3 fw hold own)] w fun e w'=>e= .returned (.bool true)∧Mod (fun _=>False) w w':=by
 unfold iR at kd;rw[hf,hc]at kd;unfold sZ;clear hf hc;go_enter Tryz.func12,Tryz.ntmps12;go_upto_region 0 with fail;have Lkd:=aA kd;refine ZP0 [3,0] ?_;refine Zb fun p3 hp3=> ?_;refine Zv ?_;refine TD.nil (fun w1 hr=> ?_);replace kd:=hr.q kd;obtain⟨gp3,kp3⟩:=hr.b p3;have m1:=hr.mod;clear hr;go_upto_region 1 with fail;have Lkd:=aA kd;have Lkp3:=aA kp3;refine ZP [0,0,0,0,0,0,1,0,0,0,0,0,0,1,0,0,0,0,0,0,1,0,0,0,0,0,0,1,0,0,0,0,0,0,1,0,0,0,0,0,0,1,0,0,1,0,0,0,0,0,0,0,1,0,0,1,0,0,0,0] ?_
 iterate 60 first|refine Zv ?_|refine Zd ?_
 refine TD.nil (fun w2 hr=> ?_);replace kd:=hr.q kd;replace kp3:=hr.q kp3;have m2:=m1.then0 hr.mod;clear hr;go_wp2_with fail;go_ret;exact⟨rfl,m2⟩
end
section
def RB (p:UInt64) (g k:UInt8) (v:Value):aL:=fun T w=>∃x:cS,v= .agg (bT x)∧x.con=qX p g k∧gL w x∧kA T x
theorem nC (p:UInt64) (g k:UInt8) (v:Value):aI (RB p g k v) where
 cl:=fun T w w' ⟨x,h1,h2,h3,h4⟩ hm=>⟨x,h1,h2,h3.mod hm h4 (fun i hi hn=>hn hi),h4⟩
 gr:=fun T T' w hT ⟨x,h1,h2,h3,h4⟩=>⟨x,h1,h2,h3,h4.mono hT⟩
theorem W7 (w:World) (T:Nat→Prop) (p:UInt64) (g k:UInt8):Calls Tryz.prog 27 #[u64v p,.int .u8 (g.toNat:Int),.int .u8 (k.toNat:Int)] w fun e w'=>∃v,e= .returned v∧Mod (fun _=>False) w w'∧RB p g k v (Grow T w w') w':=
 (I7 w p g k).mono fun e w' h=>by
  obtain⟨x,h1,h2,h3,h4,h5⟩:=h;exact⟨_,h1,h5,x,rfl,h2,h3,h4.mono (fun i hi=> .inr hi)⟩
def RA (b n:Nat) (S:List (Option It)) (v:Value):aL:=fun T w=>v= .tuple #[.int .i64 (n:Int),.slice none 0 0,.int .i64 0]∧BT b S T w
theorem nA (b n:Nat) (S:List (Option It)) (v:Value):aI (RA b n S v):=(aI.pure _).and (BT.good _ _)
theorem XE {T:Nat→Prop} {w:World} {b n:Nat} {S:List (Option It)} (h:BT b S T w) (htw:dS w) (hn:gA S n) {x:cS} (hx:gL w x) (hs:lJ x.con) (num:UInt64):Calls Tryz.prog 14 #[ptrV b,u64v num,.agg (bT x)] w fun e w'=>∃v,e= .returned v∧Mod T w w'∧RA b n (S.set n (some ⟨num,x.con,0,false⟩)) v (Grow T w w') w':=
 (N1 h.bh ⟨h.pos,fun h=>h.2 rfl⟩ htw hn hx hs num).mono fun e w' h2=>by
  obtain⟨h1,h3⟩:=h2;exact⟨_,h1,h3.mt,rfl,h3.bt h.pos⟩
theorem Q5 (p:UInt64) (g k:UInt8):lJ (qX p g k):=⟨by simp[qX],by simp[qX],by simp[qX],by simp[qX],fun y hy=>(by cases hy),by simp[qX],fun y hy=>(by cases hy),by simp[qX]⟩
theorem VT (w:World):(Instr.build 35 #[]).run Tryz.prog w= .ok (.agg (kc iC)) w:=by kernel_rfl
theorem TA:gF [] iC=[iC]:=by rfl
def R9 (S:List (Option It)):Pa:= {paN 60 2 with S:=S}
theorem VQ {T:Nat→Prop} {w:World} {b n:Nat} {S:List (Option It)} {p:UInt64} {g k:UInt8} {v:Value} (h:BT b S T w) (hv:RB p g k v T w) (htw:dS w) (hn:gA S n) (num:UInt64):Calls Tryz.prog 14 #[ptrV b,u64v num,v] w fun e w'=>∃v',e= .returned v'∧Mod T w w'∧RA b n (S.set n (some ⟨num,qX p g k,0,false⟩)) v' (Grow T w w') w':=by
 obtain⟨x,rfl,hc,hx,_⟩:=hv;have h1:=XE h htw hn hx (by rw[hc];exact Q5 p g k) num;rw[hc]at h1;exact h1
structure MJ (w:World) (X:Dm) (d:Nat) (S:List (Option It)) (T:Nat→Prop) (wx:World):Prop where
 s:bQ (dparts X d evE (R9 S)) T wx
 lt:∀a,T a→a<wx.heap.size
 up:∀a,T a→w.heap.size≤a
 m:Mod (fun _=>False) w wx
theorem MJ.go {w wx wy:World} {X:Dm} {d:Nat} {S S':List (Option It)} {T:Nat→Prop} (h:MJ w X d S T wx) (g:Goes (bQ (dparts X d evE (R9 S'))) T wx wy):∃T',MJ w X d S' T' wy:=by
 obtain⟨T',g1,g2,g3⟩:=g;refine⟨T',g1,b9 h.lt g2 g3,fun a ha=> ?_,h.m.then g2 (fun a hl ha=>by have:=h.up a ha;omega)⟩;rcases g3 a ha with k|k
 ·exact h.up a k
 ·exact aYb h.m.size k.1
def IP:List (Option It):=List.replicate 60 none
def D7:List (Option It):=IP.set 0 (some ⟨1,qX 9 1 50,0,false⟩)
def IQ:List (Option It):=D7.set 1 (some ⟨2,qX 5 2 50,0,false⟩)
theorem XU:gA IP 0:=⟨rfl,fun i hi=>by omega⟩
theorem XV:gA D7 1:=⟨rfl,fun i hi=>by
 obtain rfl:i=0:=by omega
 exact⟨_,rfl⟩⟩
theorem XW:gA IQ 2:=⟨rfl,fun i hi=>by
 rcases(by omega:i=0∨i=1)with rfl|rfl
 ·exact⟨_,rfl⟩
 ·exact⟨_,rfl⟩⟩
theorem LS {i:Nat} {x:It} (h:RE[i]? =some (some x)):x.r.ro.length≤800:=by
 have hm:=aZi h;unfold RE at hm;rcases aZc.1 hm with h|hm
 ·cases h;exact aY0 rfl
 ·rcases aZc.1 hm with h|hm
  ·cases h;exact aY0 rfl
  ·rcases aZc.1 hm with h|hm
   ·cases h;exact aY0 rfl
   ·have:=aXy hm;cases this
theorem QS:vE evE paE:=by
 have hop:∀b∈paE.op,b=[]:=fun b hb=>by
  have hb:b∈[([]:List Int64),[]]:=hb;simp at hb;exact hb
 have hla:∀q∈paE.la,q=[]:=fun q hq=>by
  have hq:q∈[([]:List (List Int64)),[]]:=hq;simp at hq;exact hq
 refine⟨⟨⟨?_,?_,aY0 rfl,fun x hx=>(by cases hx),aY0 rfl,fun i x h=>LS h,aY0 rfl⟩,aWn,by decide,by decide,by decide,rfl,rfl,fun x hx=>(by cases hx),fun y hy=>(by cases hy),fun b hb k hk=>(by rw[hop b hb]at hk;cases hk),fun b hb=>(by rw[hop b hb];exact aYf _),aY0 rfl,aY0 rfl,fun q hq=>(by rw[hla q hq];exact aY0 rfl),fun q hq=>(by rw[hla q hq];exact aY0 rfl),fun j=> ?_,aY0 rfl,fun k hk=>(by cases hk)⟩,by decide,by decide,by decide,rfl,rfl,rfl,rfl,rfl,rfl,rfl,rfl,rfl,rfl⟩
 ·show [_,_,_].Perm [_,_,_];exact List.Perm.cons _ (List.Perm.swap _ _ _)
 ·unfold u4;show List.Pairwise _ [_,_,_];decide
 ·show([0,0]:List Nat).getD j 0+3≤90000
  match j with
  |0=>decide
  |1=>decide
  |j+2=>
   show 0+3≤90000;decide
theorem FN {w wx:World} {X:Dm} {d:Nat} {T:Nat→Prop} (h:MJ w X d RE T wx) {E:Ev} (hE:E=⟨8,4,4,2,[4607182418800017408,4607182418800017408],[],[]⟩) (hX:RI X E (paN 60 2)) (htw:dS w):
  Calls Tryz.prog 10 #[ptrV d] wx fun e w'=>∃v,e= .returned v∧∃(ga da aa:Option Addr) (x0 x1 x2:Gv) (X2:Dm),v= .tuple #[.agg #[.slice ga 3 3,.slice da 0 0,.slice aa 0 0],.int .i64 0]∧aS gvc 2 w' ga [x0,x1,x2]∧(x0.w=0∧x1.w=0∧x2.w=1)∧(x0.n=1∧x1.n=1∧x2.n=1)∧
   aS ic 1 w' x0.a [idn 0]∧aS ic 1 w' x1.a [idn 1]∧aS ic 1 w' x2.a [idn 2]∧w'.heap[d]? =some (.cells (iR X2.D) 69 (0,0))∧X2.D.fv= .slice (some ⟨X2.fb,0,none⟩) 2 2∧X2.D.cv= .slice (some ⟨X2.cb,0,none⟩) 2 2∧
   w'.heap[X2.fb]? =some (.cells #[.int .i64 2,.int .i64 1] 3 (0,0))∧w'.heap[X2.cb]? =some (.cells #[.int .u64 200,.int .u64 100] 23 (0,0))∧Mod (fun _=>False) w w':=by
 subst hE;have hdk:BY d evE paE T wx:=⟨X,⟨⟨hX.win,hX.bat,hX.fli,hX.n1,hX.n2,hX.fv,hX.cv,hX.sv,hX.fl,hX.co,hX.sp,hX.la⟩,hX.cf⟩,h.s⟩;have h0:¬T 0:=fun ht=>by
  obtain⟨C,U,fr,t1,_⟩:=htw;have:=aA t1;have:=h.up 0 ht;omega
 refine(PY hdk h.lt h0 (htw.mod0 h.m) QS rfl).mono ?_;rintro e w' ⟨t,v,hr,rfl,hrep,T2,⟨X2,hX2,hS2⟩,m2,hT2⟩;have ht:=SB hr;subst ht;have hgi:=SA;have hfl:=WH;have hco:=WG;have hdr:=OT;obtain⟨ga,da,aa,G,rfl,s1,s2,s3,_,_⟩:=hrep;have hen:evE.n=2:=rfl;rw[hen]at s2 s3 hS2;generalize endP 2 (fillP evE paE2.D paE2)=u at *;rw[hgi]at s2 s3;obtain⟨x0,x1,x2,rfl⟩:∃x0 x1 x2,G=[x0,x1,x2]:=by
  have hl:=congrArg List.length s2;rw[aZs]at hl
  match G,hl with
  |[x0,x1,x2],_=>exact⟨x0,x1,x2,rfl⟩
 obtain⟨Td,⟨_,kd⟩,_⟩:=hS2.get (i:=0) rfl;obtain⟨T6,⟨_,kf⟩,_⟩:=hS2.get (i:=6) rfl;obtain⟨T7,⟨_,kc⟩,_⟩:=hS2.get (i:=7) rfl;dsimp only at kf kc;rw[hfl]at kf;rw[hco]at kc;injection s2 with e0 s2
 injection s2 with e1 s2
 injection s2 with e2 _
 obtain⟨p0,q0⟩:=s3 0 _ _ rfl rfl;obtain⟨p1,q1⟩:=s3 1 _ _ rfl rfl;obtain⟨p2,q2⟩:=s3 2 _ _ rfl rfl;exact⟨_,rfl,ga,da,aa,x0,x1,x2,X2,by rw[hen,SA,OT.1,OT.2];rfl,s1,⟨e0,e1,e2⟩,⟨p0,p1,p2⟩,q0,q1,q2,kd,hX2.fv,hX2.cv,kf,kc,h.m.then m2 (fun a hl ha=>by have:=h.up a ha;omega)⟩
theorem SQ (w:World) (b o:Nat):(Instr.loadAt 86 (.pointer (some ⟨b,o,none⟩))).run Tryz.prog w=
   match w.heap[b]? with
   |some (.cells cs _ _)=>if o+2≤cs.size then .ok (.agg (cs.extract o (o+2))) w else dU Tryz.prog w 86 b o
   |_=>dU Tryz.prog w 86 b o:=bL (d:=_) Tryz.underlying86 rfl (by kernel_rfl) w b o
theorem UH (dst:Option Tmp) (x:Operand) (ty:TypeId) (pos:String) (after:Array Edge) (g:Option (Nat×Bool)) (a:Act) (w:World) (K:Act→World→Prop) (Q:Exit→Act→World→Prop):
  Oper.wp Tryz.prog {dst:=dst,op:= .load 86 x,type:=ty,pos:=pos,after:=after,guard:=g} a w K Q=
   (match a.eval x with
   | .pointer (some ⟨b,o,none⟩)=>
    (match w.heap[b]? with
    |some (.cells cs _ _)=>if o+2≤cs.size then K (a.put dst (.agg (cs.extract o (o+2)))) w else gN Tryz.prog {dst:=dst,op:= .load 86 x,type:=ty,pos:=pos,after:=after,guard:=g} a w K Q
    |_=>gN Tryz.prog {dst:=dst,op:= .load 86 x,type:=ty,pos:=pos,after:=after,guard:=g} a w K Q)
   |_=>gN Tryz.prog {dst:=dst,op:= .load 86 x,type:=ty,pos:=pos,after:=after,guard:=g} a w K Q):=d7 (d:=_) Tryz.underlying86 rfl (by kernel_rfl) dst x ty pos after g a w K Q
attribute [local go_sem↓] UH SQ r9 BM
theorem PP (w:World) (i:Int64):aS ic 1 (w.alloc (.cells #[.int .i64 i.toInt] 3)) (some ⟨w.heap.size,0,none⟩) [i]:=aS.one (heap_alloc_new _ _) i rfl rfl
theorem lives_c (w:World) (htw:dS w):Calls Tryz.prog 9 #[] w fun e w'=>e= .returned (.bool true)∧Mod (fun _=>False) w w':=by
 have HTW:=Hi htw;have hb0:=VT;clear htw;go_enter Tryz.func9,Tryz.ntmps9;go_wp2_with fail;go_at_call 26;refine(plain_c w 2 (by omega)).mono ?_;rintro e w1 ⟨sa,sc,oa,rfl,hsp,how,m1⟩;have HN:=Hi (GO w1 sa (List.replicate 2 4607182418800017408) sc hsp 60 8 4 4 0 0 0 0 0 oa [true] 1 how (by decide) (by decide));have M1:=Hi m1;clear hsp how m1;go_wp2_with fail;go_at_call 11;refine HN.out.mono ?_;rintro e w2 ⟨d,rfl,⟨T,hD,hT⟩,m2⟩;have M2:=Hi (M1.out.trans m2);have HD:=Hi (Ai hD hT);clear hD hT m2 HN;go_wp2_with fail;go_at_call 26;refine(plain_c w2 2 (by omega)).mono ?_;rintro e w3 ⟨sa2,sc2,oa2,rfl,-,-,m3⟩;obtain⟨hD,hT⟩:=HD.out;have hD3:=(BY.good _ _ _).cl _ _ _ hD (m3.mono (fun _ _ h=>h.elim));obtain⟨X,hX,hS⟩:=hD3;obtain⟨Td,⟨td,kd⟩,sd⟩:=hS.get (i:=0) rfl;have HW:=Hi (Whole_c (n:=2) kd hX.fv hX.cv sa2 sc2 60 8 4 4 (u64v 0) (u64v 0) (u64v 0) (u64v 0) 0 (.slice oa2 1 1));have H3:=Hi (Ai hX (Ai hS (Ai (M2.out.trans m3) (Ai (fun a (ha:T a)=>aZd (hT a ha).2 m3.size) (sd d td)))));have HT:=Hi (fun a (ha:T a)=>aYb M1.out.size (hT a ha).1);clear hD hT hX hS sd td m3 HD kd;go_wp2_with fail;go_at_call 12;refine HW.out.mono ?_;rintro e w4 ⟨rfl,m4⟩;obtain⟨hX,hS,hm,hlt,hdT⟩:=H3.out;have hS4:=hS.mod0 (dparts.good X d _ _) m4;have hlt4:∀a,T a→a<w4.heap.size:=fun a ha=>aZd (hlt a ha) m4.size;obtain⟨Td,⟨td,kd⟩,sd⟩:=hS4.get (i:=0) rfl;obtain⟨E1,hE1⟩:∃E1:Ev,E1=evE:=⟨_,rfl⟩;have hpush:Hid (Calls Tryz.prog 13 #[ptrV X.D.q,.agg (kc iC)] w4 fun e w'=>(∃v,e= .returned v)∧Goes (bQ (dparts X d evE (paN 60 2))) T w4 w'):=Hi (by
  exact bQ.callX (R:=fun e _=>∃v,e= .returned v) (dparts.good X d _ _) hlt4 hS4 (i:=2) (K:=sO X.D.q []) (K':=sO X.D.q [iC]) rfl (fun T3 hsub ht hg=>(AZ X.D.q [] iC w4 hg.1).mono (fun e w' h=>⟨h.1,Goes.into ⟨by rw[←TA];exact h.2.1,hg.2⟩ (h.2.2.mono (fun a _ ha=>by rw[ha];exact hg.2))⟩)))
 have H4:=Hi (Ai (hm.trans m4) (Ai hlt4 hX));unfold iR at kd;clear hX hS hm hlt hdT hS4 hlt4 td sd m4;go_wp2_with fail;go_at_call 13;refine hpush.out.mono ?_;rintro e w5 ⟨⟨v5,rfl⟩,hgo⟩;have hL5:Hid (∃T,MJ w X d IP T w5):=Hi (by
  obtain⟨T5,hS5,hm5,hT5⟩:=hgo;obtain⟨hm,hlt,hX⟩:=H4.out;have hup:=HT.out;refine⟨T5,hS5,b9 hlt hm5 hT5,fun a ha=> ?_,hm.then hm5 (fun a hl ha=>by have:=hup a ha;omega)⟩;rcases hT5 a ha with h|h
  ·exact hup a h
  ·exact aYb hm.size h.1)
 clear hgo hpush kd;obtain⟨T5,hL⟩:=hL5.out;obtain⟨Ts,h1,h2,h3⟩:=hL.s;have hd0:CeL d (iR X.D) 69 (Ts 0) w5:=h1 0 _ rfl;have hb0:BT X.D.b IP (Ts 1) w5:=h1 1 _ rfl;have kd:=hd0.2;obtain⟨W,hW⟩:∃W,Ts 1=W:=⟨_,rfl⟩;rw[hW]at hb0;have nWd:¬W d:=by rw[←hW];exact h3 0 1 d (by decide) hd0.1
 have HB:=Hi hb0;have HWL:Hid (∀i,W i→i<w5.heap.size):=Hi (fun i hi=>hL.lt i (h2 1 i (by rw[hW];exact hi)));have HW0:Hid (dS w5∧¬W 0):=Hi ⟨HTW.out.mod0 hL.m,fun h=>by
  obtain⟨C,U,fr,t1,_⟩:=HTW.out;have:=aA t1;have:=hL.up 0 (h2 1 0 (by rw[hW];exact h));omega⟩
 have HL:=Hi (Ai hL (Ai h1 (Ai h2 (Ai h3 hW))));unfold iR at kd;clear hL h1 h2 h3 hW hd0 hb0 hL5;go_upto_region 5 with fail;have Lkd:=aA kd;refine cJ (T0:=W) (K:=BT X.D.b IP) (κ:=fun i=>[0,0,0,0,6,6,0,0,0,0,0,0,0].getD i 0) (υ:=fun _=>[]) [0,1,2,3,4,5,6,7,8,9,10,11,12] (by kernel_rfl) (by kernel_rfl) (BT.good X.D.b IP).cl (HB.out) (HWL.out) ?_;have gK:=BT.good X.D.b IP
 iterate 3 refine Zg ?_
 (refine Zk ?_ (hy:=by intro wq hSq;have kdq:=hSq.atn kd;go_simp;try with_reducible rfl));(refine ZJ (RB 9 1 50) (nC 9 1 50) gK ?_ (s:=fun T wq kq ltq hSq ub=>by have kdq:=hSq.atn kd;exact W7 wq T 9 1 50);rintro v5 ⟨wI,TI,hI⟩;replace gK:=gK.and ((nC 9 1 50) v5);(obtain⟨_,x,rfl,_⟩:=hI.k);(try clear hI TI wI);try simp only[zL]);(refine TG.callK (f:= ?f6) (args:= ?r6) (RA X.D.b 0 (IP.set 0 (some ⟨1,qX 9 1 50,0,false⟩))) (nA X.D.b 0 (IP.set 0 (some ⟨1,qX 9 1 50,0,false⟩))) (by simp only[zK];rfl) rfl (by rfl) (fun w1=> ?y6) (fun T wq kq ltq hSq ub=> ?hsp6) ?n6;(case y6=>(go_simp;(first|with_reducible rfl|(constructor<;>with_reducible rfl))));(case hsp6=>(have kdq:=hSq.atn kd;exact VQ kq.1 kq.2 (HW0.out.1.mod hSq HW0.out.2) XU 1));rintro v6 ⟨wI,TI,hI⟩;replace gK:=(nA X.D.b 0 (IP.set 0 (some ⟨1,qX 9 1 50,0,false⟩))) v6;(obtain⟨rfl,_⟩:=hI.k);(try clear hI TI wI);try simp only[zL])
 iterate 7 refine Zg ?_
 refine TG.nil (fun w6 ⟨TR,hr⟩=> ?_);replace kd:=hr.mod.atn kd;clear gK;have hL6:Hid (∃T,MJ w X d (D7) T w6):=Hi (by
  obtain⟨hL,h1,h2,h3,hW⟩:=HL.out;refine hL.go ?_;obtain⟨g1,g2⟩:=bQ.step (dparts.good X d evE (R9 IP)) hL.lt (i:=1) (by simp[dparts]) h1 h2 h3 (K':=BT X.D.b (D7)) (Ts:=Ts) (by
   rw[hW];exact⟨TR,hr.k.2,hr.mod,fun a ha=>by
    rcases aYt a w5.heap.size with h|h
    ·exact .inl (hr.old a h ha)
    ·exact .inr ⟨h,hr.lt a ha⟩⟩)
  exact⟨_,g1,g2,fun _ h=>h⟩)
 clear hr kd nWd HB HWL HW0 HL;obtain⟨T6,hL⟩:=hL6.out;obtain⟨Ts,h1,h2,h3⟩:=hL.s;have hd0:CeL d (iR X.D) 69 (Ts 0) w6:=h1 0 _ rfl;have hb0:BT X.D.b D7 (Ts 1) w6:=h1 1 _ rfl;have kd:=hd0.2;obtain⟨W,hW⟩:∃W,Ts 1=W:=⟨_,rfl⟩;rw[hW]at hb0;have nWd:¬W d:=by rw[←hW];exact h3 0 1 d (by decide) hd0.1
 have HB:=Hi hb0;have HWL:Hid (∀i,W i→i<w6.heap.size):=Hi (fun i hi=>hL.lt i (h2 1 i (by rw[hW];exact hi)));have HW0:Hid (dS w6∧¬W 0):=Hi ⟨HTW.out.mod0 hL.m,fun h=>by
  obtain⟨C,U,fr,t1,_⟩:=HTW.out;have:=aA t1;have:=hL.up 0 (h2 1 0 (by rw[hW];exact h));omega⟩
 have HL:=Hi (Ai hL (Ai h1 (Ai h2 (Ai h3 hW))));unfold iR at kd;clear hL h1 h2 h3 hW hd0 hb0 hL6;go_upto_region 6 with fail;have Lkd:=aA kd;refine cJ (T0:=W) (K:=BT X.D.b D7) (κ:=fun i=>[0,0,0,0,6,6,0,0,0,0,0,0,0].getD i 0) (υ:=fun _=>[]) [0,1,2,3,4,5,6,7,8,9,10,11,12] (by kernel_rfl) (by kernel_rfl) (BT.good X.D.b D7).cl (HB.out) (HWL.out) ?_;have gK:=BT.good X.D.b D7
 iterate 3 refine Zg ?_
 (refine Zk ?_ (hy:=by intro wq hSq;have kdq:=hSq.atn kd;go_simp;try with_reducible rfl));(refine ZJ (RB 5 2 50) (nC 5 2 50) gK ?_ (s:=fun T wq kq ltq hSq ub=>by have kdq:=hSq.atn kd;exact W7 wq T 5 2 50);rintro v18 ⟨wI,TI,hI⟩;replace gK:=gK.and ((nC 5 2 50) v18);(obtain⟨_,x,rfl,_⟩:=hI.k);(try clear hI TI wI);try simp only[zL]);(refine TG.callK (f:= ?f19) (args:= ?r19) (RA X.D.b 1 (D7.set 1 (some ⟨2,qX 5 2 50,0,false⟩))) (nA X.D.b 1 (D7.set 1 (some ⟨2,qX 5 2 50,0,false⟩))) (by simp only[zK];rfl) rfl (by rfl) (fun w1=> ?y19) (fun T wq kq ltq hSq ub=> ?hsp19) ?n19;(case y19=>(go_simp;(first|with_reducible rfl|(constructor<;>with_reducible rfl))));(case hsp19=>(have kdq:=hSq.atn kd;exact VQ kq.1 kq.2 (HW0.out.1.mod hSq HW0.out.2) XV 2));rintro v19 ⟨wI,TI,hI⟩;replace gK:=(nA X.D.b 1 (D7.set 1 (some ⟨2,qX 5 2 50,0,false⟩))) v19;(obtain⟨rfl,_⟩:=hI.k);(try clear hI TI wI);try simp only[zL])
 iterate 7 refine Zg ?_
 refine TG.nil (fun w7 ⟨TR,hr⟩=> ?_);replace kd:=hr.mod.atn kd;clear gK;have hL7:Hid (∃T,MJ w X d (IQ) T w7):=Hi (by
  obtain⟨hL,h1,h2,h3,hW⟩:=HL.out;refine hL.go ?_;obtain⟨g1,g2⟩:=bQ.step (dparts.good X d evE (R9 D7)) hL.lt (i:=1) (by simp[dparts]) h1 h2 h3 (K':=BT X.D.b (IQ)) (Ts:=Ts) (by
   rw[hW];exact⟨TR,hr.k.2,hr.mod,fun a ha=>by
    rcases aYt a w6.heap.size with h|h
    ·exact .inl (hr.old a h ha)
    ·exact .inr ⟨h,hr.lt a ha⟩⟩)
  exact⟨_,g1,g2,fun _ h=>h⟩)
 clear hr kd nWd HB HWL HW0 HL;obtain⟨T7,hL⟩:=hL7.out;obtain⟨Ts,h1,h2,h3⟩:=hL.s;have hd0:CeL d (iR X.D) 69 (Ts 0) w7:=h1 0 _ rfl;have hb0:BT X.D.b IQ (Ts 1) w7:=h1 1 _ rfl;have kd:=hd0.2;obtain⟨W,hW⟩:∃W,Ts 1=W:=⟨_,rfl⟩;rw[hW]at hb0;have nWd:¬W d:=by rw[←hW];exact h3 0 1 d (by decide) hd0.1
 have HB:=Hi hb0;have HWL:Hid (∀i,W i→i<w7.heap.size):=Hi (fun i hi=>hL.lt i (h2 1 i (by rw[hW];exact hi)));have HW0:Hid (dS w7∧¬W 0):=Hi ⟨HTW.out.mod0 hL.m,fun h=>by
  obtain⟨C,U,fr,t1,_⟩:=HTW.out;have:=aA t1;have:=hL.up 0 (h2 1 0 (by rw[hW];exact h));omega⟩
 have HL:=Hi (Ai hL (Ai h1 (Ai h2 (Ai h3 hW))));unfold iR at kd;clear hL h1 h2 h3 hW hd0 hb0 hL7;go_upto_region 7 with fail;have Lkd:=aA kd;refine cJ (T0:=W) (K:=BT X.D.b IQ) (κ:=fun i=>[0,0,0,0,6,6,0,0,0,0,0,0,0].getD i 0) (υ:=fun _=>[]) [0,1,2,3,4,5,6,7,8,9,10,11,12] (by kernel_rfl) (by kernel_rfl) (BT.good X.D.b IQ).cl (HB.out) (HWL.out) ?_;have gK:=BT.good X.D.b IQ
 iterate 3 refine Zg ?_
 (refine Zk ?_ (hy:=by intro wq hSq;have kdq:=hSq.atn kd;go_simp;try with_reducible rfl));(refine ZJ (RB 7 3 51) (nC 7 3 51) gK ?_ (s:=fun T wq kq ltq hSq ub=>by have kdq:=hSq.atn kd;exact W7 wq T 7 3 51);rintro v31 ⟨wI,TI,hI⟩;replace gK:=gK.and ((nC 7 3 51) v31);(obtain⟨_,x,rfl,_⟩:=hI.k);(try clear hI TI wI);try simp only[zL]);(refine TG.callK (f:= ?f32) (args:= ?r32) (RA X.D.b 2 (IQ.set 2 (some ⟨3,qX 7 3 51,0,false⟩))) (nA X.D.b 2 (IQ.set 2 (some ⟨3,qX 7 3 51,0,false⟩))) (by simp only[zK];rfl) rfl (by rfl) (fun w1=> ?y32) (fun T wq kq ltq hSq ub=> ?hsp32) ?n32;(case y32=>(go_simp;(first|with_reducible rfl|(constructor<;>with_reducible rfl))));(case hsp32=>(have kdq:=hSq.atn kd;exact VQ kq.1 kq.2 (HW0.out.1.mod hSq HW0.out.2) XW 3));rintro v32 ⟨wI,TI,hI⟩;replace gK:=(nA X.D.b 2 (IQ.set 2 (some ⟨3,qX 7 3 51,0,false⟩))) v32;(obtain⟨rfl,_⟩:=hI.k);(try clear hI TI wI);try simp only[zL])
 iterate 7 refine Zg ?_
 refine TG.nil (fun w8 ⟨TR,hr⟩=> ?_);replace kd:=hr.mod.atn kd;clear gK;have hL8:Hid (∃T,MJ w X d (RE) T w8):=Hi (by
  obtain⟨hL,h1,h2,h3,hW⟩:=HL.out;refine hL.go ?_;obtain⟨g1,g2⟩:=bQ.step (dparts.good X d evE (R9 IQ)) hL.lt (i:=1) (by simp[dparts]) h1 h2 h3 (K':=BT X.D.b (RE)) (Ts:=Ts) (by
   rw[hW];exact⟨TR,hr.k.2,hr.mod,fun a ha=>by
    rcases aYt a w7.heap.size with h|h
    ·exact .inl (hr.old a h ha)
    ·exact .inr ⟨h,hr.lt a ha⟩⟩)
  exact⟨_,g1,g2,fun _ h=>h⟩)
 clear hr kd nWd HB HWL HW0 HL;have HPS:Hid (Calls Tryz.prog 10 #[ptrV d] w8 fun e w'=>∃v,e= .returned v∧∃(ga da aa:Option Addr) (x0 x1 x2:Gv) (X2:Dm),v= .tuple #[.agg #[.slice ga 3 3,.slice da 0 0,.slice aa 0 0],.int .i64 0]∧aS gvc 2 w' ga [x0,x1,x2]∧(x0.w=0∧x1.w=0∧x2.w=1)∧(x0.n=1∧x1.n=1∧x2.n=1)∧
   aS ic 1 w' x0.a [idn 0]∧aS ic 1 w' x1.a [idn 1]∧aS ic 1 w' x2.a [idn 2]∧w'.heap[d]? =some (.cells (iR X2.D) 69 (0,0))∧X2.D.fv= .slice (some ⟨X2.fb,0,none⟩) 2 2∧X2.D.cv= .slice (some ⟨X2.cb,0,none⟩) 2 2∧
   w'.heap[X2.fb]? =some (.cells #[.int .i64 2,.int .i64 1] 3 (0,0))∧w'.heap[X2.cb]? =some (.cells #[.int .u64 200,.int .u64 100] 23 (0,0))∧Mod (fun _=>False) w w'):=Hi (by
  obtain⟨T8,hL⟩:=hL8.out;exact FN hL rfl H4.out.2.2 HTW.out)
 clear hL8;go_upto_region 10 with fail;refine region_seq 8 rfl ?_;simp only[List.range,List.range.loop];refine Zq ?_;(refine iG (by simp only[zK];rfl) (by rfl) ?y41 (HPS.out) (fun vn w9 hR=> ?n41);(case y41=>(go_simp;(try(first|with_reducible rfl|(constructor<;>with_reducible rfl))))))
 (obtain⟨ga,da,aa,x0,x1,x2,X2,rfl,s1,⟨e0,e1,e2⟩,⟨p0,p1,p2⟩,q0,q1,q2,kd,hf,hc,kf,kc,m9⟩:=hR)
 (try simp only[zL])
 iterate 3 refine Zq ?_
 (refine qK (by simp only[zK];rfl) (by rfl) rfl vI (fun p12 wn gp12 kp12 mp12=> ?n45);try simp only[zL]);refine ZT ?_;refine ZQ kp12 fun wn kp12 mS=> ?_;refine Zq ?_;refine jT ?_;obtain⟨w10,hw10⟩:∃w10,wn=w10:=⟨_,rfl⟩;rw[hw10]at kp12 mS⊢;clear hw10;obtain⟨j0,a0,n0,c0⟩:=x0;obtain⟨j1,a1,n1,c1⟩:=x1;obtain⟨j2,a2,n2,c2⟩:=x2;dsimp only at e0 e1 e2 p0 p1 p2 q0 q1 q2;subst e0 e1 e2 p0 p1 p2;have kp12:w10.heap[p12]? =some (.cells #[.slice ga 3 3,.slice da 0 0,.slice aa 0 0] 55 (0,0)):=by simpa using kp12
 have m10:Mod (fun _=>False) w9 w10:=mp12.then mS (fun x hx e=>by omega);have hM10:=Hi (m9.trans m10);have kd:=m10.at0 kd;have kf:=m10.at0 kf;have kc:=m10.at0 kc;have HQ:=Hi (Ai (q0.mod0 m10) (Ai (q1.mod0 m10) (q2.mod0 m10)));obtain⟨g,o,C,U,fr,e,kg,hx0,hl0⟩:=(s1.mod0 m10).block (i:=0) rfl;obtain⟨g',o',C',U',fr',e',kg',hx1,hl1⟩:=(s1.mod0 m10).block (i:=1) rfl;obtain⟨g'',o'',C'',U'',fr'',e'',kg'',hx2,hl2⟩:=(s1.mod0 m10).block (i:=2) rfl;rw[e]at e' e'';cases e';cases e'';rw[kg]at kg' kg'';cases kg';cases kg'';subst e;have HDK:=Hi (Ai kd (Ai hf hc));have kd2:=kd;unfold iR at kd;rw[hf,hc]at kd;have HX:=Hi (Ai hx0 (Ai hx1 hx2));have hb1:o+2≤C.size:=by omega
 have hb2:o+2+2≤C.size:=by omega
 have hb3:o+4+2≤C.size:=by omega
 clear q0 q1 q2 s1 hx0 hx1 hx2 hl0 hl1 hl2 kd2 hf hc m10 m9 mp12 mS;have e1:C.extract o (o+2)= #[.int .i64 0,.slice a0 1 c0]:=by simpa[gvc] using HX.out.1
 have e2:C.extract (o+2) (o+2+2)= #[.int .i64 0,.slice a1 1 c1]:=by simpa[gvc] using HX.out.2.1
 have e3:C.extract (o+4) (o+4+2)= #[.int .i64 1,.slice a2 1 c2]:=by simpa[gvc] using HX.out.2.2
 have E3:=Hi (Ai e1 (Ai e2 e3));clear e1 e2 e3;go_wp2_with fail;rw[E3.out.1];go_at_call 28;have ma:Mod (fun _=>False) w10 (w10.alloc (.cells #[.int .i64 0] 3)):=(Mod.refl _ _).alloc _;refine(sV (w10.alloc (.cells #[.int .i64 0] 3)) a0 _ 0 (idn 0) c0 (HQ.out.1.mod0 ma) (PP w10 (idn 0))).mono ?_;rintro e w11 ⟨rfl,mb⟩;have m:=ma.then0 mb;clear ma mb;have HQ:=Hi (Ai (HQ.out.1.mod0 m) (Ai (HQ.out.2.1.mod0 m) (HQ.out.2.2.mod0 m)));have kp12:=m.at0 kp12;have kd:=m.at0 kd;have kf:=m.at0 kf;have kc:=m.at0 kc;have kg:=m.at0 kg;have HDK:=Hi (Ai (m.at0 HDK.out.1) HDK.out.2);have hM11:=Hi (hM10.out.then0 m);clear m;go_wp2_with fail;go_at_call 26;refine(plain_c w11 2 (by omega)).mono ?_;rintro e w12 ⟨sa3,sc3,oa3,rfl,-,-,m⟩;have HQ:=Hi (Ai (HQ.out.1.mod0 m) (Ai (HQ.out.2.1.mod0 m) (HQ.out.2.2.mod0 m)));have kp12:=m.at0 kp12;have kd:=m.at0 kd;have kf:=m.at0 kf;have kc:=m.at0 kc;have kg:=m.at0 kg;have HDK:=Hi (Ai (m.at0 HDK.out.1) HDK.out.2);have hM12:=Hi (hM11.out.then0 m);clear m;go_wp2_with fail;go_at_call 12;refine(Whole_c (n:=2) HDK.out.1 HDK.out.2.1 HDK.out.2.2 sa3 sc3 60 8 4 4 (u64v 0) (u64v 0) (u64v 0) (u64v 0) 0 (.slice oa3 1 1)).mono ?_;rintro e w13 ⟨rfl,m⟩;have HQ:=Hi (Ai (HQ.out.1.mod0 m) (Ai (HQ.out.2.1.mod0 m) (HQ.out.2.2.mod0 m)));have kp12:=m.at0 kp12;have kd:=m.at0 kd;have kf:=m.at0 kf;have kc:=m.at0 kc;have kg:=m.at0 kg;have HDK:=Hi (Ai (m.at0 HDK.out.1) HDK.out.2);have hM13:=Hi (hM12.out.then0 m);clear m;go_wp2_with fail;rw[E3.out.2.1];go_at_call 28;have ma:Mod (fun _=>False) w13 (w13.alloc (.cells #[.int .i64 1] 3)):=(Mod.refl _ _).alloc _;refine(sV (w13.alloc (.cells #[.int .i64 1] 3)) a1 _ 0 (idn 1) c1 (HQ.out.2.1.mod0 ma) (PP w13 (idn 1))).mono ?_;rintro e w14 ⟨rfl,mb⟩;have m:=ma.then0 mb;clear ma mb;have HQ:=Hi (Ai (HQ.out.1.mod0 m) (Ai (HQ.out.2.1.mod0 m) (HQ.out.2.2.mod0 m)));have kp12:=m.at0 kp12;have kd:=m.at0 kd;have kf:=m.at0 kf;have kc:=m.at0 kc;have kg:=m.at0 kg;have HDK:=Hi (Ai (m.at0 HDK.out.1) HDK.out.2);have hM14:=Hi (hM13.out.then0 m);clear m;go_wp2_with fail;rw[E3.out.2.2];go_at_call 28;have ma:Mod (fun _=>False) w14 (w14.alloc (.cells #[.int .i64 2] 3)):=(Mod.refl _ _).alloc _;refine(sV (w14.alloc (.cells #[.int .i64 2] 3)) a2 _ 1 (idn 2) c2 (HQ.out.2.2.mod0 ma) (PP w14 (idn 2))).mono ?_;rintro e w15 ⟨rfl,mb⟩;have m:=ma.then0 mb;clear ma mb;have HQ:=Hi (Ai (HQ.out.1.mod0 m) (Ai (HQ.out.2.1.mod0 m) (HQ.out.2.2.mod0 m)));have kp12:=m.at0 kp12;have kd:=m.at0 kd;have kf:=m.at0 kf;have kc:=m.at0 kc;have kg:=m.at0 kg;have HDK:=Hi (Ai (m.at0 HDK.out.1) HDK.out.2);have hM15:=Hi (hM14.out.then0 m);clear m;go_wp2_with fail;go_ret;exact⟨rfl,hM15.out⟩
end
section
attribute [local go_sem↓] jX iD jV
attribute [local go_sem] bF dE dW fM lA oU
theorem F6 {w:World} {a:Option Addr} {l:List oC} (h:aS inr 3 w a l) {i:Nat} {x:oC} (hx:l[i]? =some x):∃g o C U fr,a=some ⟨g,o,none⟩∧w.heap[g]? =some (.cells C U fr)∧C[o+i*3+1]? =some (.slice x.a.a x.a.l.length x.a.c)∧C[o+i*3+2]? =some (.slice x.d.a x.d.l.length x.d.c):=by
 obtain⟨g,o,C,U,fr,rfl,hk,he,_⟩:=h.block hx;exact⟨g,o,C,U,fr,rfl,hk,kF he (j:=1) rfl,kF he (j:=2) rfl⟩
theorem GE {w:World} {a:Option Addr} {l:List oM} (h:aS lor 34 w a l) {i:Nat} {x:oM} (hx:l[i]? =some x):∃g o C U fr,a=some ⟨g,o,none⟩∧w.heap[g]? =some (.cells C U fr)∧C[o+i*34+32]? =some (.slice x.w.a x.w.l.length x.w.c)∧C[o+i*34+33]? =some (.slice x.r.a x.r.l.length x.r.c):=by
 obtain⟨g,o,C,U,fr,rfl,hk,he,_⟩:=h.block hx;exact⟨g,o,C,U,fr,rfl,hk,kF he (j:=32) (pW _ _ 0),kF he (j:=33) (pW _ _ 1)⟩
def GrR (p:Prop) (w:World) (e:Ending) (w':World):Prop:=∃b,e= .returned (.bool b)∧(b=false→p)∧Mod (fun _=>False) w w'
theorem GrR.of {p:Prop} {w:World} {e:Ending} {w':World} (b:Bool) (he:e= .returned (.bool b)) (hp:b=false→p) (hm:Mod (fun _=>False) w w'):GrR p w e w':=⟨b,he,hp,hm⟩
theorem G5 (x:cS):(bT x)[0]? =some (.slice x.b.a x.b.l.length x.b.c):=jM (i:=0) (by simp[cX])
theorem LF (x:cS) (h:0<(bT x).size):(bT x)[0]= .slice x.b.a x.b.l.length x.b.c:=aU (G5 x) h
theorem G6 (x:cS):(bT x)[1]? =some (.slice x.sg.a x.sg.l.length x.sg.c):=jM (i:=1) (by simp[cX])
theorem LG (x:cS) (h:1<(bT x).size):(bT x)[1]= .slice x.sg.a x.sg.l.length x.sg.c:=aU (G6 x) h
theorem G9 (x:cS):(bT x)[6]? =some (.slice x.ks.a x.ks.l.length x.ks.c):=jM (i:=6) (by simp[cX])
theorem LH (x:cS) (h:6<(bT x).size):(bT x)[6]= .slice x.ks.a x.ks.l.length x.ks.c:=aU (G9 x) h
theorem BB (x:cS):(bT x)[39]? =some (.slice x.ins.a x.ins.l.length x.ins.c):=eY (pre:=cX x) 0
theorem G7 (x:cS) (h:39<(bT x).size):(bT x)[39]= .slice x.ins.a x.ins.l.length x.ins.c:=aU (BB x) h
theorem BC (x:cS):(bT x)[40]? =some (.slice x.lks.a x.lks.l.length x.lks.c):=eY (pre:=cX x) 1
theorem G8 (x:cS) (h:40<(bT x).size):(bT x)[40]= .slice x.lks.a x.lks.l.length x.lks.c:=aU (BC x) h
attribute [local go_sem] G5 LF G6 LG G9 LH BB G7 BC G8
structure JQ (x:cS):Prop where
 b:x.b.l.length≤140737488355328
 ro:x.ro.l.length≤140737488355328
 sg:x.sg.l.length≤140737488355328
 ks:x.ks.l.length≤140737488355328
 ins:x.ins.l.length≤140737488355328
 lks:x.lks.l.length≤140737488355328
 insB:∀y∈x.ins.l,y.a.l.length≤140737488355328∧y.d.l.length≤140737488355328
 lksB:∀y∈x.lks.l,y.w.l.length≤140737488355328∧y.r.l.length≤140737488355328
theorem eB {a b:Nat} (ha:a≤4503599627370496) (hb:b≤4503599627370496):IntKind.i64.wrap ((a:Int)+(b:Int))=((a+b:Nat):Int):=by
 rw[IntKind.wrap_i64];omega
theorem great15_c (x:cS) (w:World) (hi:aS inr 3 w x.ins.a x.ins.l) (hk:aS lor 34 w x.lks.a x.lks.l) (hle:JQ x):
  Calls Tryz.prog 8 #[.agg (bT x)] w (GrR (lJ x.con∧x.ro.l.length≤300) w):=by
 have HI:=Hi hi;have HK:=Hi hk;obtain⟨b1,b2,b3,b4,b5,b6,b7,b8⟩:=hle;have HB:=Hi (Ai b7 b8);clear hi hk b7 b8;go_enter Tryz.func8,Tryz.ntmps8;go_upto_region 0 with fail;refine ZP0 [3,0] ?_;refine Zb fun p1 hp1=> ?_;refine Zv ?_;refine TD.nil (fun w1 hr=> ?_);obtain⟨gp1,kp1⟩:=hr.b p1;have m1:=hr.mod;clear hr;have e1:=eB (a:=x.b.l.length) (b:=x.ro.l.length) (by omega) (by omega);obtain⟨n1,hn1⟩:∃n1,x.b.l.length+x.ro.l.length=n1:=⟨_,rfl⟩;rw[hn1]at e1;have e2:=eB (a:=n1) (b:=x.sg.l.length) (by omega) (by omega);obtain⟨n2,hn2⟩:∃n2,n1+x.sg.l.length=n2:=⟨_,rfl⟩;rw[hn2]at e2;have e3:=eB (a:=n2) (b:=x.ks.l.length) (by omega) (by omega);obtain⟨n3,hn3⟩:∃n3,n2+x.ks.l.length=n3:=⟨_,rfl⟩;rw[hn3]at e3;have e4:=eB (a:=n3) (b:=x.ins.l.length) (by omega) (by omega);obtain⟨n4,hn4⟩:∃n4,n3+x.ins.l.length=n4:=⟨_,rfl⟩;rw[hn4]at e4;have e5:=eB (a:=n4) (b:=x.lks.l.length) (by omega) (by omega);obtain⟨n5,hn5⟩:∃n5,n4+x.lks.l.length=n5:=⟨_,rfl⟩;rw[hn5]at e5;have H5:=Hi (Ai hn1 (Ai hn2 (Ai hn3 (Ai hn4 hn5))));have hbig:n5≤1000000000000000:=by omega
 clear hn1 hn2 hn3 hn4 hn5;go_upto_region 1 with fail;have Lkp1:=aA kp1;refine ZP0 [0,1,0,0,1,0,0,0,0,1,0,0,0,0,0,1,0,0,0,0,0,1,0,0,0,0,0,1,0,0,0] ?_
 iterate 31 first|refine Zv ?_|refine Zd ?_
 refine TD.nil (fun w2 hr=> ?_);replace kp1:=hr.q kp1;have m2:=m1.then0 hr.mod;have KP:=Hi kp1;have HS:Hid (n5≤n5∧∀y∈x.ins.l.take 0,y.a.l.length≤n5∧y.d.l.length≤n5):=Hi ⟨aZq _,fun y hy=>by rw[List.take_zero]at hy;cases hy⟩;clear hr m1 e1 e2 e3 e4 e5;go_wp2_with fail;go_loopw [3,4] (fun s3 s4 ws=>∃(i n:Nat),i≤x.ins.l.length∧n≤1000000000000000∧s3= .int .i64 (n:Int)∧s4= .int .i64 (i:Int)∧Hid (n5≤n∧∀y∈x.ins.l.take i,y.a.l.length≤n∧y.d.l.length≤n)∧Mod (fun _=>False) w2 ws) (fun _ s4 _=>x.ins.l.length-(intOf s4).toNat)
 case atStart=>exact⟨0,n5,by omega,hbig,rfl,rfl,HS,Mod.refl _ _⟩
 case round=>
  obtain⟨i,n,hi,hnb,rfl,rfl,HN,hm⟩:=hrel;have kp1:=hm.at0 kp1;have mm:=m2.trans hm;have MM:=Hi hm;clear hm;go_upto_region 3 with fail;go_cut [46]from 36 to 46 (fun s wx=>∃b:Bool,s= .bool b∧Hid (b=true↔(i<x.ins.l.length∧n<20000))∧Hid (wx=wr))
  case first=>
   by_cases hlt:i<x.ins.l.length
   ·have hdl:decide ((i:Int)<(x.ins.l.length:Int))=true:=Dt (by omega);by_cases hn:n<20000
    ·have hdn:decide ((n:Int)<20000)=true:=Dt (by omega);go_wp2_with fail;go_meet;exact⟨true,rfl,Hi (by simp[hlt,hn]),Hi rfl⟩
    ·have hdn:decide ((n:Int)<20000)=false:=Df (by omega);go_wp2_with fail;go_meet;exact⟨false,rfl,Hi (by simp[hlt,hn]),Hi rfl⟩
   ·have hdl:decide ((i:Int)<(x.ins.l.length:Int))=false:=Df (by omega);go_wp2_with fail;go_meet;exact⟨false,rfl,Hi (by simp[hlt]),Hi rfl⟩
  case rest=>
   obtain⟨b,rfl,hb,hws⟩:=hcut;have hwe:=hws.out;subst hwe;clear hws;cases b with
   |true=>
    obtain⟨hlt,hn⟩:=hb.out.1 rfl;have hdl:decide ((i:Int)<(x.ins.l.length:Int))=true:=Dt (by omega);obtain⟨y,hy⟩:∃y,x.ins.l[i]? =some y:=⟨_,aZb hlt⟩;obtain⟨g,o,C,U,fr,ha,kg,c1,c2⟩:=F6 (HI.out.mod0 mm) hy;have hyb:=HB.out.1 y (aZi hy);have e1:=eB (a:=n) (b:=y.a.l.length) (by omega) (by omega);obtain⟨q1,hq1⟩:∃q1,n+y.a.l.length=q1:=⟨_,rfl⟩;rw[hq1]at e1;have e2:=eB (a:=q1) (b:=y.d.l.length) (by omega) (by omega);obtain⟨q2,hq2⟩:∃q2,q1+y.d.l.length=q2:=⟨_,rfl⟩;rw[hq2]at e2;have hqb:q2≤1000000000000000:=by omega
    have HN2:Hid (n5≤q2∧∀z∈x.ins.l.take (i+1),z.a.l.length≤q2∧z.d.l.length≤q2):=Hi (by
     obtain⟨h1,h2⟩:=HN.out;refine⟨by omega,fun z hz=> ?_⟩;rw[aYa,hy]at hz;rcases aZh.1 hz with hz|hz
     ·have:=h2 z hz;omega
     ·have hz:=aZm.1 hz;subst hz;omega)
    clear hy hyb hq1 hq2 hb;go_upto_region 5 with fail;have Lkp1:=aA kp1;have Lkg:=aA kg;refine ZP [0,0,0,0,1,0,0,0,1,0,0,0,0,0,1,0,0,0,1,0,0,0] ?_
    iterate 22 first|refine Zv ?_|refine Zd ?_
    refine TD.nil (fun w3 hr=> ?_);replace kp1:=hr.q kp1;replace kg:=hr.q kg;have hm3:=MM.out.then0 hr.mod;clear hr c1 c2 ha e1 e2;go_wp2_with fail;go_roundw
    case rel=>exact⟨i+1,q2,by omega,hqb,rfl,by go_num,HN2,hm3⟩
    case measure=>simp[intOf];omega
   |false=>
    have HP:Hid (n≤10000→n5≤10000∧∀y∈x.ins.l,y.a.l.length≤10000∧y.d.l.length≤10000):=Hi (fun hn=>by
     have hge:¬i<x.ins.l.length:=fun h=>Bool.false_ne_true (hb.out.2 ⟨h,by omega⟩);obtain⟨h1,h2⟩:=HN.out;rw[aY6 (by omega)]at h2;exact⟨by omega,fun y hy=>by have:=h2 y hy;omega⟩)
    clear HN hb;go_wp2_with fail;obtain⟨wa,rfl⟩:∃wa:World,wa=wc:=⟨_,rfl⟩;have HS:Hid ((n≤10000→n5≤10000∧∀y∈x.ins.l,y.a.l.length≤10000∧y.d.l.length≤10000)∧∀y∈x.lks.l.take 0,y.w.l.length≤n∧y.r.l.length≤n):=Hi ⟨HP.out,fun y hy=>by rw[List.take_zero]at hy;cases hy⟩;go_loopw [3,5] (fun s3 s5 ws=>∃(i n:Nat),i≤x.lks.l.length∧n≤1000000000000000∧s3= .int .i64 (n:Int)∧s5= .int .i64 (i:Int)∧Hid ((n≤10000→n5≤10000∧∀y∈x.ins.l,y.a.l.length≤10000∧y.d.l.length≤10000)∧∀y∈x.lks.l.take i,y.w.l.length≤n∧y.r.l.length≤n)∧Mod (fun _=>False) w2 ws) (fun _ s5 _=>x.lks.l.length-(intOf s5).toNat)
    case atStart=>exact⟨0,n,by omega,hnb,rfl,rfl,HS,MM.out⟩
    case round=>
     clear kp1 mm hnb HS HP MM;obtain⟨i,n,hi,hnb,rfl,rfl,HN,hm⟩:=hrel;have kp1:=hm.at0 KP.out;have mm:=m2.trans hm;have MM:=Hi hm;clear hm;go_upto_region 7 with fail;go_cut [80]from 70 to 80 (fun s wx=>∃b:Bool,s= .bool b∧Hid (b=true↔(i<x.lks.l.length∧n<20000))∧Hid (wx=wr))
     case first=>
      by_cases hlt:i<x.lks.l.length
      ·have hdl:decide ((i:Int)<(x.lks.l.length:Int))=true:=Dt (by omega);by_cases hn:n<20000
       ·have hdn:decide ((n:Int)<20000)=true:=Dt (by omega);go_wp2_with fail;go_meet;exact⟨true,rfl,Hi (by simp[hlt,hn]),Hi rfl⟩
       ·have hdn:decide ((n:Int)<20000)=false:=Df (by omega);go_wp2_with fail;go_meet;exact⟨false,rfl,Hi (by simp[hlt,hn]),Hi rfl⟩
      ·have hdl:decide ((i:Int)<(x.lks.l.length:Int))=false:=Df (by omega);go_wp2_with fail;go_meet;exact⟨false,rfl,Hi (by simp[hlt]),Hi rfl⟩
     case rest=>
      obtain⟨b,rfl,hb,hws⟩:=hcut;have hwe:=hws.out;subst hwe;clear hws;cases b with
      |true=>
       obtain⟨hlt,hn⟩:=hb.out.1 rfl;have hdl:decide ((i:Int)<(x.lks.l.length:Int))=true:=Dt (by omega);obtain⟨y,hy⟩:∃y,x.lks.l[i]? =some y:=⟨_,aZb hlt⟩;obtain⟨g,o,C,U,fr,ha,kg,c1,c2⟩:=GE (HK.out.mod0 mm) hy;have hyb:=HB.out.2 y (aZi hy);have e1:=eB (a:=n) (b:=y.w.l.length) (by omega) (by omega);obtain⟨q1,hq1⟩:∃q1,n+y.w.l.length=q1:=⟨_,rfl⟩;rw[hq1]at e1;have e2:=eB (a:=q1) (b:=y.r.l.length) (by omega) (by omega);obtain⟨q2,hq2⟩:∃q2,q1+y.r.l.length=q2:=⟨_,rfl⟩;rw[hq2]at e2;have hqb:q2≤1000000000000000:=by omega
       have HN2:Hid ((q2≤10000→n5≤10000∧∀y∈x.ins.l,y.a.l.length≤10000∧y.d.l.length≤10000)∧∀z∈x.lks.l.take (i+1),z.w.l.length≤q2∧z.r.l.length≤q2):=Hi (by
        obtain⟨h1,h2⟩:=HN.out;refine⟨fun h=>h1 (by omega),fun z hz=> ?_⟩;rw[aYa,hy]at hz;rcases aZh.1 hz with hz|hz
        ·have:=h2 z hz;omega
        ·have hz:=aZm.1 hz;subst hz;omega)
       clear hy hyb hq1 hq2 hb;go_upto_region 9 with fail;have Lkp1:=aA kp1;have Lkg:=aA kg;refine ZP [0,0,0,0,1,0,0,0,1,0,0,0,0,0,1,0,0,0,1,0,0,0] ?_
       iterate 22 first|refine Zv ?_|refine Zd ?_
       refine TD.nil (fun w3 hr=> ?_);replace kp1:=hr.q kp1;replace kg:=hr.q kg;have hm3:=MM.out.then0 hr.mod;clear hr c1 c2 ha e1 e2;go_wp2_with fail;go_roundw
       case rel=>exact⟨i+1,q2,by omega,hqb,rfl,by go_num,HN2,hm3⟩
       case measure=>simp[intOf];omega
      |false=>
       have HP:Hid (n≤10000→x.ins.l.length≤200→x.ro.l.length≤300→lJ x.con∧x.ro.l.length≤300):=Hi (fun hn hi2 hr2=>by
        have hge:¬i<x.lks.l.length:=fun h=>Bool.false_ne_true (hb.out.2 ⟨h,by omega⟩);obtain⟨h1,h2⟩:=HN.out;rw[aY6 (by omega)]at h2;obtain⟨h3,h4⟩:=h1 hn;obtain⟨hn1,hn2,hn3,hn4,hn5⟩:=H5.out;refine⟨⟨by show x.b.l.length≤_;omega,by show x.sg.l.length≤_;omega,by show x.ks.l.length≤_;omega,by show(x.ins.l.map oC.con).length≤_;rw[aZs];omega,fun y hy=> ?_,by show(x.lks.l.map oM.con).length≤_;rw[aZs];omega,fun y hy=> ?_,by show x.ro.l.length≤_;omega⟩,hr2⟩
        ·obtain⟨z,hz,rfl⟩:=aZj.1 hy;have:=h4 z hz;exact⟨by show z.a.l.length≤_;omega,by show z.d.l.length≤_;omega⟩
        ·obtain⟨z,hz,rfl⟩:=aZj.1 hy;have:=h2 z hz;exact⟨by show z.w.l.length≤_;omega,by show z.r.l.length≤_;omega⟩)
       clear hb;clear HN;go_upto_region 10 with fail;by_cases hn1:n>10000
       ·have hd:=Dt hn1;have hdI:decide ((n:Int)>10000)=true:=Dt (by omega);go_wp2_with fail;go_ret;exact GrR.of true rfl (fun h=>by cases h) mm
       ·have hd:=Df hn1;have hdI:decide ((n:Int)>10000)=false:=Df (by omega);have hn10:n≤10000:=by omega
        by_cases hx1:x.ins.l.length>200
        ·have hd1:decide ((x.ins.l.length:Int)>200)=true:=Dt (by omega);have hd1n:decide (200<x.ins.l.length)=true:=Dt (by omega);have Lkp1:=aA kp1;refine ZP0 [0,0,0,0,0,0,1,0,0,0,0,0,1,0,0,0,0] ?_
         iterate 17 first|refine Zo ?_|refine Zp ?_|refine Zv ?_|refine Zd ?_
         refine TD.nil (fun we hr=> ?_);replace kp1:=hr.q kp1;have mm:=mm.then0 hr.mod;clear hr;go_wp2_with fail;go_ret;exact GrR.of true rfl (fun h=>by cases h) mm
        ·have hd1:decide ((x.ins.l.length:Int)>200)=false:=Df (by omega);have hd1n:decide (200<x.ins.l.length)=false:=Df (by omega);by_cases hx2:x.ro.l.length>300
         ·have hd2:decide ((x.ro.l.length:Int)>300)=true:=Dt (by omega);have hd2n:decide (300<x.ro.l.length)=true:=Dt (by omega);have Lkp1:=aA kp1;refine ZP0 [0,0,0,0,0,0,1,0,0,0,0,0,1,0,0,0,0] ?_
          iterate 17 first|refine Zv ?_|refine Zd ?_
          refine TD.nil (fun we hr=> ?_);replace kp1:=hr.q kp1;have mm:=mm.then0 hr.mod;clear hr;go_wp2_with fail;go_ret;exact GrR.of true rfl (fun h=>by cases h) mm
         ·have hd2:decide ((x.ro.l.length:Int)>300)=false:=Df (by omega);have hd2n:decide (300<x.ro.l.length)=false:=Df (by omega);have Lkp1:=aA kp1;refine ZP0 [0,0,0,0,0,0,1,0,0,0,0,0,1,0,0,0,0] ?_
          iterate 17 first|refine Zv ?_|refine Zd ?_
          refine TD.nil (fun we hr=> ?_);replace kp1:=hr.q kp1;have mm:=mm.then0 hr.mod;clear hr;go_wp2_with fail;go_ret;exact GrR.of false rfl (fun _=>HP.out hn10 (by omega) (by omega)) mm
end
section
attribute [local go_sem↓] r9 BM
theorem LZ {P:Program} {ops:Array Oper} {Q:Exit→Act→World→Prop} {i:Nat} {r:List Nat} {a:Act} {o:Oper} {w:World} {T:TypeId} {parts:Array (Nat×Operand)} {ps:Array (Nat×Value)} {v:Value} (ho:ops[i]? =some o) (hw:Region.wanted o (yielded ops a.tmps)=true) (hop:o.op= .build T parts)
  (hx:parts.map (fun(p:Nat×Operand)=>(p.1,a.eval p.2))=ps) (hr:(Instr.build T ps).run P w= .ok v w) (h:wpOps P ops Q r (a.put o.dst v) w):wpOps P ops Q (i::r) a w:=
 nP ho hw (by subst hx;simp[execOp,hop,hr]) h
theorem RY (w:World):(Instr.build 55 #[]).run Tryz.prog w= .ok (.agg #[.slice none 0 0,.slice none 0 0,.slice none 0 0]) w:=by kernel_rfl
theorem AV {w:World} {v:Value} {r:Int} (hwh:∀wq,Mod (fun _=>False) w wq→Calls Tryz.prog 29 #[v] wq fun e w'=>e= .returned (.int .i64 r)∧Mod (fun _=>False) wq w') (hr0:r≠0):
  Calls Tryz.prog 10 #[v] w fun e w'=>e= .returned (.tuple #[.agg #[.slice none 0 0,.slice none 0 0,.slice none 0 0],.int .i64 r])∧Mod (fun _=>False) w w':=by
 have HW:=Hi hwh;have hb0:=RY;have hne:(r !=0)=true:=by simpa using hr0
 clear hwh;go_enter Tryz.func10,Tryz.ntmps10;go_upto_region 0 with fail;refine ZP0 [3,0] ?_;refine Za vI fun p2 hp2=> ?_;refine Zv ?_;refine TD.nil (fun w1 hr=> ?_);obtain⟨gp2,kp2⟩:=hr.b p2;have m1:=hr.mod;have hg:=gp2;have HW:=Hi (HW.out w1 m1);clear hr;go_wp2_with fail;refine wp_scope_straight ?_;go_wp2_with fail;go_at_call 29;refine HW.out.mono ?_;rintro e w2 ⟨rfl,m2⟩;have kp2:=m2.at0 kp2;have m2:=m1.then0 m2;go_upto_region 3 with fail;refine region_seq 4 rfl ?_;simp only[List.range,List.range.loop];(refine LZ (by simp only[zK];rfl) (by rfl) rfl ?hx3 (hb0 _) ?n3;(case hx3=>(simp only[aYr,aZo,aYo,zM];(try rfl)));try simp only[zL]);refine Zq ?_;refine ZT ?_;refine ZQ kp2 fun wn kp2 mS=> ?_;refine Zq ?_;refine jT ?_;have kp2:wn.heap[p2]? =some (.cells #[.slice none 0 0,.slice none 0 0,.slice none 0 0] 55 (0,0)):=by simpa using kp2
 have hm:Mod (fun _=>False) w wn:=m2.then mS (fun x hx e=>by omega);clear mS;go_wp2_with fail;(try simp only[Exit.noGoto]);exact bodyPost_ret (results_cell2 (x:= .agg #[.slice none 0 0,.slice none 0 0,.slice none 0 0]) rfl rfl (by rw[r9];simp[kp2])) rfl ⟨rfl,hm⟩
end
section
attribute [local go_sem↓] jX iD jV
attribute [local go_sem] bF dE dW fM
structure zR where
 what:UInt8
 num:UInt64
 r:cS
 h:aQ
 wk:Int64
def XS (x:zR):List Value:=Value.int .u8 (x.what.toNat:Int)::u64v x.num::((bT x.r).toList++((kc x.h).toList++[Value.int .i64 x.wk.toInt]))
def MO (x:zR):Array Value:=(XS x).toArray
theorem RP (x:zR):(MO x)[0]? =some (.int .u8 (x.what.toNat:Int)):=rfl
theorem RR (x:zR):(MO x).extract 2 50=bT x.r:=by
 apply aZ1.1;rw[aXv];show((bT x.r).toList++((kc x.h).toList++[Value.int .i64 x.wk.toInt])).take 48=_;rw[List.take_left' (by rw[aYd,bF])]
theorem RQ (x:zR):(MO x).extract 50 82=kc x.h:=by
 apply aZ1.1;rw[aXv];show(((bT x.r).toList++((kc x.h).toList++[Value.int .i64 x.wk.toInt])).drop 48).take 32=_;rw[List.drop_left' (by rw[aYd,bF]),List.take_left' (by simp)]
theorem N0 (x:zR) {j:Nat} (hj:j<48):(MO x)[2+j]? =(bT x.r)[j]? :=by
 unfold MO;rw[zA,Nat.add_comm 2 j];show((bT x.r).toList++((kc x.h).toList++[Value.int .i64 x.wk.toInt]))[j]? =_;rw[aZt (by rw[aYd,bF];exact hj),aWp]
theorem EC {w:World} {a:Option Addr} {l:List zR} (h:aS MO 83 w a l) {i:Nat} {x:zR} (hx:l[i]? =some x):∃g o C U fr,a=some ⟨g,o,none⟩∧w.heap[g]? =some (.cells C U fr)∧C[o+i*83]? =some (.int .u8 (x.what.toNat:Int))∧C.extract (o+i*83+2) (o+i*83+2+48)=bT x.r∧C.extract (o+i*83+50) (o+i*83+50+32)=kc x.h∧(∀j,j<48→C[o+i*83+2+j]? =(bT x.r)[j]?)∧o+i*83+83≤C.size:=by
 obtain⟨g,o,C,U,fr,rfl,hk,he,hle⟩:=h.block hx;have hcell:∀j,j<83→C[o+i*83+j]? =(MO x)[j]? :=fun j hj=>by
  rw[←he,aYl,if_pos (by omega)]
 refine⟨g,o,C,U,fr,rfl,hk,(hcell 0 (by omega)).trans (RP x),?_,?_,fun j hj=> ?_,hle⟩
 ·rw[←RR,←he,Array.extract_extract];congr 1;omega
 ·rw[←RQ,←he,Array.extract_extract];congr 1;omega
 ·rw[Nat.add_assoc,hcell (2+j) (by omega)];exact N0 x hj
def VE (w:World) (x:zR):Prop:=aS inr 3 w x.r.ins.a x.r.ins.l∧aS lor 34 w x.r.lks.a x.r.lks.l∧JQ x.r
def VF (x:zR):Prop:=lJ x.r.con∧x.r.ro.l.length≤300
def UI (x:zR):Nat:=x.r.ro.l.length
structure VG (l:List zR):Prop where
 len:l.length≤60
 each:∀x∈l,VF x
 sum:(l.map UI).sum≤400
theorem I8:∀(l:List zR),(∀x∈l,VF x)→(l.map UI).sum≤l.length*300
 |[],_=>by simp
 |x::l,h=>by
  have h1:=I8 l fun y hy=>h y (.tail _ hy);have h2:=(h x (.head _)).2;simp only[aZo,List.sum_cons,aZu,aWh,UI];omega
theorem CQ (sa:Option Addr) (sn sc:Nat) (room win bat fli:Int) (l1 l2 l3 fw:Value) (hold:Int) (oa:Option Addr) (on oc:Nat) (a:Option Addr) (l:List zR) (c:Nat) (w:World) (hl:aS MO 83 w a l) (hk:∀x∈l,VE w x) (hn:l.length≤140737488355328):
  Calls Tryz.prog 7 #[.agg (sZ (.slice sa sn sc) room win bat fli l1 l2 l3 fw hold (.slice oa on oc)),.slice a l.length c] w (GrR ((sn≤64∧on≤100)∧VG l) w):=by
 have HL:=Hi (Ai hl (Ai hk hn));clear hl hk hn;obtain⟨ll,hll⟩:∃ll,l.length=ll:=⟨_,rfl⟩;have HLL:=Hi hll;rw[hll];clear hll;unfold sZ;go_enter Tryz.func7,Tryz.ntmps7;go_upto_region 0 with fail;refine ZP0 [3,0] ?_;refine Zb fun p2 hp2=> ?_;refine Zv ?_;refine TD.nil (fun w1 hr=> ?_);obtain⟨gp2,kp2⟩:=hr.b p2;have m1:=hr.mod;clear hr;go_upto_region 1 with fail;by_cases n1:sn>64
 ·have hd1:decide ((sn:Int)>64)=true:=Dt (by omega);have Lkp2:=aA kp2;refine ZP0 [0,1,0,0,0,0,1,0,0,0,0,0,0,0,0] ?_
  iterate 15 first|refine Zo ?_|refine Zp ?_|refine Zv ?_|refine Zd ?_
  refine TD.nil (fun w2 hr=> ?_);replace kp2:=hr.q kp2;have m2:=m1.then0 hr.mod;clear hr;go_wp2_with fail;go_ret;exact GrR.of true rfl (fun h=>by cases h) m2
 have hd1:decide ((sn:Int)>64)=false:=Df (by omega);by_cases n2:on>100
 ·have hd2:decide ((on:Int)>100)=true:=Dt (by omega);have Lkp2:=aA kp2;refine ZP0 [0,1,0,0,0,0,1,0,0,0,0,0,0,0,0] ?_
  iterate 15 first|refine Zo ?_|refine Zv ?_|refine Zd ?_
  refine TD.nil (fun w2 hr=> ?_);replace kp2:=hr.q kp2;have m2:=m1.then0 hr.mod;clear hr;go_wp2_with fail;go_ret;exact GrR.of true rfl (fun h=>by cases h) m2
 have hd2:decide ((on:Int)>100)=false:=Df (by omega);by_cases n3:ll>60
 ·have hd3:decide ((ll:Int)>60)=true:=Dt (by omega);have Lkp2:=aA kp2;refine ZP0 [0,1,0,0,0,0,1,0,0,0,0,0,0,0,0] ?_
  iterate 15 first|refine Zv ?_|refine Zd ?_
  refine TD.nil (fun w2 hr=> ?_);replace kp2:=hr.q kp2;have m2:=m1.then0 hr.mod;clear hr;go_wp2_with fail;go_ret;exact GrR.of true rfl (fun h=>by cases h) m2
 have hd3:decide ((ll:Int)>60)=false:=Df (by omega);have Lkp2:=aA kp2;refine ZP0 [0,1,0,0,0,0,1,0,0,0,0,0,0,0,0] ?_
 iterate 15 first|refine Zv ?_|refine Zd ?_
 refine TD.nil (fun w2 hr=> ?_);replace kp2:=hr.q kp2;have m2:=m1.then0 hr.mod;have HN:=Hi (Ai n1 n2);have HM2:=Hi m2;clear hr n1 n2 hd1 hd2 hd3;go_wp2_with fail;go_loopw [5,6] (fun s5 s6 ws=>∃(j n:Nat),j≤ll∧s5= .int .i64 (n:Int)∧s6= .int .i64 (j:Int)∧Hid (n=((l.take j).map UI).sum∧∀x∈l.take j,VF x)∧Hid (Mod (fun _=>False) w2 ws)) (fun _ s6 _=>ll-(intOf s6).toNat)
 case atStart=>exact⟨0,0,by omega,rfl,rfl,Hi ⟨by simp,fun x hx=>by simp at hx⟩,Hi (Mod.refl _ _)⟩
 case round=>
  obtain⟨j,n,hj,rfl,rfl,HJ,HM⟩:=hrel;have hnb:n≤18000:=by
   have h1:=I8 _ HJ.out.2;rw[←HJ.out.1,aZ4]at h1;omega
  by_cases hlt:j<ll
  ·have hdl:=Dt hlt;obtain⟨x,hx⟩:∃x,l[j]? =some x:=⟨_,aZb (by rw[HLL.out];exact hlt)⟩;obtain⟨gg,o,C,U,fr,rfl,kl,c0,he,-,cj,hle⟩:=EC (HL.out.1.mod0 (HM2.out.trans HM.out)) hx;have c43:C[o+j*83+43]? =some (.slice x.r.ro.a x.r.ro.l.length x.r.ro.c):=(cj 41 (by omega)).trans (lA x.r);have HX:Hid (l.take (j+1)=l.take j++[x]∧x∈l):=Hi ⟨by rw[aYa,hx];rfl,aZi hx⟩;have hlk:=HL.out.2.1 x HX.out.2;clear hx cj c0;go_upto_region 7 with fail;go_wp2_with fail;go_at_call 8;refine(great15_c x.r _ (hlk.1.mod0 (HM2.out.trans HM.out)) (hlk.2.1.mod0 (HM2.out.trans HM.out)) hlk.2.2).mono ?_;clear hlk;rintro e w4 ⟨bz,rfl,hbz,m4⟩;replace kl:=m4.at0 kl;have HM4:=Hi (HM.out.then0 m4);clear m4;cases bz with
   |true=>
    clear hbz;go_wp2_with fail;go_ret;exact GrR.of true rfl (fun h=>by cases h) (HM2.out.trans HM4.out)
   |false=>
    have HBZ:=Hi (hbz rfl);have hro:=HBZ.out.2;have hw:IntKind.i64.wrap ((n:Int)+(x.r.ro.l.length:Int))=((n+x.r.ro.l.length:Nat):Int):=eB (by omega) (by omega);clear hbz;go_wp2_with fail;go_roundw
    case rel=>
     refine⟨j+1,n+x.r.ro.l.length,by omega,rfl,by go_num,Hi ?_,HM4⟩;refine⟨?_,fun y hy=> ?_⟩
     ·rw[HX.out.1,List.map_append,List.sum_append,←HJ.out.1];simp[UI]
     ·rw[HX.out.1]at hy;rcases aZh.1 hy with h|h
      ·exact HJ.out.2 y h
      ·rw[aZm.1 h];exact HBZ.out
    case measure=>simp[intOf];omega
  ·obtain rfl:j=ll:=by omega
   go_upto_region 10 with fail;have hs:=HJ.out;rw[aY6 (by rw[HLL.out];omega)]at hs;have HS:=Hi hs;clear hs;by_cases hz:n>400
   ·have hd:decide ((n:Int)>400)=true:=Dt (by omega);go_wp2_with fail;go_ret;exact GrR.of true rfl (fun h=>by cases h) (HM2.out.trans HM.out)
   ·have hd:decide ((n:Int)>400)=false:=Df (by omega);go_wp2_with fail;go_ret;have h1:=HN.out;exact GrR.of false rfl (fun _=>⟨⟨by omega,by omega⟩,by rw[HLL.out];omega,HS.out.2,by rw[←HS.out.1];omega⟩) (HM2.out.trans HM.out)
end
end Go.Proofs.YtblbegbjlaokjaaGreatDoor