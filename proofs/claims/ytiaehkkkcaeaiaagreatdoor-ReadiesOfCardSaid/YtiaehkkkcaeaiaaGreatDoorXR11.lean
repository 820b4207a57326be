/- The lemmas of the proof, part XO11: how the program and its data lie in memory, and what its functions do. -/
import Derived.Test.YtiaehkkkcaeaiaaGreatDoorXR10
set_option linter.unusedSimpArgs false
set_option linter.unusedVariables false
set_option linter.unusedSectionVars false

set_option maxRecDepth 20000
set_option maxHeartbeats 6400000
namespace Go.Proofs.YtiaehkkkcaeaiaaGreatDoor
open Go.RowKit
open Go.ChangeMaps (setBlock)
attribute [local go_sem] Value.cells cell_blk frozen_blk one_bool one_int one_map one_ptr one_slice
section
attribute [local go_sem↓] wlKey ldKey stKey wlMsg ldMsg stMsg wlTc ldTc stTc
attribute [local go_sem] kc_ext kc_one kc_one0 kc_size zKey_size mgx_size mgx_ext mgx_one mgx_one0 mg0 mg1 mg2 mg3 mg4 mg37 mg38 mg37' mg38' mgx_hd mgx_hs mg0' mg4' txr_ms txr_size txr_all txr_one txr_one' txr0 txr0'
def BkQ (r:Nat) (L:List Pg) (Q:List Pl) (v:Value) (w w':World):Prop:=∃M,M.map Pg.pl=Q∧BkP r L M v w w'
theorem bk_then {r:Nat} {L M N:List Pg} {v v1:Value} {w w1 w2:World} (hm:Mod (Bkv r v) w w1) (hg:∀i,v1.ownBlock=some i→v.ownBlock=some i∨w.heap.size≤i) (h2:BkP r (L++M) N v1 w1 w2):BkP r L (M++N) v w w2:=by
 obtain⟨v2,hB,m2,g2⟩:=h2;refine⟨v2,by rw[←List.append_assoc];exact hB,hm.then m2 (fun i hi hs=> ?_),fun i hi=> ?_⟩
 ·rcases hs with hs|hs
  ·exact .inl hs
  ·rcases hg i hs with h|h
   ·exact .inr h
   ·omega
 ·rcases g2 i hi with h|h
  ·exact hg i h
  ·exact .inr (Nat.le_trans hm.size h)
def BkS (r p:Nat) (L:List Pg) (Q:List Pl) (v:Value) (w w':World):Prop:=∃M v',M.map Pg.pl=Q∧BookV w' r (L++M) v'∧Mod (Bkv r v) w w'∧(∀i,v'.ownBlock=some i→v.ownBlock=some i∨w.heap.size≤i)∧¬Bkv r v' p
theorem BkS.start {r p:Nat} {L:List Pg} {v:Value} {w w':World} (h:BookV w r L v) (hm:Mod (fun _=>False) w w') (hp:w.heap.size≤p):BkS r p L [] v w w':=by
 refine⟨[],v,rfl,?_,hm.mono (fun _ _ h=>h.elim),fun i hi=> .inl hi,fun hb=> ?_⟩
 ·rw[List.append_nil];exact h.mod0 hm
 ·have:=(h.lt p hb).2;omega
theorem BkS.step {r p:Nat} {L M N:List Pg} {Q Q2:List Pl} {v v1:Value} {w w1 w2:World} (eM:M.map Pg.pl=Q) (hm:Mod (Bkv r v) w w1) (hg:∀i,v1.ownBlock=some i→v.ownBlock=some i∨w.heap.size≤i) (hp:¬Bkv r v1 p) (hlt:p<w1.heap.size) (eN:N.map Pg.pl=Q2) (h2:BkP r (L++M) N v1 w1 w2):BkS r p L (Q++Q2) v w w2:=by
 obtain⟨v2,hB,m2,g2⟩:=bk_then hm hg h2;obtain⟨v3,hB3,m3,g3⟩:=h2;refine⟨M++N,v3,by rw[List.map_append,eM,eN],by rw[←List.append_assoc];exact hB3,m2,fun i hi=> ?_,fun hb=> ?_⟩
 ·rcases g3 i hi with h|h
  ·exact hg i h
  ·exact .inr (Nat.le_trans hm.size h)
 ·rcases hb with hb|hb
  ·exact hp (.inl hb)
  ·rcases g3 p hb with h|h
   ·exact hp (.inr h)
   ·omega
theorem BkS.q {r p:Nat} {L:List Pg} {Q:List Pl} {v:Value} {w w':World} (h:BkS r p L Q v w w'):BkQ r L Q v w w':=by
 obtain⟨M,v',e,hB,hm,hg,_⟩:=h;exact⟨M,e,v',hB,hm,hg⟩
def MsgF (r:Nat) (w:World) (x:RdR):Prop:=
 (SlAt inr 3 w x.ins.a x.ins.l∧(∀g o,x.ins.a=some ⟨g,o,none⟩→g<r)∧x.ins.l.length≤65535∧∀i∈x.ins.l,i.a.c=i.a.l.length∧i.d.c=i.d.l.length)∧
 (SlAt lor 34 w x.lks.a x.lks.l∧(∀g o,x.lks.a=some ⟨g,o,none⟩→g<r)∧x.lks.l.length≤65535∧∀i∈x.lks.l,i.w.c=i.w.l.length∧i.r.c=i.r.l.length)∧x.ks.c=x.ks.l.length
theorem MsgF.mod {r:Nat} {w w':World} {x:RdR} {S:Nat→Prop} (h:MsgF r w x) (hm:Mod S w w') (hS:∀i,S i→r≤i):MsgF r w' x:=
 ⟨⟨h.1.1.mod hm (fun b o e hs=>by have:=h.1.2.1 b o e;have:=hS _ hs;omega),h.1.2⟩,⟨h.2.1.1.mod hm (fun b o e hs=>by have:=h.2.1.2.1 b o e;have:=hS _ hs;omega),h.2.1.2⟩,h.2.2⟩
theorem NewS.cap {α:Type} {f:α→Array Value} {n:Nat} {E:TypeId} {b m c:Nat} {w:World} {a:Option Addr} {l:List α} (h:NewS f n E b w (.slice a m c) l):c=l.length:=by
 rcases h with⟨h1,h2⟩|⟨g,cur,h1,_⟩
 ·injection h1 with _ _ h1
  subst h2;exact h1
 ·injection h1
theorem TxO.f {b r:Nat} {w:World} {x:RdR} (h:TxO b w x) (hB:TxB (txP x)) (hr:w.heap.size≤r):MsgF r w x∧x.sg.c=x.sg.l.length:=by
 obtain⟨h1,h2,h3,h4,h5,h6,h7⟩:=h;obtain⟨b1,b2,⟨b3,b4⟩,b5,b6⟩:=hB;simp only[txP,msgP,List.length_map]at b1 b2 b3 b4 b5 b6;refine⟨⟨⟨(WAtG.of h3).sl,fun g o e=> ?_,b3,fun i hi=> ?_⟩,⟨(WAtG.of h5).sl,fun g o e=> ?_,b5,fun i hi=> ?_⟩,h2.cap⟩,h1.cap⟩
 ·have:=(h3.lt g (by rw[e];rfl)).2;omega
 ·obtain⟨y,hy,_,e2,e3,e4,e5⟩:=h4.1.left i hi;rw[←e2]at e4;rw[←e3]at e5;exact⟨e4.cap,e5.cap⟩
 ·have:=(h5.lt g (by rw[e];rfl)).2;omega
 ·obtain⟨y,hy,_,e2,e3,e4,e5⟩:=h6.1.left i hi;rw[←e2]at e4;rw[←e3]at e5;exact⟨e4.cap,e5.cap⟩
theorem insPl_snoc (l:List InR) (x:InR):insPl (l++[x])=(insPl l++[(0,x.a.a,x.a.l.length)])++[(0,x.d.a,x.d.l.length)]:=by simp[insPl]
theorem losPl_snoc (l:List LoR) (x:LoR):losPl (l++[x])=(losPl l++[(0,x.w.a,x.w.l.length)])++[(0,x.r.a,x.r.l.length)]:=by simp[losPl]
theorem take_snoc {α:Type} {l:List α} {i:Nat} {x:α} (h:l[i]? =some x):l.take (i+1)=l.take i++[x]:=by rw[List.take_add_one,h];rfl
theorem Message_c (x:RdR) (r:Nat) (L:List Pg) (v:Value) (hL:L.length≤900000000) (w:World) (h:BookV w r L v) (hf:MsgF r w x):Calls Tryz.prog 63 #[.pointer (some ⟨r,0,none⟩),.agg (msr x)] w fun e w'=>e= .returned (.tuple #[])∧BkQ r L (msgPl x) v w w':=by
 obtain⟨bx,sgx,v0,h0,h1,h2,ks,rc,ins,lks,rox,ux,px,badx,fx,cx,qx⟩:=x;obtain⟨ka,K,kcap⟩:=ks;obtain⟨ia,I,ic⟩:=ins;obtain⟨la,Lk,lc⟩:=lks;obtain⟨f1,f2,f3⟩:=hf;simp only at f1 f2 f3;subst f3;obtain⟨nK,hnK⟩:∃n,K.length=n:=⟨_,rfl⟩;obtain⟨nI,hI⟩:∃n,I.length=n:=⟨_,rfl⟩;obtain⟨nL,hLk⟩:∃n,Lk.length=n:=⟨_,rfl⟩;show Calls Tryz.prog 63 #[.pointer (some ⟨r,0,none⟩),.agg (mgx v0 h0 h1 h2 ka K.length K.length rc ia I.length ic la Lk.length lc)] w fun e w'=>e= .returned (.tuple #[])∧BkQ r L ((1,ka,K.length)::(insPl I++losPl Lk)) v w w';rw[hnK,hI,hLk];have hb1:nI≤65535:=by rw[←hI];exact f1.2.2.1
 have hb2:nL≤65535:=by rw[←hLk];exact f2.2.2.1
 have HN:=Hi (Ai hL (Ai hI hLk));have HF1:=Hi f1;have HF2:=Hi f2;have HB0:=Hi h;have HR:Hid (∀i,Bkv r v i→r≤i):=Hi (fun i hi=>(h.lt i hi).1);clear hL hI hLk hnK f1 f2 h;go_enter Tryz.func63,Tryz.ntmps63;go_upto_region 0 with fail;refine ZP0 [3] ?_;refine Zb fun p3 hp3=> ?_;refine TD.nil (fun w1 hr=> ?_);obtain⟨gp3,kp3⟩:=hr.b p3;have HS:=Hi (BkS.start HB0.out hr.mod gp3);clear hr;go_wp2_with fail;go_at_call 104;obtain⟨M,v1,eM,hB,hm,hg,hp⟩:=HS.out;refine(Keys_c r (L++M) v1 (by have hlM:=congrArg List.length eM;rw[List.length_map]at hlM;rw[List.length_append];have:=HN.out;simp only[List.length_nil,List.length_cons]at hlM;omega) ka nK _ hB).mono ?_;rintro e w2 ⟨rfl,h',f',hP⟩;have hP2:=hP;obtain⟨v9,hB9,m9,g9⟩:=hP2;have HS2:Hid (BkS r p3 L ((1,ka,nK)::(insPl (I.take 0)++losPl (Lk.take 0))) v w w2):=Hi (BkS.step eM hm hg hp (Ls kp3) (Q2:=[(1,ka,nK)]) rfl hP);replace kp3:=m9.at kp3 hp;clear hP hB9 m9 g9 eM hB hm hg hp HS;go_wp2_with fail;go_loopw [4] (fun s4 ws=>∃i:Nat,i≤nI∧s4= .int .i64 (i:Int)∧Hid (BkS r p3 L ((1,ka,nK)::insPl (I.take i)) v w ws)∧ws.heap[p3]? =some (.cells (mgx v0 h0 h1 h2 ka nK nK rc ia nI ic la nL lc) 33 (0,0))) (fun s4 _=>nI-(intOf s4).toNat)
 case atStart=>exact⟨0,by omega,rfl,HS2,kp3⟩
 case round=>
  clear kp3 HS2;obtain⟨i,hi,rfl,HS,kp3⟩:=hrel;by_cases hlt:i<nI
  ·--{
   obtain⟨x,hx⟩:∃x,I[i]? =some x:=⟨_,List.getElem?_eq_getElem (by have:=HN.out.2.1;omega)⟩;obtain⟨_,_,_,_,hM0,_,_⟩:=HS.out;obtain⟨g,o,C,U,fr,hga,kg,c0,c1,c2⟩:=in_partsS (HF1.out.1.mod hM0 (fun b o e hs=>by have h1:=HF1.out.2.1 b o e;have h2:=HR.out _ hs;omega)) hx;have hgr:=HF1.out.2.1 g o hga;have hcc:=HF1.out.2.2.2 x (List.mem_of_getElem? hx);rw[hcc.1]at c1;rw[hcc.2]at c2;subst hga;have HTK:=Hi (take_snoc hx);have HHX:=Hi hx;clear hM0 hcc c0 hx;obtain⟨px,⟨ax,lx,cx⟩,⟨dx,mx',ex⟩⟩:=x;simp only at c1 c2;obtain⟨n1,hn1⟩:∃n,lx.length=n:=⟨_,rfl⟩;obtain⟨n2,hn2⟩:∃n,mx'.length=n:=⟨_,rfl⟩;rw[hn1]at c1;rw[hn2]at c2;have HNN:=Hi (Ai hn1 hn2);clear hn1 hn2;go_wp2_with fail;go_at_call 19;obtain⟨M,v1,eM,hB,hm,hg,hp⟩:=HS.out;have hlM:M.length=((1,ka,nK)::insPl (I.take i)).length:=by rw[←eM,List.length_map]
   simp only[List.length_append,List.length_cons,List.length_nil,insPl_len,losPl_len,List.length_take]at hlM;have hBL:=hB.lt;refine(Bytes_c r (L++M) v1 (by rw[List.length_append];have:=HN.out;omega) _ _ _ hB).mono ?_;rintro e w3 ⟨rfl,h',f',hP⟩;have hP2:=hP;obtain⟨v9,hB9,m9,g9⟩:=hP2;have HS3:=Hi (BkS.step eM hm hg hp (Ls kp3) (Q2:=[(0,ax,n1)]) rfl hP);replace kp3:=m9.at kp3 hp;replace kg:=m9.at kg (fun hb=>by have:=(hBL _ hb).1;omega);clear hP hB9 m9 g9 eM hB hm hg hp hlM hBL HS;have HS:=HS3;clear HS3;go_wp2_with fail;go_at_call 19;obtain⟨M,v1,eM,hB,hm,hg,hp⟩:=HS.out;have hlM:M.length=((1,ka,nK)::insPl (I.take i)++[(0,ax,n1)]).length:=by rw[←eM,List.length_map]
   simp only[List.length_append,List.length_cons,List.length_nil,insPl_len,losPl_len,List.length_take]at hlM;have hBL:=hB.lt;refine(Bytes_c r (L++M) v1 (by rw[List.length_append];have:=HN.out;omega) _ _ _ hB).mono ?_;rintro e w3 ⟨rfl,h',f',hP⟩;have hP2:=hP;obtain⟨v9,hB9,m9,g9⟩:=hP2;have HS3:=Hi (BkS.step eM hm hg hp (Ls kp3) (Q2:=[(0,dx,n2)]) rfl hP);replace kp3:=m9.at kp3 hp;replace kg:=m9.at kg (fun hb=>by have:=(hBL _ hb).1;omega);clear hP hB9 m9 g9 eM hB hm hg hp hlM hBL HS;have HS:=HS3;clear HS3;have HS4:Hid (BkS r p3 L ((1,ka,nK)::insPl (I.take (i+1))) v w w3):=Hi (by
    rw[HTK.out,insPl_snoc];simp only[HNN.out.1,HNN.out.2];exact HS.out)
   clear HS;go_wp2_with fail;go_roundw
   case rel=>exact⟨i+1,by omega,by go_num,HS4,kp3⟩
   case measure=>simp[intOf];omega
  ·obtain rfl:nI=i:=by omega
   have HS2:Hid (BkS r p3 L ((1,ka,nK)::(insPl I++losPl (Lk.take 0))) v w wr):=Hi (by
    have:=HS.out;rw[List.take_of_length_le (by have:=HN.out.2.1;omega)]at this;rw[List.take_zero,losPl,List.flatMap_nil,List.append_nil];exact this)
   clear HS hi hlt;obtain⟨wa,rfl⟩:∃wa:World,wa=wr:=⟨_,rfl⟩;have kp3a:=kp3;clear kp3;go_wp2_with fail;go_loopw [5] (fun s5 ws=>∃i:Nat,i≤nL∧s5= .int .i64 (i:Int)∧Hid (BkS r p3 L ((1,ka,nK)::(insPl I++losPl (Lk.take i))) v w ws)∧ws.heap[p3]? =some (.cells (mgx v0 h0 h1 h2 ka nK nK rc ia nI ic la nL lc) 33 (0,0))) (fun s5 _=>nL-(intOf s5).toNat)
   case atStart=>exact⟨0,by omega,rfl,HS2,kp3a⟩
   case round=>
    clear kp3a HS2;obtain⟨i,hi,rfl,HS,kp3⟩:=hrel;by_cases hlt:i<nL
    ·--{
     obtain⟨x,hx⟩:∃x,Lk[i]? =some x:=⟨_,List.getElem?_eq_getElem (by have:=HN.out.2.2;omega)⟩;obtain⟨_,_,_,_,hM0,_,_⟩:=HS.out;obtain⟨g,o,C,U,fr,hga,kg,c0,hle,c1,c2⟩:=lo_partsS (HF2.out.1.mod hM0 (fun b o e hs=>by have h1:=HF2.out.2.1 b o e;have h2:=HR.out _ hs;omega)) hx;have hgr:=HF2.out.2.1 g o hga;have hcc:=HF2.out.2.2.2 x (List.mem_of_getElem? hx);rw[hcc.1]at c1;rw[hcc.2]at c2;subst hga;have HTK:=Hi (take_snoc hx);have HHX:=Hi hx;clear hM0 hcc c0 hx hle;obtain⟨px,⟨ax,lx,cx⟩,⟨dx,mx',ex⟩⟩:=x;simp only at c1 c2;obtain⟨n1,hn1⟩:∃n,lx.length=n:=⟨_,rfl⟩;obtain⟨n2,hn2⟩:∃n,mx'.length=n:=⟨_,rfl⟩;rw[hn1]at c1;rw[hn2]at c2;have HNN:=Hi (Ai hn1 hn2);clear hn1 hn2;go_wp2_with fail;go_at_call 19;obtain⟨M,v1,eM,hB,hm,hg,hp⟩:=HS.out;have hlM:M.length=((1,ka,nK)::(insPl I++losPl (Lk.take i))).length:=by rw[←eM,List.length_map]
     simp only[List.length_append,List.length_cons,List.length_nil,insPl_len,losPl_len,List.length_take]at hlM;have hBL:=hB.lt;refine(Bytes_c r (L++M) v1 (by rw[List.length_append];have:=HN.out;omega) _ _ _ hB).mono ?_;rintro e w3 ⟨rfl,h',f',hP⟩;have hP2:=hP;obtain⟨v9,hB9,m9,g9⟩:=hP2;have HS3:=Hi (BkS.step eM hm hg hp (Ls kp3) (Q2:=[(0,ax,n1)]) rfl hP);replace kp3:=m9.at kp3 hp;replace kg:=m9.at kg (fun hb=>by have:=(hBL _ hb).1;omega);clear hP hB9 m9 g9 eM hB hm hg hp hlM hBL HS;have HS:=HS3;clear HS3;go_wp2_with fail;go_at_call 19;obtain⟨M,v1,eM,hB,hm,hg,hp⟩:=HS.out;have hlM:M.length=((1,ka,nK)::(insPl I++losPl (Lk.take i))++[(0,ax,n1)]).length:=by rw[←eM,List.length_map]
     simp only[List.length_append,List.length_cons,List.length_nil,insPl_len,losPl_len,List.length_take]at hlM;have hBL:=hB.lt;refine(Bytes_c r (L++M) v1 (by rw[List.length_append];have:=HN.out;omega) _ _ _ hB).mono ?_;rintro e w3 ⟨rfl,h',f',hP⟩;have hP2:=hP;obtain⟨v9,hB9,m9,g9⟩:=hP2;have HS3:=Hi (BkS.step eM hm hg hp (Ls kp3) (Q2:=[(0,dx,n2)]) rfl hP);replace kp3:=m9.at kp3 hp;replace kg:=m9.at kg (fun hb=>by have:=(hBL _ hb).1;omega);clear hP hB9 m9 g9 eM hB hm hg hp hlM hBL HS;have HS:=HS3;clear HS3;have HS4:Hid (BkS r p3 L ((1,ka,nK)::(insPl I++losPl (Lk.take (i+1)))) v w w3):=Hi (by
      rw[HTK.out,losPl_snoc];simp only[HNN.out.1,HNN.out.2];have:=HS.out;simpa only[List.cons_append,List.append_assoc] using this)
     clear HS;go_wp2_with fail;go_roundw
     case rel=>exact⟨i+1,by omega,by go_num,HS4,kp3⟩
     case measure=>simp[intOf];omega
    ·obtain rfl:nL=i:=by omega
     have HQ:Hid (BkQ r L ((1,ka,nK)::(insPl I++losPl Lk)) v w wr):=Hi (by
      have:=HS.out.q;rw[List.take_of_length_le (by have:=HN.out.2.2;omega)]at this;exact this)
     clear HS;go_wp2_with fail;go_end0;exact⟨rfl,HQ.out⟩
theorem Tx_c (x:RdR) (r:Nat) (L:List Pg) (v:Value) (hL:L.length≤800000000) (w:World) (h:BookV w r L v) (hf:MsgF r w x) (hc:x.sg.c=x.sg.l.length):Calls Tryz.prog 21 #[.pointer (some ⟨r,0,none⟩),.agg (txr x)] w fun e w'=>e= .returned (.tuple #[])∧BkQ r L (txPl x) v w w':=by
 have HF:=Hi (Ai hf (Ai hc hL));have HB0:=Hi h;have HR:Hid (∀i,Bkv r v i→r≤i):=Hi (fun i hi=>(h.lt i hi).1);clear hf hc h hL;go_enter Tryz.func21,Tryz.ntmps21;go_upto_region 0 with fail;refine ZP0 [3] ?_;refine Zb fun p3 hp3=> ?_;refine TD.nil (fun w1 hr=> ?_);obtain⟨gp3,kp3⟩:=hr.b p3;have HS:=Hi (BkS.start HB0.out hr.mod gp3);clear hr;go_wp2_with fail;go_at_call 62;obtain⟨M,v1,eM,hB,hm,hg,hp⟩:=HS.out;rw[HF.out.2.1];refine(Sigs_c r (L++M) v1 (by have hlM:=congrArg List.length eM;rw[List.length_map]at hlM;rw[List.length_append];have:=HF.out.2.2;simp only[List.length_nil,List.length_cons]at hlM;omega) _ _ _ hB).mono ?_;rintro e w2 ⟨rfl,h',f',hP⟩;have hP2:=hP;obtain⟨v9,hB9,m9,g9⟩:=hP2;have HS2:Hid (BkS r p3 L [(2,x.sg.a,x.sg.l.length)] v w w2):=Hi (BkS.step eM hm hg hp (Ls kp3) (Q2:=[(2,x.sg.a,x.sg.l.length)]) rfl hP);replace kp3:=m9.at kp3 hp;clear hP hB9 m9 g9 eM hB hm hg hp HS;go_wp2_with fail;go_at_call 63;obtain⟨M,v1,eM,hB,hm,hg,hp⟩:=HS2.out;refine(Message_c x r (L++M) v1 (by have hlM:=congrArg List.length eM;rw[List.length_map]at hlM;rw[List.length_append];have:=HF.out.2.2;simp only[List.length_nil,List.length_cons]at hlM;omega) _ hB (HF.out.1.mod hm HR.out)).mono ?_;rintro e w3 ⟨rfl,N,eN,hP⟩;have HQ:Hid (BkQ r L (txPl x) v w w3):=Hi ⟨M++N,by rw[List.map_append,eM,eN];rfl,bk_then hm hg hP⟩;clear eM hB hm hg hp HS2 eN hP;go_wp2_with fail;go_end0;exact⟨rfl,HQ.out⟩
end
section
attribute [local go_sem↓] wlKey ldKey stKey ldSg stSg wlTc ldTc stTc eqKey1
attribute [local go_sem] kc_ext kc_one kc_one0 kc_size zKey_size sgc_size sgc_ext sgc_one0 sgc_one' txr_size txr_all txr_one txr_one' txr0 txr38 txr39 txr0' txr38' txr39' zTx_size
attribute [local go_sem↓] wlTc ldTc stTc wlRdy ldRdy stRdy wlMsg ldMsg stMsg ldRole stRole
attribute [local go_sem] zRole_size zRdy_size mgx_size mgx_ext mgx_one mgx_one0 txr_ms txr_size
def ryPl (x:RdR):List Pl:=(0,x.b.a,x.b.l.length)::(txPl x++[(3,x.ro.a,x.ro.l.length)])
attribute [local go_sem] rdr0 rdr0' rdr41 rdr41' rdr_tx rdr_size rdr_all rdr_one
theorem Ready_c (x:RdR) (r:Nat) (L:List Pg) (v:Value) (hL:L.length≤700000000) (w:World) (h:BookV w r L v) (hf:MsgF r w x) (hc:x.sg.c=x.sg.l.length) (hb:x.b.c=x.b.l.length) (ho:x.ro.c=x.ro.l.length) (hp:(txPl x).length≤262142):Calls Tryz.prog 20 #[.pointer (some ⟨r,0,none⟩),.agg (rdr x)] w fun e w'=>e= .returned (.tuple #[])∧BkQ r L (ryPl x) v w w':=by
 have HF:=Hi (Ai hf (Ai hc (Ai hL (Ai hb (Ai ho hp)))));have HB0:=Hi h;have HR:Hid (∀i,Bkv r v i→r≤i):=Hi (fun i hi=>(h.lt i hi).1);clear hf hc h hL hb ho hp;go_enter Tryz.func20,Tryz.ntmps20;go_upto_region 0 with fail;refine ZP0 [3] ?_;refine Zb fun p3 hp3=> ?_;refine TD.nil (fun w1 hr=> ?_);obtain⟨gp3,kp3⟩:=hr.b p3;have HS:=Hi (BkS.start HB0.out hr.mod gp3);clear hr;go_wp2_with fail;go_at_call 19;obtain⟨M,v1,eM,hB,hm,hg,hp⟩:=HS.out;rw[HF.out.2.2.2.1];refine(Bytes_c r (L++M) v1 (by have hlM:=congrArg List.length eM;rw[List.length_map]at hlM;rw[List.length_append];have:=HF.out.2.2.1;simp only[List.length_nil,List.length_cons]at hlM;omega) _ _ _ hB).mono ?_;rintro e w2 ⟨rfl,h',f',hP⟩;have hP2:=hP;obtain⟨v9,hB9,m9,g9⟩:=hP2;have HS2:Hid (BkS r p3 L [(0,x.b.a,x.b.l.length)] v w w2):=Hi (BkS.step eM hm hg hp (Ls kp3) (Q2:=[(0,x.b.a,x.b.l.length)]) rfl hP);replace kp3:=m9.at kp3 hp;clear hP hB9 m9 g9 eM hB hm hg hp HS;go_wp2_with fail;go_at_call 21;obtain⟨M,v1,eM,hB,hm,hg,hp⟩:=HS2.out;refine(Tx_c x r (L++M) v1 (by have hlM:=congrArg List.length eM;rw[List.length_map]at hlM;rw[List.length_append];have:=HF.out.2.2.1;simp only[List.length_nil,List.length_cons]at hlM;omega) _ hB (HF.out.1.mod hm HR.out) HF.out.2.1).mono ?_;rintro e w3 ⟨rfl,N,eN,hP⟩;have hP2:=hP;obtain⟨v9,hB9,m9,g9⟩:=hP2;have HS3:Hid (BkS r p3 L ((0,x.b.a,x.b.l.length)::txPl x) v w w3):=Hi (BkS.step eM hm hg hp (Ls kp3) (Q2:=txPl x) eN hP);replace kp3:=m9.at kp3 hp;clear hP hB9 m9 g9 eM hB hm hg hp HS2 eN;go_wp2_with fail;go_at_call 61;obtain⟨M,v1,eM,hB,hm,hg,hp⟩:=HS3.out;rw[HF.out.2.2.2.2.1];refine(Roles_c r (L++M) v1 (by have hlM:=congrArg List.length eM;rw[List.length_map]at hlM;rw[List.length_append];have:=HF.out.2.2.1;have:=HF.out.2.2.2.2.2;simp only[List.length_nil,List.length_cons]at hlM;omega) _ _ _ hB).mono ?_;rintro e w4 ⟨rfl,h',f',hP⟩;have HQ:Hid (BkQ r L (ryPl x) v w w4):=Hi ⟨M++[Pg.r x.ro.a x.ro.l.length h' f'],by rw[List.map_append,eM];rfl,bk_then hm hg hP⟩;clear eM hB hm hg hp HS3 hP;go_wp2_with fail;go_end0;exact⟨rfl,HQ.out⟩
end
theorem djI {L:List Pg} (hd:(L.map Pg.pl).Pairwise DjP) {i j:Nat} {p q:Pg} (hi:L[i]? =some p) (hj:L[j]? =some q) (hij:i≠j):∀g,InAd p.a g→¬InAd q.a g:=by
 intro g h1 h2;rw[←pl_a]at h1 h2;rw[List.pairwise_map,List.pairwise_iff_getElem]at hd;obtain⟨hi',ei⟩:=List.getElem?_eq_some_iff.1 hi;obtain⟨hj',ej⟩:=List.getElem?_eq_some_iff.1 hj;rcases Nat.lt_or_gt_of_ne hij with h|h
 ·have:=hd i j hi' hj' h;rw[ei,ej]at this;exact this g (plB_in h1) (plB_in h2)
 ·have:=hd j i hj' hi' h;rw[ei,ej]at this;exact this g (plB_in h2) (plB_in h1)
theorem Apart_c (r:Nat) (L:List Pg) (w:World) (h:BookAt w r L) (hL:L.length≤1000000000) (hp:∀p∈L,WrL w p.pl∧p.pl.2.2≤65535∧∀g∈plB p.pl,g<r) (hd:(L.map Pg.pl).Pairwise DjP):Calls Tryz.prog 22 #[.pointer (some ⟨r,0,none⟩)] w fun e w'=>e= .returned (.bool true)∧Mod (fun g=>∃p∈L,InAd p.a g) w w':=by
 obtain⟨v,kr,hO⟩:=h;obtain⟨va,vc,rfl,hsl,hlt,hmx⟩:=hO.at pageT;obtain⟨n,hn⟩:∃n,L.length=n:=⟨_,rfl⟩;rw[hn]at kr hL;have HS:Hid (∀g,(∃p∈L,InAd p.a g)→g<r):=Hi (fun g ⟨p,hp',hg⟩=>(hp p hp').2.2 g (plB_in (by rw[pl_a];exact hg)));have HSL:=Hi hsl;have HLT:Hid (∀x,va=some x→r+1≤x.block):=Hi (fun x e=>(hlt x e).1);have HP:=Hi hp;have HD:=Hi hd;have HN:=Hi hn;have kr0:=Hi kr;clear hO hsl hlt hp hd hn hmx;go_enter Tryz.func22,Tryz.ntmps22;by_cases hbig:120<n
 ·go_wp2_with fail;go_ret;exact⟨rfl,Mod.refl _ _⟩
 ·go_wp2_with fail;go_loopw [3] (fun s3 ws=>∃i:Nat,i≤n∧s3= .int .i64 (i:Int)∧Hid (Mod (fun g=>∃p∈L,InAd p.a g) w ws)∧Hid (∀j p,L[j]? =some p→(j<i→SgQ ws p)∧(i≤j→WrL ws p.pl))) (fun s3 _=>n-(intOf s3).toNat)
  case atStart=>exact⟨0,by omega,rfl,Hi (Mod.refl _ _),Hi (fun j p hj=>⟨fun h=>by omega,fun _=>(HP.out p (List.mem_of_getElem? hj)).1⟩)⟩
  case round=>
   obtain⟨i,hi,rfl,HM,HI⟩:=hrel;have kr:=HM.out.at kr (fun h=>Nat.lt_irrefl _ (HS.out _ h));by_cases hlt:i<n
   ·
    obtain⟨p,hx⟩:∃p,L[i]? =some p:=⟨_,List.getElem?_eq_getElem (by have:=HN.out;omega)⟩;have hmem:=List.mem_of_getElem? hx;obtain⟨g,o,C,U,fr,hva,kl,he,hle⟩:=(HSL.out.mod (HM.out) (fun b o e hs=>by have h1:=HS.out _ hs;have h2:=HLT.out _ e;simp only at h2;omega)).block hx;subst hva;have c0:C[o+i]? =some (.iface (shT p) (.agg (shc p))):=by
     have:=cellC (j:=0) he (v:= .iface (shT p) (.agg (shc p))) rfl;simpa using this
    have HX:=Hi (Ai hx hmem);clear he hle hx hmem;go_wp2_with fail;rw[m_sign];simp only[Result.andThen,e_sign,Oper.upon];refine(signG0_c p _ ((HI.out i p HX.out.1).2 (Nat.le_refl _)) (HP.out p HX.out.2).2.1).mono ?_;rintro e w3 ⟨rfl,hsg,m3⟩;have HM3:Hid (Mod (fun g=>∃p∈L,InAd p.a g) w w3):=Hi (HM.out.trans (m3.mono (fun g _ hg=>⟨p,HX.out.2,hg⟩)));have HI3:Hid (∀j p,L[j]? =some p→(j<i+1→SgQ w3 p)∧(i+1≤j→WrL w3 p.pl)):=Hi (fun j q hj=>by
     by_cases hji:j=i
     ·subst hji;rw[HX.out.1]at hj;cases hj;exact⟨fun _=>hsg,fun h=>by omega⟩
     ·have hdj:=djI HD.out hj HX.out.1 hji;exact⟨fun h=>((HI.out j q hj).1 (by omega)).mod m3 (fun g hg=>hdj g hg),fun h=>((HI.out j q hj).2 (by omega)).mod m3 (fun g hg=>hdj g (by rw[←pl_a];exact hg))⟩)
    clear hsg m3;go_wp2_with fail;go_roundw
    case rel=>exact⟨i+1,by omega,by go_num,HM3,HI3⟩
    case measure=>simp[intOf];omega
   ·obtain rfl:i=n:=by omega
    have HI2:Hid (∀j p,L[j]? =some p→(j<0→SgP wr p)∧(0≤j→SgQ wr p)):=Hi (fun j p hj=>by
     have hj2:=(List.getElem?_eq_some_iff.1 hj).1;exact⟨fun h=>by omega,fun _=>(HI.out j p hj).1 (by have:=HN.out;omega)⟩)
    clear HI;obtain⟨wa,rfl⟩:∃wa:World,wa=wr:=⟨_,rfl⟩;go_wp2_with fail;clear kr;go_loopw [4] (fun s4 ws=>∃k:Nat,k≤i∧s4= .int .i64 (k:Int)∧Hid (Mod (fun g=>∃p∈L,InAd p.a g) w ws)∧Hid (∀j p,L[j]? =some p→(j<k→SgP ws p)∧(k≤j→SgQ ws p))) (fun s4 _=>i-(intOf s4).toNat)
    case atStart=>exact⟨0,by omega,rfl,HM,HI2⟩
    case round=>
     obtain⟨k,hk,rfl,HM2,HI⟩:=hrel;have kr:=HM2.out.at kr0.out (fun h=>Nat.lt_irrefl _ (HS.out _ h));by_cases hlt2:k<i
     ·
      obtain⟨p,hx⟩:∃p,L[k]? =some p:=⟨_,List.getElem?_eq_getElem (by have:=HN.out;omega)⟩;have hmem:=List.mem_of_getElem? hx;obtain⟨g,o,C,U,fr,hva,kl,he,hle⟩:=(HSL.out.mod (HM2.out) (fun b o e hs=>by have h1:=HS.out _ hs;have h2:=HLT.out _ e;simp only at h2;omega)).block hx;subst hva;have c0:C[o+k]? =some (.iface (shT p) (.agg (shc p))):=by
       have:=cellC (j:=0) he (v:= .iface (shT p) (.agg (shc p))) rfl;simpa using this
      have HX:=Hi (Ai hx hmem);clear he hle hx hmem;go_wp2_with fail;rw[m_sign];simp only[Result.andThen,e_sign,Oper.upon];refine(signG1_c p _ _ (HP.out p HX.out.2).1 (HP.out p HX.out.2).2.1 ((HI.out k p HX.out.1).2 (Nat.le_refl _))).mono ?_;rintro e w3 ⟨rfl,hsg,m3⟩;have HM3:Hid (Mod (fun g=>∃p∈L,InAd p.a g) w w3):=Hi (HM2.out.trans (m3.mono (fun g _ hg=>⟨p,HX.out.2,hg⟩)));have HI3:Hid (∀j p,L[j]? =some p→(j<k+1→SgP w3 p)∧(k+1≤j→SgQ w3 p)):=Hi (fun j q hj=>by
       by_cases hji:j=k
       ·subst hji;rw[HX.out.1]at hj;cases hj;exact⟨fun _=>hsg,fun h=>by omega⟩
       ·have hdj:=djI HD.out hj HX.out.1 hji;exact⟨fun h=>((HI.out j q hj).1 (by omega)).mod m3 (fun g hg=>hdj g hg),fun h=>((HI.out j q hj).2 (by omega)).mod m3 (fun g hg=>hdj g hg)⟩)
      clear hsg m3;go_wp2_with fail;go_roundw
      case rel=>exact⟨k+1,by omega,by go_num,HM3,HI3⟩
      case measure=>simp[intOf];omega
     ·obtain rfl:i=k:=by omega
      have HI3:Hid (∀p∈L,SgP wr p):=Hi (fun p hp=>by
       obtain⟨j,hj⟩:=List.mem_iff_getElem?.1 hp;have hj2:=(List.getElem?_eq_some_iff.1 hj).1;exact(HI.out j p hj).1 (by have:=HN.out;omega))
      have HM4:=HM2;clear HI2 HM HM2 HI hlt2 hk;obtain⟨wb,rfl⟩:∃wb:World,wb=wr:=⟨_,rfl⟩;have kr1:=kr;clear kr;go_wp2_with fail;go_loopw [5] (fun s5 ws=>∃k:Nat,k≤i∧s5= .int .i64 (k:Int)∧Hid (Mod (fun _=>False) wb ws)) (fun s5 _=>i-(intOf s5).toNat)
      case atStart=>exact⟨0,by omega,rfl,Hi (Mod.refl _ _)⟩
      case round=>
       obtain⟨k,hk,rfl,HM2⟩:=hrel;have kr:=HM2.out.at0 kr1;by_cases hlt2:k<i
       ·
        obtain⟨p,hx⟩:∃p,L[k]? =some p:=⟨_,List.getElem?_eq_getElem (by have:=HN.out;omega)⟩;have hmem:=List.mem_of_getElem? hx;obtain⟨g,o,C,U,fr,hva,kl,he,hle⟩:=(HSL.out.mod (HM4.out.then0 HM2.out) (fun b o e hs=>by have h1:=HS.out _ hs;have h2:=HLT.out _ e;simp only at h2;omega)).block hx;subst hva;have c0:C[o+k]? =some (.iface (shT p) (.agg (shc p))):=by
         have:=cellC (j:=0) he (v:= .iface (shT p) (.agg (shc p))) rfl;simpa using this
        have HX:=Hi (Ai hx hmem);clear he hle hx hmem;go_wp2_with fail;rw[m_own];simp only[Result.andThen,e_own,Oper.upon];refine(ownG_c p _ _ (HP.out p HX.out.2).1 (HP.out p HX.out.2).2.1 ((HI3.out p HX.out.2).mod HM2.out (fun _ _ h=>h))).mono ?_;rintro e w3 ⟨rfl,m3⟩;have HM3:=Hi (HM2.out.trans m3);clear m3;go_wp2_with fail;go_roundw
        case rel=>exact⟨k+1,by omega,by go_num,HM3⟩
        case measure=>simp[intOf];omega
       ·obtain rfl:i=k:=by omega
        have HM5:=Hi (HM4.out.then0 HM2.out);clear HM4 HM2 HI3 kr1 hlt2 hk;go_wp2_with fail;go_ret;exact⟨rfl,HM5.out⟩
def byC (l:List UInt8):Array Value:=(l.map (fun b=>u8v b)).toArray
theorem byC_size (l:List UInt8):(byC l).size=l.length:=by simp[byC]
theorem byC_set (l:List UInt8) (i:Nat) (v:UInt8):(byC l).setIfInBounds i (.int .u8 (v.toNat:Int))=byC (l.set i v):=by simp[byC,List.map_set]
theorem byC_get {l:List UInt8} {i:Nat} {x:UInt8} (h:l[i]? =some x):(byC l)[i]? =some (.int .u8 (x.toNat:Int)):=by simp[byC,h]
theorem mkByS (n:Nat) (hn:n≤10000000) (w:World):(Instr.makeSlice 22 (.int .i64 (n:Int)) (.int .i64 (n:Int))).run Tryz.prog w= .ok (.slice (some ⟨w.heap.size,0,none⟩) n n) (w.alloc (.cells (byC (List.replicate n 0)) 5)):=by
 obtain⟨i0,hi,hz0,hz1,hz2⟩:=info_parts (show(Tryz.prog.info? 5).map (fun i=>(i.zero,i.size,i.bytes))=some (some (.int .u8 0),1,1)by kernel_rfl);have:=run_make (P:=Tryz.prog) w 22 5 i0 _ Tryz.underlying22 hi hz0 .i64 .i64 (n:Int) (n:Int) (by omega) (by omega) (by rw[hz2];omega) (by omega);rw[hz1,Nat.mul_one]at this;have hc:madeCells #[Value.int .u8 0] n=byC (List.replicate n 0):=by
  apply Array.toList_inj.1;rw[toList_madeCells_one];simp[byC]
 simpa[Value.cells,hc] using this
theorem byC_at {w:World} {q:Nat} {l m:List UInt8} {U:TypeId} {fr:Nat×Nat} (h:w.heap[q]? =some (.cells (byC (l++m)) U fr)):SlAt uc 1 w (some ⟨q,0,none⟩) l:=by
 refine .inr ⟨q,0,_,U,fr,rfl,h,fun i x hx=> ?_⟩;have hi:=(List.getElem?_eq_some_iff.1 hx).1;have h1:(l++m)[i]? =some x:=by rw[List.getElem?_append_left hi,hx]
 have h2:=byC_get h1;rw[Nat.mul_one,Nat.zero_add,byC_size,List.length_append];refine⟨?_,by omega⟩;apply Array.ext_getElem?;intro j;rw[Array.getElem?_extract];cases j with
 |zero=>
  rw[if_pos (by rw[byC_size,List.length_append];omega),Nat.add_zero,h2];rfl
 |succ j=>
  rw[if_neg (by omega)];rfl
theorem twinB_c (a:Option Addr) (l:List UInt8) (c:Nat) (mk:UInt8) (w:World) (hl:SlAt uc 1 w a l) (hb:l.length≤1000000):Calls Tryz.prog 45 #[.slice a l.length c,u8v mk] w fun e w'=>∃q,e= .returned (.slice (some ⟨q,0,none⟩) l.length (l.length+3))∧w.heap.size≤q∧w'.heap[q]? =some (.cells (byC (l++[mk,mk,mk])) 5 (0,0))∧Mod (fun _=>False) w w':=by
 have HL:=Hi hl;obtain⟨n,hn⟩:∃n,l.length=n:=⟨_,rfl⟩;have HN:=Hi hn;rw[hn]at hb⊢;have hmk:=mkByS (n+3) (by omega);obtain⟨n3,hn3⟩:∃n3,n+3=n3:=⟨_,rfl⟩;rw[hn3]at hmk⊢;have hnw:IntKind.i64.wrap ((n:Int)+3)=(n3:Int):=by rw[IntKind.wrap_i64];omega
 clear hl hn;go_enter Tryz.func45,Tryz.ntmps45;go_upto_region 1 with fail;refine ZP0 [0,0,0,3,0] ?_
 iterate 3 refine Zv ?_
 (refine TD.mks (by simp only[zK];rfl) rfl (by rfl) rfl rfl ?hx4 ?hz4 hmk (fun p11 hp11=> ?n4);(case hx4=>simp only[zM];try rfl);(case hz4=>simp only[zM];try rfl);try simp only[zL]);refine Zv ?_;refine TD.nil (fun w1 hr=> ?_);obtain⟨gp11,kp11⟩:=hr.b p11;have HM1:=Hi hr.mod;have hq:w.heap.size≤p11:=gp11;clear hr hmk;go_wp2_with fail;go_loopw [6] (fun s6 ws=>∃(i:Nat) (L:List UInt8),i≤n∧s6= .int .i64 (i:Int)∧Hid (L=l.take i++List.replicate (n3-i) 0)∧ws.heap[p11]? =some (.cells (byC L) 5 (0,0))∧Hid (Mod (fun _=>False) w ws)) (fun s6 _=>n-(intOf s6).toNat)
 case atStart=>exact⟨0,List.replicate n3 0,by omega,rfl,Hi (by simp),kp11,HM1⟩
 case round=>
  obtain⟨i,L,hi,rfl,HLL,kp11,HM⟩:=hrel;by_cases hlt:i<n
  ·have hd:=Dt hlt;obtain⟨x,hx⟩:∃x,l[i]? =some x:=⟨_,List.getElem?_eq_getElem (by rw[HN.out];exact hlt)⟩;obtain⟨b,o,C,U,fr,rfl,kb0,hc⟩:=u8_at HL.out hx;have kb:=HM.out.at0 kb0;have hbp:b≠p11:=by have:=Ls kb0;omega
   clear kb0;have hsz:(byC L).size=n3:=by
    rw[byC_size,HLL.out,List.length_append,List.length_take,List.length_replicate,HN.out];omega
   have HXX:=Hi hx;have hi3:i<n3:=by omega
   clear hx;go_upto_region 5 with fail;have Lkp11:=Ls kp11;have Lkb:=Ls kb;refine ZP0 [0,0,0,0,0,1,0,5] ?_
   iterate 7 first|refine Zv ?_|refine Zd ?_
   refine Zi fun wE hr=> ?_;replace kp11:=hr.mod.at0 kp11;replace kb:=hr.mod.at0 kb;have mE:=hr.mod;refine ZS ?_;refine ZN kp11 fun w5 kp11 mS=> ?_;replace kb:=mS.at_ne kb (by omega);replace kp11:w5.heap[p11]? =some (.cells (byC (L.set i x)) 5 (0,0)):=by rw[kp11,byC_set]
   have HM5:=Hi ((HM.out.then0 mE).then mS (fun j hj e=>by omega));have HL5:Hid (L.set i x=l.take (i+1)++List.replicate (n3-(i+1)) 0):=Hi (by
    have hx:=HXX.out;have h1:(l.take i).length=i:=by rw[List.length_take,HN.out];omega
    rw[HLL.out,List.set_append,h1,if_neg (by omega),Nat.sub_self,List.take_add_one,hx,show n3-i=(n3-(i+1))+1 by omega,List.replicate_succ];simp)
   clear hr mE mS hc hsz kb;go_wp2_with fail;go_roundw
   case rel=>exact⟨i+1,L.set i x,by omega,by go_num,HL5,kp11,HM5⟩
   case measure=>simp[intOf];omega
  ·have hd:=Df hlt;obtain rfl:n=i:=by omega
   have HL0:Hid (L=l++List.replicate 3 0):=Hi (by rw[HLL.out,List.take_of_length_le (by rw[HN.out];omega),show n3-n=3 by omega]);clear HLL hi hlt;go_wp2_with fail;go_loopw [7] (fun s7 ws=>∃(i:Nat) (L:List UInt8),i≤3∧s7= .int .i64 (i:Int)∧Hid (L=l++(List.replicate i mk++List.replicate (3-i) 0))∧ws.heap[p11]? =some (.cells (byC L) 5 (0,0))∧Hid (Mod (fun _=>False) w ws)) (fun s7 _=>3-(intOf s7).toNat)
   case atStart=>exact⟨0,L,by omega,rfl,HL0,kp11,HM⟩
   case round=>
    obtain⟨i,L,hi,rfl,HLL,kp11,HM⟩:=hrel;by_cases hlt:i<3
    ·have hd:=Dt hlt;have hd1:decide ((i:Int)<3)=true:=Dt (by omega);obtain⟨k,hk⟩:∃k,n+i=k:=⟨_,rfl⟩;have hkw:IntKind.i64.wrap ((n:Int)+(i:Int))=(k:Int):=by rw[IntKind.wrap_i64];omega
     have hk3:k<n3:=by omega
     have hsz:(byC L).size=n3:=by
      rw[byC_size,HLL.out,List.length_append,List.length_append,List.length_replicate,List.length_replicate,HN.out];omega
     go_upto_region 9 with fail;have Lkp11:=Ls kp11;refine ZP0 [0,0,0,0,0,0,0,5] ?_
     iterate 7 refine Zv ?_
     refine Zi fun wE hr=> ?_;replace kp11:=hr.mod.at0 kp11;have mE:=hr.mod;refine ZS ?_;refine ZN kp11 fun w5 kp11 mS=> ?_;replace kp11:w5.heap[p11]? =some (.cells (byC (L.set k mk)) 5 (0,0)):=by rw[kp11,byC_set]
     have HM5:=Hi ((HM.out.then0 mE).then mS (fun j hj e=>by omega));have HL5:Hid (L.set k mk=l++(List.replicate (i+1) mk++List.replicate (3-(i+1)) 0)):=Hi (by
      have h1:(List.replicate i mk).length=i:=List.length_replicate;rw[HLL.out,List.set_append,HN.out,if_neg (by omega),show k-n=i by omega,List.set_append,h1,if_neg (by omega),Nat.sub_self,show 3-i=(3-(i+1))+1 by omega,List.replicate_succ,List.replicate_succ'];simp)
     clear hr mE mS hsz;go_wp2_with fail;go_roundw
     case rel=>exact⟨i+1,L.set k mk,by omega,by go_num,HL5,kp11,HM5⟩
     case measure=>simp[intOf];omega
    ·have hd:=Df hlt;have hd1:decide ((i:Int)<3)=false:=Df (by omega);obtain rfl:3=i:=by omega
     have hsl:=fun w2=>sl_head (P:=Tryz.prog) bytesT (b:=p11) (o:=0) (nn:=n3) (c:=n3) (m:=n) (by omega) (by omega) w2;go_upto_region 10 with fail;have Lkp11:=Ls kp11;refine ZP0 [0,0,0,0,0] ?_
     iterate 3 refine Zv ?_
     refine Zx hsl ?_;refine Zv ?_;refine TD.nil (fun w9 hr=> ?_);replace kp11:=hr.q kp11;have HM9:=Hi (HM.out.then0 hr.mod);have HLX:Hid (w9.heap[p11]? =some (.cells (byC (l++[mk,mk,mk])) 5 (0,0))):=Hi (by rw[kp11,HLL.out];rfl);clear hr hsl kp11;go_wp2_with fail;go_ret;exact⟨p11,rfl,hq,HLX.out,HM9.out⟩
theorem leftB_c (a:Option Addr) (l:List UInt8) (c q:Nat) (mk:UInt8) (w:World) (hl:SlAt uc 1 w a l) (hq:w.heap[q]? =some (.cells (byC (l++[mk,mk,mk])) 5 (0,0))) (hb:l.length≤1000000):Calls Tryz.prog 59 #[.slice (some ⟨q,0,none⟩) l.length (l.length+3),.slice a l.length c,u8v mk] w fun e w'=>e= .returned (.bool true)∧Mod (fun _=>False) w w':=by
 have HS:=Hi (sameB_c (some ⟨q,0,none⟩) a l l (l.length+3) c w (byC_at hq) hl hb);obtain⟨C,hC⟩:∃C,byC (l++[mk,mk,mk])=C:=⟨_,rfl⟩;obtain⟨n,hn⟩:∃n,l.length=n:=⟨_,rfl⟩;have hget:∀i,i<3→C[n+i]? =some (.int .u8 (mk.toNat:Int)):=fun i hi=>by
  rw[←hC,←hn];refine byC_get ?_;rw[List.getElem?_append_right (by omega),Nat.add_sub_cancel_left]
  match i,hi with
  |0,_=>rfl
  |1,_=>rfl
  |2,_=>rfl
 have HG:=Hi hget;rw[hC]at hq;have hs:=HS.out;rw[hn]at hs hb⊢;have HS2:=Hi hs;have hmm:((mk.toNat:Int) !=(mk.toNat:Int))=false:=by simp
 obtain⟨n3,hn3⟩:∃n3,n+3=n3:=⟨_,rfl⟩;rw[hn3]at hs⊢;have HS3:=Hi hs;have hnw:IntKind.i64.wrap ((n:Int)+3)=(n3:Int):=by rw[IntKind.wrap_i64];omega
 clear hl hn hC hget HS hs HS2;go_enter Tryz.func59,Tryz.ntmps59;go_wp2_with fail;go_at_call 41;refine HS3.out.mono ?_;rintro e w2 ⟨rfl,m2⟩;replace hq:=m2.at0 hq;have HM2:=Hi m2;have hsl:=fun w2=>sl_head (P:=Tryz.prog) bytesT (b:=q) (o:=0) (nn:=n) (c:=n3) (m:=n3) (by omega) (by omega) w2;clear m2 HS3;go_upto_region 3 with fail;have Lhq:=Ls hq;refine ZP0 [0,0,0,0,0,0] ?_
 iterate 4 refine Zv ?_
 refine Zx hsl ?_;refine Zv ?_;refine TD.nil (fun w3 hr=> ?_);replace hq:=hr.q hq;have HM3:=Hi (HM2.out.then0 hr.mod);clear hr hsl;go_wp2_with fail;go_loopw [8] (fun s8 ws=>∃i:Nat,i≤3∧s8= .int .i64 (i:Int)∧ws.heap[q]? =some (.cells C 5 (0,0))∧Hid (Mod (fun _=>False) w ws)) (fun s8 _=>3-(intOf s8).toNat)
 case atStart=>exact⟨0,by omega,rfl,hq,HM3⟩
 case round=>
  obtain⟨i,hi,rfl,hq,HM⟩:=hrel;by_cases hlt:i<3
  ·have hd:=Dt hlt;have hd1:decide ((i:Int)<3)=true:=Dt (by omega);have hg:=HG.out i hlt;obtain⟨k,hk⟩:∃k,n+i=k:=⟨_,rfl⟩;rw[hk]at hg;have hkw:IntKind.i64.wrap ((n:Int)+(i:Int))=(k:Int):=by rw[IntKind.wrap_i64];omega
   have hk3:k<n3:=by omega
   go_wp2_with fail;go_roundw
   case rel=>exact⟨i+1,by omega,by go_num,hq,HM⟩
   case measure=>simp[intOf];omega
  ·have hd:=Df hlt;have hd1:decide ((i:Int)<3)=false:=Df (by omega);go_wp2_with fail;go_ret;exact⟨rfl,HM.out⟩
theorem TwinBytes_c (a:Option Addr) (l:List UInt8) (c:Nat) (w:World) (hl:SlAt uc 1 w a l) (hb:l.length≤1000000):Calls Tryz.prog 13 #[.slice a l.length c] w fun e w'=>∃q,e= .returned (.slice (some ⟨q,0,none⟩) l.length (l.length+3))∧w.heap.size≤q∧w'.heap[q]? =some (.cells (byC (l++[165,165,165])) 5 (0,0))∧Mod (fun _=>False) w w':=by
 have HC:=Hi (twinB_c a l c 165 w hl hb);clear hl hb;go_enter Tryz.func13,Tryz.ntmps13;go_wp2_with fail;go_at_call 45;refine HC.out.mono ?_;rintro e w2 ⟨q,rfl,h1,h2,h3⟩;have HF:=Hi (Ai h1 (Ai h2 h3));clear h1 h2 h3;go_wp2_with fail;go_ret;exact⟨q,rfl,HF.out⟩
theorem LeftBytes_c (a:Option Addr) (l:List UInt8) (c q:Nat) (w:World) (hl:SlAt uc 1 w a l) (hq:w.heap[q]? =some (.cells (byC (l++[165,165,165])) 5 (0,0))) (hb:l.length≤1000000):Calls Tryz.prog 18 #[.slice (some ⟨q,0,none⟩) l.length (l.length+3),.slice a l.length c] w fun e w'=>e= .returned (.bool true)∧Mod (fun _=>False) w w':=by
 have HC:=Hi (leftB_c a l c q 165 w hl hq hb);clear hl hb hq;go_enter Tryz.func18,Tryz.ntmps18;go_wp2_with fail;go_at_call 59;refine HC.out.mono ?_;rintro e w2 ⟨rfl,h3⟩;go_wp2_with fail;go_ret;exact⟨rfl,h3⟩
section
attribute [local go_sem↓] wlKey ldKey stKey ldSg stSg wlTc ldTc stTc eqKey1
attribute [local go_sem] kc_ext kc_one kc_one0 kc_size zKey_size sgc_size sgc_ext sgc_one0 sgc_one' txr_size txr_all txr_one txr_one' txr0 txr38 txr39 txr0' txr38' txr39' zTx_size
theorem ready_ok {T:TbL} {B:List UInt8} {y:RyP} (h:readyP T B= .ok y):∃x ws rs ro,wireP B= .ok x∧rolesP x.m ws rs= .ok ro∧y=tellP B x ro∧ro.length=totP x:=by
 unfold readyP at h;split at h
 ·cases h
 ·rename_i x hx;split at h
  ·cases h
  ·rename_i ws rs hres;split at h
   ·cases h
   ·rename_i ro hro;cases h;refine⟨x,ws,rs,ro,hx,hro,rfl,?_⟩;have h1:=roles_len hro;have h2:=res_len hres;simp only[List.length_nil]at h2;unfold totP;omega
end
section
attribute [local go_sem↓] wlKey ldKey stKey ldSg stSg wlTc ldTc stTc eqKey1
attribute [local go_sem] kc_ext kc_one kc_one0 kc_size zKey_size sgc_size sgc_ext sgc_one0 sgc_one' txr_size txr_all txr_one txr_one' txr0 txr38 txr39 txr0' txr38' txr39' zTx_size
attribute [local go_sem↓] wlRdy ldRdy stRdy wlTc ldTc stTc
attribute [local go_sem] zTc_size zTc_ext zTc_all zTc_all0 rdr_size rdr_all rdr_one zRdy_size zRdy_one
def errN (T:TbL) (l:List UInt8):Nat:=match readyP T l with
 | .ok _=>0
 | .error n=>n
def ansP (T:TbL) (l:List UInt8):RyP:=match readyP T l with
 | .ok y=>y
 | .error _=>ryP rd0
def werN (l:List UInt8):Nat:=match wireP l with
 | .ok _=>0
 | .error n=>n
def wansP (l:List UInt8):TxP:=match wireP l with
 | .ok x=>x
 | .error _=>txP rd0
theorem ns_nil {α:Type} {f:α→Array Value} {n:Nat} {E:TypeId} {b:Nat} {w:World}:NewS f n E b w (.slice none 0 0) ([]:List α):= .inl ⟨rfl,rfl⟩
theorem txO_0 (b:Nat) (w:World):TxO b w rd0:=⟨ns_nil,ns_nil,ns_nil,⟨.nil,List.Pairwise.nil,fun g h=>by cases h⟩,ns_nil,⟨.nil,List.Pairwise.nil,fun g h=>by cases h⟩,fun g h=>by cases h⟩
theorem txB_0:TxB (txP rd0):=⟨by decide,by decide,⟨by decide,fun x h=>by cases h⟩,by decide,fun x h=>by cases h⟩
theorem ryO_0 (b:Nat) (w:World):RyO b w rd0:=⟨txO_0 b w,ns_nil,ns_nil,fun g h=>(by cases h),fun g h=>(by cases h),fun g h e=>(by cases e)⟩
theorem txRd_0 (w:World):TxRd w rd0:=(txO_0 0 w).rd txB_0
theorem ryRd_0 (w:World):RyRd w rd0:=⟨⟨.inl rfl,by decide⟩,txRd_0 w,.inl rfl,by decide⟩
theorem ready_ro {T:TbL} {l:List UInt8} {y:RyP} (h:readyP T l= .ok y):y.b=l∧y.ro.length≤65535:=by
 obtain⟨x,ws,rs,ro,h1,h2,rfl,h4⟩:=ready_ok h;exact⟨rfl,by show ro.length≤65535;rw[h4];have:=(wire_few h1).1;omega⟩
theorem reaP_u {T:TbL} {w w':World} {l:List UInt8} {e:Ending} (h:ReaP T w l e w'):∃r,e= .returned (.tuple #[.agg (rdr r),i64n (errN T l)])∧Mod (fun _=>False) w w'∧RyO w.heap.size w' r∧TxB (txP r)∧ryP r=ansP T l∧r.b.l.length≤l.length∧r.ro.l.length≤65535:=by
 obtain⟨hm,h⟩:=h;unfold errN ansP;cases hd:readyP T l with
 |error n=>
  rw[hd]at h;exact⟨rd0,h,hm,ryO_0 _ _,txB_0,rfl,Nat.zero_le _,Nat.zero_le _⟩
 |ok y=>
  rw[hd]at h;obtain⟨r,h1,h2,h3,h4⟩:=h;obtain⟨g1,g2⟩:=ready_ro hd;rw[←h3]at g1 g2;exact⟨r,h1,hm,h2,h4,h3,by rw[show r.b.l=l from g1];exact Nat.le_refl _,g2⟩
theorem rreaP_u {T:TbL} {w w':World} {l:List UInt8} {e:Ending} (h:RreaP T w l e w'):∃r,e= .returned (.tuple #[.agg (rdr r),i64n (errN T l)])∧Mod (fun _=>False) w w'∧RyRd w' r∧ryP r=ansP T l:=by
 obtain⟨hm,h⟩:=h;unfold errN ansP;cases hd:readyP T l with
 |error n=>
  rw[hd]at h;exact⟨rd0,h,hm,ryRd_0 _,rfl⟩
 |ok y=>
  rw[hd]at h;obtain⟨r,h1,h2,h3⟩:=h;exact⟨r,h1,hm,h2,h3⟩
theorem wirP_u {w w':World} {l:List UInt8} {e:Ending} (h:WirP w l e w'):∃r,e= .returned (.tuple #[.agg (txr r),i64n (werN l)])∧Mod (fun _=>False) w w'∧TxO w.heap.size w' r∧TxB (txP r)∧txP r=wansP l:=by
 unfold WirP at h;obtain⟨hm,h⟩:=h;unfold werN wansP;cases hd:wireP l with
 |error n=>
  rw[hd]at h;exact⟨rd0,h,hm,txO_0 _ _,txB_0,rfl⟩
 |ok y=>
  rw[hd]at h;obtain⟨r,h1,h2,h3,h4⟩:=h;exact⟨r,h1,hm,h2,h3▸h4,h3⟩
theorem rwirP_u {w w':World} {l:List UInt8} {e:Ending} (h:RwirP w l e w'):∃r,e= .returned (.tuple #[.agg (txr r),i64n (werN l)])∧Mod (fun _=>False) w w'∧TxRd w' r∧txP r=wansP l:=by
 unfold RwirP at h;obtain⟨hm,h⟩:=h;unfold werN wansP;cases hd:wireP l with
 |error n=>
  rw[hd]at h;exact⟨rd0,h,hm,txRd_0 _,rfl⟩
 |ok y=>
  rw[hd]at h;obtain⟨r,h1,h2,h3,h4⟩:=h;exact⟨r,h1,hm,h2.rd (h3▸h4),h3⟩
theorem RreaP.out {T:TbL} {w w':World} {l:List UInt8} (h:RreaP T w l .outgrown w'):False:=by
 obtain⟨_,h,_⟩:=rreaP_u h;cases h
theorem RreaP.pan {T:TbL} {w w':World} {l:List UInt8} {ch:List PanicEntry} (h:RreaP T w l (.panicked ch) w'):False:=by
 obtain⟨_,h,_⟩:=rreaP_u h;cases h
theorem RyO.mod0 {b:Nat} {w w':World} {r:RdR} (h:RyO b w r) (hm:Mod (fun _=>False) w w'):RyO b w' r:=⟨h.1.mod0 hm,h.2.1.mod hm (fun _ _ h=>h),h.2.2.1.mod hm (fun _ _ h=>h),h.2.2.2⟩
theorem RyO.rdd {b:Nat} {w:World} {r:RdR} (h:RyO b w r) (hB:TxB (txP r)) (h1:r.b.l.length≤1000000) (h2:r.ro.l.length≤1000000):RyRd w r:=⟨⟨ns_rd h.2.1,h1⟩,h.1.rd hB,ns_rd h.2.2.1,h2⟩
theorem ry_pl {b:Nat} {w:World} {r:RdR} (h:RyO b w r) (hB:TxB (txP r)) (h1:r.b.l.length≤65535) (h2:r.ro.l.length≤65535):(∀p∈ryPl r,WrL w p∧p.2.2≤65535∧∀g∈plB p,b≤g∧g<w.heap.size)∧(ryPl r).Pairwise DjP:=by
 obtain⟨t1,t2⟩:=tx_pl h.1 hB;have tb:∀p∈txPl r,∀g∈plB p,g∈blk r:=fun p hp g hg=>by rw[←txPl_b];exact List.mem_flatMap.2 ⟨p,hp,hg⟩
 have eb:plB (0,r.b.a,r.b.l.length)=(Value.slice r.b.a r.b.l.length r.b.c).ownBlock.toList:=plB_eq _ _ _ _ _;have er:plB (3,r.ro.a,r.ro.l.length)=(Value.slice r.ro.a r.ro.l.length r.ro.c).ownBlock.toList:=plB_eq _ _ _ _ _;refine⟨fun p hp=> ?_,?_⟩
 ·rcases List.mem_cons.1 hp with rfl|hp
  ·refine⟨WrL.y h.2.1,h1,fun g hg=> ?_⟩;rw[eb,Option.mem_toList]at hg;exact h.2.1.lt g hg
  rcases List.mem_append.1 hp with hp|hp
  ·exact⟨(t1 p hp).1,(t1 p hp).2,fun g hg=>h.1.blk g (tb p hp g hg)⟩
  ·rw[List.mem_singleton]at hp;subst hp;refine⟨WrL.r h.2.2.1,h2,fun g hg=> ?_⟩;rw[er,Option.mem_toList]at hg;exact h.2.2.1.lt g hg
 ·unfold ryPl;refine List.pairwise_cons.2 ⟨fun q hq g hg hg'=> ?_,List.pairwise_append.2 ⟨t2,List.pairwise_singleton _ _,fun p hp q hq g hg hg'=> ?_⟩⟩
  ·rw[eb,Option.mem_toList]at hg;rcases List.mem_append.1 hq with hq|hq
   ·have:=h.2.2.2.2.1 g (tb q hq g hg') g hg;omega
   ·rw[List.mem_singleton]at hq;subst hq;rw[er,Option.mem_toList]at hg';have:=h.2.2.2.2.2 g g hg' hg;omega
  ·rw[List.mem_singleton]at hq;subst hq;rw[er,Option.mem_toList]at hg';have:=h.2.2.2.1 g (tb p hp g hg) g hg';omega
def zBook:Array Value:= #[.slice none 0 0]
theorem ldBook (w:World) (b o:Nat):(Instr.loadAt 64 (.pointer (some ⟨b,o,none⟩))).run Tryz.prog w=
   match w.heap[b]? with
   |some (.cells cs _ _)=>if o+1≤cs.size then .ok (.agg (cs.extract o (o+1))) w else farL Tryz.prog w 64 b o
   |_=>farL Tryz.prog w 64 b o:=load_rule (d:=_) Tryz.underlying64 rfl (by kernel_rfl) w b o
theorem stBook (w:World) (b o:Nat) (xs:Array Value):(Instr.storeAt 64 (.pointer (some ⟨b,o,none⟩)) (.agg xs)).run Tryz.prog w=
   match w.heap[b]? with
   |some (.cells cs U (0,0))=>
    if o+1≤cs.size∧xs.size=1∧xs.all (·.oneCell')=true then .ok () (setBlock w b (.cells (if o=0∧1=cs.size then xs else wr cs o xs.toList) U (0,0)))else farS Tryz.prog w 64 b o (.agg xs)
   |_=>farS Tryz.prog w 64 b o (.agg xs):=store_rule (by kernel_rfl) w b o xs
theorem alBook (w:World):(Instr.alloc 64 true (.tuple #[])).run Tryz.prog w= .ok (.pointer (some ⟨w.heap.size,0,none⟩)) (w.alloc (.cells zBook 64)):=
 run_alloc_row (z:= .agg zBook) (fun w=>by kernel_rfl) w
theorem alBk (w:World):(Instr.alloc 64 true (.tuple #[])).run Tryz.prog w= .ok (.pointer (some ⟨w.heap.size,0,none⟩)) (w.alloc (.cells #[.slice none 0 0] 64)):=alBook w
attribute [local go_sem↓] stBook
theorem bBook0 (w:World):(Instr.build 64 #[]).run Tryz.prog w= .ok (.agg #[.slice none 0 0]) w:=by kernel_rfl
def BkU (p:Nat) (Q:List Pl) (w ws:World):Prop:=∃Lp v,Lp.map Pg.pl=Q∧BookV ws p Lp v∧Mod (fun i=>p≤i) w ws
theorem BkU.step {p:Nat} {Q Q2:List Pl} {w w1 w2:World} {Lp:List Pg} {v:Value} (e:Lp.map Pg.pl=Q) (hB:BookV w1 p Lp v) (hm:Mod (fun i=>p≤i) w w1) (h:BkQ p Lp Q2 v w1 w2):BkU p (Q++Q2) w w2:=by
 obtain⟨M,eM,v2,hB2,m2,_⟩:=h;exact⟨Lp++M,v2,by rw[List.map_append,e,eM],hB2,hm.trans (m2.mono (fun i _ hi=>(hB.lt i hi).1))⟩
theorem BkU.mod {p:Nat} {Q:List Pl} {w w1:World} (h:BkU p Q w w1):Mod (fun i=>p≤i) w w1:=by
 obtain⟨_,_,_,_,h⟩:=h;exact h
theorem BkU.step1 {p:Nat} {Q:List Pl} {w w1 w2:World} {Lp:List Pg} {v:Value} {x:Pg} (e:Lp.map Pg.pl=Q) (hB:BookV w1 p Lp v) (hm:Mod (fun i=>p≤i) w w1) (h:BkP p Lp [x] v w1 w2):BkU p (Q++[x.pl]) w w2:=BkU.step e hB hm ⟨[x],rfl,h⟩
theorem all_pl {q bn b3 b4 b7:Nat} {w4 w:World} {rx rv:RdR} {B:List UInt8} (hq:q<b3) (kq:w.heap[q]? =some (.cells (byC (B++[165,165,165])) 5 (0,0))) (hn:B.length=bn) (hb:bn≤5000)
  (hx4:RyO b3 w4 rx) (hx:RyO b3 w rx) (hB:TxB (txP rx)) (h1:rx.b.l.length≤65535) (h2:rx.ro.l.length≤65535) (hv:TxO b7 w rv) (hBv:TxB (txP rv)) (h4:w4.heap.size≤b7) (h34:b3≤w4.heap.size) (hqw:b4≤q):
  (∀p∈([]++[(4+(bn+3),some ⟨q,0,none⟩,bn)]++ryPl rx)++txPl rv,WrL w p∧p.2.2≤65535∧∀g∈plB p,b4≤g∧g<w.heap.size)∧(([]++[((4+(bn+3),some ⟨q,0,none⟩,bn):Pl)]++ryPl rx)++txPl rv).Pairwise DjP:=by
 obtain⟨a1,a2⟩:=ry_pl hx hB h1 h2;have a4:=(ry_pl hx4 hB h1 h2).1;obtain⟨c1,c2⟩:=tx_pl hv hBv;have cb:∀p∈txPl rv,∀g∈plB p,b7≤g∧g<w.heap.size:=fun p hp g hg=>hv.blk g (by rw[←txPl_b];exact List.mem_flatMap.2 ⟨p,hp,hg⟩);have hqb:∀g,g∈plB (4+(bn+3),some ⟨q,0,none⟩,bn)→g=q:=fun g hg=>by simpa[plB,Value.ownBlock] using hg
 have hz:WrL w (4+(bn+3),some ⟨q,0,none⟩,bn):=by
  refine WrL.z (l:=B++[165,165,165]) (by simp;omega) (by omega) (by omega) ?_;have hs:SlAt uc 1 w (some ⟨q,0,none⟩) (B++[165,165,165]):=byC_at (m:=[]) (by rw[List.append_nil];exact kq);rcases hs with h|⟨g,o,C,U,fr,e,hk,hr⟩
  ·simp at h
  ·cases e;rw[kq]at hk;cases hk;exact .inr ⟨q,0,_,_,rfl,kq,hr⟩
 rw[List.nil_append];refine⟨fun p hp=> ?_,?_⟩
 ·rcases List.mem_append.1 hp with hp|hp
  ·rcases List.mem_append.1 hp with hp|hp
   ·rw[List.mem_singleton]at hp;subst hp;exact⟨hz,by show bn≤65535;omega,fun g hg=>by rw[hqb g hg];exact⟨hqw,Ls kq⟩⟩
   ·exact⟨(a1 p hp).1,(a1 p hp).2.1,fun g hg=>⟨by have:=((a1 p hp).2.2 g hg).1;omega,((a1 p hp).2.2 g hg).2⟩⟩
  ·refine⟨(c1 p hp).1,(c1 p hp).2,fun g hg=>⟨?_,(cb p hp g hg).2⟩⟩;have h5:=(cb p hp g hg).1;omega
 ·refine List.pairwise_append.2 ⟨List.pairwise_append.2 ⟨List.pairwise_singleton _ _,a2,fun p hp p2 hp2 g hg hg2=> ?_⟩,c2,fun p hp p2 hp2 g hg hg2=> ?_⟩
  ·rw[List.mem_singleton]at hp;subst hp;have:=hqb g hg;have:=((a1 p2 hp2).2.2 g hg2).1;omega
  ·have h5:=(cb p2 hp2 g hg2).1;rcases List.mem_append.1 hp with hp|hp
   ·rw[List.mem_singleton]at hp;subst hp;have:=hqb g hg;omega
   ·have:=((a4 p hp).2.2 g hg).2;omega
theorem ofLaw_c (ba:Option Addr) (B:List UInt8) (bc:Nat) (la:Option Addr) (L:List TbR) (lc:Nat) (w:World) (hb:ArgB w ba B bc) (hl:SlAt tbr 33 w la L) (hok:TasOk w L) (hB:BudW w):
  Calls Tryz.prog 4 #[.slice ba B.length bc,.slice la L.length lc] w fun e w'=>e= .returned (.bool true)∧Mod (fun _=>False) w w':=by
 have HB:=Hi hB;have HA:=Hi hb;have HL:=Hi (Ai hl hok);have HGR:=Hi (great_c ba B.length bc la L lc w hl);obtain⟨bn,hbn⟩:∃bn,B.length=bn:=⟨_,rfl⟩;have HBN:=Hi hbn;rw[hbn]at HGR⊢;clear hb hl hok hB hbn;cases hgr:greatB bn L with
 |true=>
  have HE:=Hi hgr;go_enter Tryz.func4,Tryz.ntmps4;go_wp2_with fail;go_at_call 11;refine HGR.out.mono ?_;rintro e w1 ⟨rfl,m1⟩;have HM1:=Hi m1;rw[HE.out];clear m1 hgr;go_wp2_with fail;go_at_call 8;refine(lives_c _ (HB.out.mod0 HM1.out)).mono ?_;rintro e w2 ⟨rfl,m2⟩;go_wp2_with fail;go_ret;exact⟨rfl,HM1.out.then0 m2⟩
 |false=>
  have HE:=Hi hgr;obtain⟨g1,g2,g3⟩:=great_no hgr;have HG:=Hi (Ai g1 (Ai g2 g3));go_enter Tryz.func4,Tryz.ntmps4;go_wp2_with fail;go_at_call 11;refine HGR.out.mono ?_;rintro e w1 ⟨rfl,m1⟩;have HM1:=Hi m1;rw[HE.out];clear m1 hgr g1 g2 g3;go_wp2_with fail;go_at_call 12;refine(laid_c la L lc _ (HL.out.1.mod0 HM1.out) (fun x hx=>(HL.out.2.mod0 HM1.out x hx).f (HG.out.2.2 x hx)) (by have:=HG.out.2.1;omega)).mono ?_;rintro e w2 ⟨h,r,m,b,v,rfl,hRA,hRf,hwm,m2⟩;have HM2:=Hi (HM1.out.then0 m2);have HRA:=Hi (Ai hRA (Ai hRf hwm));clear hRA hRf hwm m2;have hT:=TwinBytes_c ba B bc w2 (HA.out.at_.mod0 HM2.out) (by have:=HG.out.1;have:=HBN.out;omega);rw[HBN.out]at hT;have HT:=Hi hT;clear hT;go_wp2_with fail;go_at_call 13;refine HT.out.mono ?_;rintro e w3 ⟨q,rfl,hq,kq,m3⟩;have HKQ:=Hi (Ai hq kq);have HM3:=Hi (HM2.out.trans m3);have HRA3:=Hi (HRA.out.1.mod0 m3);have HRF3:=Hi (HRA.out.2.1.mod0 m3);clear hq kq m3 HT;have hC:=ready_c (l:=B) (c:=B.length+3) w3 HRA3.out (HB.out.mod0 HM3.out) (byC_at HKQ.out.2) (by omega) (by intro h;cases h) (by have:=HG.out.1;have:=HBN.out;omega) (by intro x h;cases h;exact Ls HKQ.out.2);rw[HBN.out]at hC;go_upto_region 5 with fail;refine region_seq 9 rfl ?_;simp only[List.range,List.range.loop]
  iterate 2 refine Zq ?_
  refine ZC hC ?hout (fun vn wn hR=> ?hret) (fun ch wn hR=> ?hpan)
  case hout=>exact fun w' h=>h.out
  case hpan=>exact hR.pan.elim
  case hret=>
  obtain⟨rx,e0,hm,hO,hTB,hans,hbl,hrl⟩:=reaP_u hR;cases e0;have HM4:=Hi (HM3.out.trans hm);have HS34:=Hi hm.size;have HX:=Hi (Ai hO (Ai hTB (Ai hans (Ai hbl hrl))));have HRF4:=Hi (HRF3.out.mod0 hm);have HQ4:=Hi (Ai (Ls HKQ.out.2) (hm.at0 HKQ.out.2));clear hm hO hTB hans hbl hrl hC hR;obtain⟨en,hen⟩:∃en,errN (laidT L) B=en:=⟨_,rfl⟩;have HEN:=Hi hen;rw[hen];clear hen;(try simp only[zL]);obtain⟨w4,rfl⟩:∃w4:World,w4=wn:=⟨_,rfl⟩
  iterate 3 refine Zq ?_
  (refine sq_alloc (by simp only[zK];rfl) (by rfl) rfl alRdy (fun p8 wn gp8 kp8 mp8=> ?n7);try simp only[zL]);refine ZT ?_;refine ZQ kp8 fun wn kp8 mS=> ?_;refine Zq ?_;refine sq_nil ?_;replace kp8:wn.heap[p8]? =some (.cells (rdr rx) 41 (0,0)):=kp8;have m4:Mod (fun _=>False) w4 wn:=mp8.then mS (fun i hi e=>by omega);have HM5:=Hi (HM4.out.then0 m4);have HRF5:=Hi (HRF4.out.mod0 m4);have HS45:=Hi m4.size;have HX5:=Hi (HX.out.1.mod0 m4);have HQ5:=Hi (m4.at0 HQ4.out.2);have HW34:=Hi (Ai (Ls HKQ.out.2) HKQ.out.1);clear mS mp8 gp8 m4 HRF4 HQ4 HRF3 HRA3;obtain⟨w5,rfl⟩:∃w5:World,w5=wn:=⟨_,rfl⟩;have hC:=rready_c (T:=laidT L) (c:=bc) w5 HRF5.out (by have:=laidT_len L L.length;rw[List.take_length]at this;have:=HG.out.2.1;omega) (HA.out.at_.mod0 HM5.out) HA.out.le HA.out.nn (by have:=HG.out.1;have:=HBN.out;omega) (HA.out.mod0 HM5.out).inn;rw[HBN.out]at hC;go_upto_region 6 with fail;refine region_seq 9 rfl ?_;simp only[List.range,List.range.loop]
  iterate 2 refine Zq ?_
  refine ZC hC ?hout (fun vn wn hR=> ?hret) (fun ch wn hR=> ?hpan)
  case hout=>exact fun w' h=>h.out
  case hpan=>exact hR.pan.elim
  case hret=>
  obtain⟨ry,e0,hm,hO,hans⟩:=rreaP_u hR;rw[HEN.out]at e0;cases e0;have HM6:=Hi (HM5.out.trans hm);have HY:=Hi (Ai hO hans);have HX6:=Hi (HX5.out.mod0 hm);have HS56:=Hi hm.size;have HQ6:=Hi (hm.at0 HQ5.out);have kp8':=hm.at0 kp8;have HL8:=Hi (Ls kp8);clear hm hO hans hC hR kp8 HX5 HQ5;have kp8:=kp8';clear kp8';(try simp only[zL]);obtain⟨w6,rfl⟩:∃w6:World,w6=wn:=⟨_,rfl⟩
  iterate 3 refine Zq ?_
  (refine sq_alloc (by simp only[zK];rfl) (by rfl) rfl alRdy (fun p10 wn gp10 kp10 mp10=> ?n16);try simp only[zL]);refine ZT ?_;refine ZQ kp10 fun wn kp10 mS=> ?_;refine Zq ?_;refine sq_nil ?_;replace kp10:wn.heap[p10]? =some (.cells (rdr ry) 41 (0,0)):=kp10;have m4:Mod (fun _=>False) w6 wn:=mp10.then mS (fun i hi e=>by omega);have HM7:=Hi (HM6.out.then0 m4);have HX7:=Hi (HX6.out.mod0 m4);have HS67:=Hi m4.size;have HY7:=Hi (HY.out.1.mod0 m4);have HQ7:=Hi (m4.at0 HQ6.out);have kp8':=m4.at0 kp8;clear mS mp10 gp10 m4 kp8 HX6 HQ6;have kp8:=kp8';clear kp8';obtain⟨w7,rfl⟩:∃w7:World,w7=wn:=⟨_,rfl⟩;have hC:=wire_c (l:=B) (c:=B.length+3) w7 (byC_at HQ7.out) (by omega) (by intro h;cases h) (by have:=HG.out.1;have:=HBN.out;omega) (by intro x h;cases h;exact Ls HQ7.out);rw[HBN.out]at hC;go_upto_region 7 with fail;refine region_seq 8 rfl ?_;simp only[List.range,List.range.loop];refine Zq ?_;refine ZC hC ?hout (fun vn wn hR=> ?hret) (fun ch wn hR=> ?hpan)
  case hout=>exact fun w' h=>h.out
  case hpan=>exact hR.pan.elim
  case hret=>
  obtain⟨rv,e0,hm,hO,hTB,hans⟩:=wirP_u hR;cases e0;have HM8:=Hi (HM7.out.trans hm);have HV:=Hi (Ai hO (Ai hTB hans));have HX8:=Hi (HX7.out.mod0 hm);have HY8:=Hi (HY7.out.mod0 hm);have HQ8:=Hi (hm.at0 HQ7.out);have kp8':=hm.at0 kp8;have kp10':=hm.at0 kp10;clear hm hO hTB hans hC hR kp8 kp10 HX7 HY7 HQ7;have kp8:=kp8';have kp10:=kp10';clear kp8' kp10';obtain⟨wen,hwen⟩:∃wen,werN B=wen:=⟨_,rfl⟩;have HWEN:=Hi hwen;rw[hwen];clear hwen;(try simp only[zL]);obtain⟨w8,rfl⟩:∃w8:World,w8=wn:=⟨_,rfl⟩
  iterate 3 refine Zq ?_
  (refine sq_alloc (by simp only[zK];rfl) (by rfl) rfl alTx (fun p12 wn gp12 kp12 mp12=> ?n24);try simp only[zL]);refine ZT ?_;refine ZQ kp12 fun wn kp12 mS=> ?_;refine Zq ?_;refine sq_nil ?_;replace kp12:wn.heap[p12]? =some (.cells (txr rv) 35 (0,0)):=kp12;have m4:Mod (fun _=>False) w8 wn:=mp12.then mS (fun i hi e=>by omega);have HM9:=Hi (HM8.out.then0 m4);have HX9:=Hi (HX8.out.mod0 m4);have HY9:=Hi (HY8.out.mod0 m4);have HV9:=Hi (HV.out.1.mod0 m4);have HQ9:=Hi (m4.at0 HQ8.out);have kp8':=m4.at0 kp8;have kp10':=m4.at0 kp10;clear mS mp12 gp12 m4 kp8 kp10 HX8 HY8 HQ8;have kp8:=kp8';have kp10:=kp10';clear kp8' kp10';obtain⟨w9,rfl⟩:∃w9:World,w9=wn:=⟨_,rfl⟩;have hC:=rwire_c (c:=bc) w9 (HA.out.at_.mod0 HM9.out) HA.out.le HA.out.nn (by have:=HG.out.1;have:=HBN.out;omega) (HA.out.mod0 HM9.out).inn;rw[HBN.out]at hC;go_upto_region 8 with fail;refine region_seq 8 rfl ?_;simp only[List.range,List.range.loop];refine Zq ?_;refine ZC hC ?hout (fun vn wn hR=> ?hret) (fun ch wn hR=> ?hpan)
  case hout=>exact fun w' h=>h.noOut
  case hpan=>exact hR.noPan.elim
  case hret=>
  obtain⟨rz,e0,hm,hO,hans⟩:=rwirP_u hR;rw[HWEN.out]at e0;cases e0;have HM10:=Hi (HM9.out.trans hm);have HZ:=Hi (Ai hO hans);have HX10:=Hi (HX9.out.mod0 hm);have HY10:=Hi (HY9.out.mod0 hm);have HV10:=Hi (HV9.out.mod0 hm);have HQ10:=Hi (hm.at0 HQ9.out);have kp8':=hm.at0 kp8;have kp10':=hm.at0 kp10;have kp12':=hm.at0 kp12;clear hm hO hans hC hR kp8 kp10 kp12 HX9 HY9 HV9 HQ9;have kp8:=kp8';have kp10:=kp10';have kp12:=kp12';clear kp8' kp10' kp12';(try simp only[zL]);obtain⟨w10,rfl⟩:∃w10:World,w10=wn:=⟨_,rfl⟩
  iterate 3 refine Zq ?_
  (refine sq_alloc (by simp only[zK];rfl) (by rfl) rfl alTx (fun p14 wn gp14 kp14 mp14=> ?n32);try simp only[zL]);refine ZT ?_;refine ZQ kp14 fun wn kp14 mS=> ?_;refine Zq ?_;refine sq_nil ?_;replace kp14:wn.heap[p14]? =some (.cells (txr rz) 35 (0,0)):=kp14;have m4:Mod (fun _=>False) w10 wn:=mp14.then mS (fun i hi e=>by omega);have HM11:=Hi (HM10.out.then0 m4);have HX11:=Hi (HX10.out.mod0 m4);have HY11:=Hi (HY10.out.mod0 m4);have HV11:=Hi (HV10.out.mod0 m4);have HZ11:=Hi (HZ.out.1.mod0 m4);have HQ11:=Hi (m4.at0 HQ10.out);have kp8':=m4.at0 kp8;have kp10':=m4.at0 kp10;have kp12':=m4.at0 kp12;clear mS mp14 gp14 m4 kp8 kp10 kp12 HX10 HY10 HV10 HQ10;have kp8:=kp8';have kp10:=kp10';have kp12:=kp12';clear kp8' kp10' kp12';obtain⟨w11,rfl⟩:∃w11:World,w11=wn:=⟨_,rfl⟩;have HXR:=Hi (HX11.out.rdd HX.out.2.1 (by have:=HX.out.2.2.2.1;have:=HG.out.1;have:=HBN.out;omega) (by have:=HX.out.2.2.2.2;omega));have HVR:=Hi (HV11.out.rd HV.out.2.1);have HXY:Hid (ryP rx=ryP ry):=Hi (HX.out.2.2.1.trans HY.out.2.symm);have HVZ:Hid (txP rv=txP rz):=Hi (HV.out.2.2.trans HZ.out.2.symm);have hn1:((en:Int) !=(en:Int))=false:=by simp
  have hn2:((wen:Int) !=(wen:Int))=false:=by simp
  have hn3:(en !=en)=false:=by simp
  have hn4:(wen !=wen)=false:=by simp
  have hLB:=fun w2 (m:Mod (fun _=>False) w11 w2)=>LeftBytes_c ba B bc q w2 (HA.out.at_.mod0 (HM11.out.then0 m)) (m.at0 HQ11.out) (by have:=HG.out.1;have:=HBN.out;omega);rw[HBN.out]at hLB;have HLB:=Hi hLB;clear hLB;go_upto_region 9 with fail;have Lkp8:=Ls kp8;have Lkp10:=Ls kp10;have Lkp12:=Ls kp12;have Lkp14:=Ls kp14;refine ZR0 (fun _ _ v=>v= .bool true) [1,1,2,0,0,0,0,0,0,0,1,1,2,0,0,0,0,0,0,0,0,0,0,2,0,0] ?_;(refine TD.load (v:= ?v35) (p:= ?p35) (Mod.refl _ _) (by simp only[zK];rfl) rfl (by rfl) rfl ?hx35 (fun wq hSq=> ?y35) ?n35;(case hx35=>simp only[zM];try rfl);(case y35=>(have kp8q:=hSq.at kp8 (fun h=>h);have kp10q:=hSq.at kp10 (fun h=>h);have kp12q:=hSq.at kp12 (fun h=>h);have kp14q:=hSq.at kp14 (fun h=>h);exact(ldRdyR kp8q)));try simp only[zL]);(refine TD.load (v:= ?v36) (p:= ?p36) (Mod.refl _ _) (by simp only[zK];rfl) rfl (by rfl) rfl ?hx36 (fun wq hSq=> ?y36) ?n36;(case hx36=>simp only[zM];try rfl);(case y36=>(have kp8q:=hSq.at kp8 (fun h=>h);have kp10q:=hSq.at kp10 (fun h=>h);have kp12q:=hSq.at kp12 (fun h=>h);have kp14q:=hSq.at kp14 (fun h=>h);exact(ldRdyR kp10q)));try simp only[zL]);(refine Zc ?_ (s:=by intro wq hSq;exact(sameReady_c rx ry wq (HXR.out.mod0 hSq) (HY11.out.mod0 hSq) HXY.out).mono (fun e w' h=>⟨_,h.1,rfl,h.2⟩));rintro _ hC;subst hC;try simp only[zL])
  iterate 7 refine Zv ?_
  (refine TD.load (v:= ?v45) (p:= ?p45) (Mod.refl _ _) (by simp only[zK];rfl) rfl (by rfl) rfl ?hx45 (fun wq hSq=> ?y45) ?n45;(case hx45=>simp only[zM];try rfl);(case y45=>(have kp8q:=hSq.at kp8 (fun h=>h);have kp10q:=hSq.at kp10 (fun h=>h);have kp12q:=hSq.at kp12 (fun h=>h);have kp14q:=hSq.at kp14 (fun h=>h);exact(ldTxr kp12q)));try simp only[zL]);(refine TD.load (v:= ?v46) (p:= ?p46) (Mod.refl _ _) (by simp only[zK];rfl) rfl (by rfl) rfl ?hx46 (fun wq hSq=> ?y46) ?n46;(case hx46=>simp only[zM];try rfl);(case y46=>(have kp8q:=hSq.at kp8 (fun h=>h);have kp10q:=hSq.at kp10 (fun h=>h);have kp12q:=hSq.at kp12 (fun h=>h);have kp14q:=hSq.at kp14 (fun h=>h);exact(ldTxr kp14q)));try simp only[zL]);(refine Zc ?_ (s:=by intro wq hSq;exact(sameTx_c rv rz wq (HVR.out.mod0 hSq) (HZ11.out.mod0 hSq) HVZ.out).mono (fun e w' h=>⟨_,h.1,rfl,h.2⟩));rintro _ hC;subst hC;try simp only[zL])
  iterate 10 refine Zv ?_
  (refine Zc ?_ (s:=by intro wq hSq;exact(HLB.out wq hSq).mono (fun e w' h=>⟨_,h.1,rfl,h.2⟩));rintro _ hC;subst hC;try simp only[zL])
  iterate 2 refine Zv ?_
  refine TD.nil (fun w12 hr=> ?_);replace kp8:=hr.q kp8;replace kp10:=hr.q kp10;replace kp12:=hr.q kp12;replace kp14:=hr.q kp14;have HM12:=Hi (HM11.out.then0 hr.mod);have HX12:=Hi (HX11.out.mod0 hr.mod);have HV12:=Hi (HV11.out.mod0 hr.mod);have HQ12:=Hi (hr.mod.at0 HQ11.out);clear hr hn1 hn2 hn3 hn4 kp10 kp14 HX11 HV11 HQ11 HXR HVR HXY HVZ HY11 HZ11 HLB;have hbk:=bBook0;have L8:=Ls kp8;have L12:=Ls kp12;go_upto_region 11 with fail;have Lkp8:=Ls kp8;have Lkp12:=Ls kp12;refine ZP0 [0,3,4] ?_;refine Zu hbk ?_;refine Za alBk fun p16 hp16=> ?_;refine Zt ?_;refine TD.nil (fun w13 hr=> ?_);replace kp8:=hr.q kp8;replace kp12:=hr.q kp12;obtain⟨gp16,kp16⟩:=hr.b p16;have HM13:=Hi (HM12.out.then0 hr.mod);have HZ13:=Hi hr.mod;have HP16:Hid (w12.heap.size≤p16∧p8<p16∧p12<p16):=Hi ⟨gp16,by omega,by omega⟩;have HBU:Hid (BkU p16 [] w13 w13):=Hi ⟨[],_,rfl,⟨kp16,SlOwn.nil _ _⟩,Mod.refl _ _⟩;have HK8:=Hi kp8;have HK12:=Hi kp12;have HLX:=Hi (txPl_len HX.out.2.1);have HLV:=Hi (txPl_len HV.out.2.1);clear hr hbk kp8 kp12 kp16 gp16 L8 L12 Lkp8 Lkp12;go_wp2_with fail;go_at_call 19;obtain⟨Lp,v1,eM,hB1,hm1⟩:=HBU.out;refine(BytesZ_c p16 Lp v1 (by have h5:=congrArg List.length eM;rw[List.length_map]at h5;simp only[List.length_nil]at h5;omega) (some ⟨q,0,none⟩) bn (bn+3) _ hB1).mono ?_;rintro e wa ⟨rfl,h',f',hP⟩;have HBU2:=Hi (BkU.step1 eM hB1 hm1 hP);have kp8:=HBU2.out.mod.at HK8.out (fun h=>by have:=HP16.out.2.1;omega);clear eM hB1 hm1 hP HBU;go_wp2_with fail;go_at_call 20;clear kp8;obtain⟨Lp,v1,eM,hB1,hm1⟩:=HBU2.out;have hfx:=HX12.out.1.f HX.out.2.1 HP16.out.1;refine(Ready_c rx p16 Lp v1 (by have h5:=congrArg List.length eM;rw[List.length_map]at h5;simp only[List.length_append,List.length_cons,List.length_nil]at h5;omega) _ hB1 ((hfx.1.mod HZ13.out (fun _ h=>h.elim)).mod hm1 (fun i h=>h)) hfx.2 HX12.out.2.1.cap HX12.out.2.2.1.cap HLX.out).mono ?_;rintro e wb ⟨rfl,hP⟩;have HBU3:=Hi (BkU.step eM hB1 hm1 hP);have kp12:=HBU3.out.mod.at HK12.out (fun h=>by have:=HP16.out.2.2;omega);clear eM hB1 hm1 hP HBU2 hfx;go_wp2_with fail;go_at_call 21;clear kp12;obtain⟨Lp,v1,eM,hB1,hm1⟩:=HBU3.out;have hfv:=HV12.out.f HV.out.2.1 HP16.out.1;refine(Tx_c rv p16 Lp v1 (by have h5:=congrArg List.length eM;rw[List.length_map]at h5;simp only[List.length_append,List.length_cons,List.length_nil,ryPl]at h5;have:=HLX.out;omega) _ hB1 ((hfv.1.mod HZ13.out (fun _ h=>h.elim)).mod hm1 (fun i h=>h)) hfv.2).mono ?_;rintro e wc ⟨rfl,hP⟩;have HBU4:=Hi (BkU.step eM hB1 hm1 hP);clear eM hB1 hm1 hP HBU3 hfv;go_wp2_with fail;go_at_call 22;obtain⟨Lp,v1,eM,hB1,hm1⟩:=HBU4.out;obtain⟨g1,g2⟩:=all_pl (b4:=w2.heap.size) HW34.out.1 HQ12.out HBN.out HG.out.1 HX.out.1 HX12.out HX.out.2.1 (by have:=HX.out.2.2.2.1;have:=HG.out.1;have:=HBN.out;omega) HX.out.2.2.2.2 HV12.out HV.out.2.1 (by have:=HS45.out;have:=HS56.out;have:=HS67.out;omega) HS34.out HW34.out.2;have hpl:∀p∈Lp,p.pl∈([]++[(4+(bn+3),some ⟨q,0,none⟩,bn)]++ryPl rx)++txPl rv:=fun p hp=>by
   have h5:=List.mem_map_of_mem (f:=Pg.pl) hp;rw[eM]at h5;exact h5
  refine(Apart_c p16 Lp _ ⟨v1,hB1⟩ (by have h5:=congrArg List.length eM;rw[List.length_map]at h5;simp only[List.length_append,List.length_cons,List.length_nil,ryPl]at h5;have:=HLX.out;have:=HLV.out;omega) (fun p hp=>⟨((g1 p.pl (hpl p hp)).1.mod HZ13.out (fun _ _ h=>h)).mod hm1 (fun g hg hs=>by have h5:=((g1 p.pl (hpl p hp)).2.2 g (plB_in hg)).2;have:=HP16.out.1;omega),(g1 p.pl (hpl p hp)).2.1,fun g hg=>by have h5:=((g1 p.pl (hpl p hp)).2.2 g hg).2;have:=HP16.out.1;omega⟩) (by rw[eM];exact g2)).mono ?_;rintro e wd ⟨rfl,md⟩;have HMD:Hid (Mod (fun _=>False) w wd):=Hi ((HM13.out.then hm1 (fun i h1 h2=>by have:=HP16.out.1;have:=HM12.out.size;omega)).then md (fun i h1 h2=>by
   obtain⟨p,hp,hg⟩:=h2;have h5:=((g1 p.pl (hpl p hp)).2.2 i (plB_in (by rw[pl_a];exact hg))).1;have:=HM2.out.size;omega))
  clear eM hB1 hm1 g1 g2 hpl md HBU4;go_wp2_with fail;go_at_call 8;refine(lives_c _ (HB.out.mod0 HMD.out)).mono ?_;rintro e wz ⟨rfl,mz⟩;have HME:=Hi (HMD.out.then0 mz);clear mz;go_wp2_with fail;go_ret;exact⟨rfl,HME.out⟩
end
end Go.Proofs.YtiaehkkkcaeaiaaGreatDoor