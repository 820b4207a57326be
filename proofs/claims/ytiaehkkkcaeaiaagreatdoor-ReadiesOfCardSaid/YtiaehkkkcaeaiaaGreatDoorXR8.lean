/- The lemmas of the proof, part XO8: how the program and its data lie in memory, and what its functions do. -/
import Derived.Test.YtiaehkkkcaeaiaaGreatDoorXR7
import Derived.Lib.MinMax
set_option linter.unusedSimpArgs false
set_option linter.unusedVariables false
set_option linter.unusedSectionVars false

set_option maxRecDepth 20000
set_option maxHeartbeats 6400000
namespace Go.Proofs.YtiaehkkkcaeaiaaGreatDoor
open Go.RowKit
open Go.ChangeMaps (setBlock)
attribute [local go_sem↓] eqKey1 ldKey ldSg ldTc stKey stSg stTc wlKey wlTc
attribute [local go_sem] Value.cells cell_blk frozen_blk kc_ext kc_one kc_one0 kc_size one_bool one_int one_map one_ptr one_slice sgc_ext sgc_one' sgc_one0 sgc_size txr0 txr0' txr38 txr38' txr39 txr39' txr_all txr_one txr_one' txr_size zKey_size zTx_size
section
attribute [local go_sem↓] wlMsg ldMsg stMsg wlIn ldIn stIn wlLo ldLo stLo
attribute [local go_sem] mgx_size mgx_ext mgx_one mgx_one0 mg0 mg1 mg2 mg3 mg4 mg37 mg38 mg37' mg38' mgx_hd mgx_hs mg0' mg4'
@[local go_sem high] theorem max3_ints {P:Program} (w:World) (ts:Array TypeId) (t:TypeId) (k k' k'':IntKind) (x y z:Int):(Builtin.max_ ts t #[.int k x,.int k' y,.int k'' z]).run P w= .ok (.int k (max (max x y) z)) w:=by
 have e:(if z>(if y>x then y else x)then z else(if y>x then y else x))=max (max x y) z:=by
  rw[Int.max_def,Int.max_def]
  repeat' split
  all_goals omega
 simp[Builtin.max_,Builtin.max2,e]
theorem inr1B (y:InR):(inr y)[1]? =some (.slice y.a.a y.a.l.length y.a.c):=rfl
theorem inr1B' (y:InR) (h:1<(inr y).size):(inr y)[1]= .slice y.a.a y.a.l.length y.a.c:=rfl
theorem mg1B' {v0:Bool} {h0 h1 h2:UInt8} {ka:Option Addr} {kn kc':Nat} {rc:Key} {ia:Option Addr} {n1 c1:Nat} {la:Option Addr} {n2 c2:Nat} (h:1<(mgx v0 h0 h1 h2 ka kn kc' rc ia n1 c1 la n2 c2).size):(mgx v0 h0 h1 h2 ka kn kc' rc ia n1 c1 la n2 c2)[1]=u8v h0:=at_get (mg1 ..) h
theorem mg2B' {v0:Bool} {h0 h1 h2:UInt8} {ka:Option Addr} {kn kc':Nat} {rc:Key} {ia:Option Addr} {n1 c1:Nat} {la:Option Addr} {n2 c2:Nat} (h:2<(mgx v0 h0 h1 h2 ka kn kc' rc ia n1 c1 la n2 c2).size):(mgx v0 h0 h1 h2 ka kn kc' rc ia n1 c1 la n2 c2)[2]=u8v h1:=at_get (mg2 ..) h
theorem mg3B' {v0:Bool} {h0 h1 h2:UInt8} {ka:Option Addr} {kn kc':Nat} {rc:Key} {ia:Option Addr} {n1 c1:Nat} {la:Option Addr} {n2 c2:Nat} (h:3<(mgx v0 h0 h1 h2 ka kn kc' rc ia n1 c1 la n2 c2).size):(mgx v0 h0 h1 h2 ka kn kc' rc ia n1 c1 la n2 c2)[3]=u8v h2:=at_get (mg3 ..) h
theorem zLoM_size:zLo.size=34:=lor_size _
attribute [local go_sem] mg1B' mg2B' mg3B' inr1B inr1B' inr2B inr2B' inrB_size inrB_all inrB_one zIn_size lor32 lor33 lor32' lor33' lor_sz lor_al0 lor_ex zLoM_size
theorem may_c (x:RdR) (w:World) (hR:MsgRd w x) (hB:MsB (msgP x)) (hv:x.v0=true∨(x.lks.l.length=0∧x.h0.toNat<128)):
  Calls Tryz.prog 105 #[.agg (msr x)] w fun e w'=>e= .returned (.bool true)∧Mod (fun _=>False) w w':=by
 have HX:=Hi hR;have hB1:=hB.1;have hB2:=hB.2.1.1;have hB3:=hB.2.2.1;have HBI:Hid (∀y∈x.ins.l,y.a.l.length≤65535∧y.d.l.length≤65535):=Hi (fun y hy=>hB.2.1.2 (inP y) (List.mem_map_of_mem hy));have HBL:Hid (∀y∈x.lks.l,y.w.l.length≤65535∧y.r.l.length≤65535):=Hi (fun y hy=>hB.2.2.2 (loP y) (List.mem_map_of_mem hy));simp only[msgP,List.length_map]at hB1 hB2 hB3;show Calls Tryz.prog 105 #[.agg (mgx x.v0 x.h0 x.h1 x.h2 x.ks.a x.ks.l.length x.ks.c x.rc x.ins.a x.ins.l.length x.ins.c x.lks.a x.lks.l.length x.lks.c)] w _;obtain⟨n1,hn1⟩:∃n,x.ks.l.length=n:=⟨_,rfl⟩;obtain⟨n2,hn2⟩:∃n,x.ins.l.length=n:=⟨_,rfl⟩;obtain⟨n3,hn3⟩:∃n,x.lks.l.length=n:=⟨_,rfl⟩;obtain⟨h0,hh0⟩:∃h,x.h0.toNat=h:=⟨_,rfl⟩;obtain⟨v0,hv0⟩:∃v,x.v0=v:=⟨_,rfl⟩;have HH0:=Hi hh0;rw[hn1,hn2,hn3,hv0];rw[hn1]at hB1;rw[hn2]at hB2;rw[hn3]at hB3 hv;rw[hv0,hh0]at hv;have HN:=Hi (Ai hn2 hn3);have HV:=Hi hv;obtain⟨L0,hL0⟩:∃L,max (max n1 n2) n3=L:=⟨_,rfl⟩;have hmx:max (max (n1:Int) (n2:Int)) (n3:Int)=(L0:Int):=by omega
 have HL0:=Hi (show L0≤65535 by omega);clear hR hB hv hn1 hn2 hn3 hv0 hh0 hL0;go_enter Tryz.func105,Tryz.ntmps105;go_upto_region 0 with fail;refine ZP0 [3,0] ?_;refine Zb fun p1 hp1=> ?_;refine Zv ?_;refine TD.nil (fun w1 hr=> ?_);obtain⟨gp1,kp1⟩:=hr.b p1;have HM1:=Hi hr.mod;clear hr;go_upto_region 1 with fail;have Lkp1:=Ls kp1;refine ZP0 [0,1,0,0,1,0,0,1,0,0,0] ?_
 iterate 11 first|refine Zv ?_|refine Zd ?_
 refine TD.nil (fun w2 hr=> ?_);replace kp1:=hr.q kp1;have HM2:=Hi (HM1.out.then0 hr.mod);clear hr hmx;go_upto_region 2 with fail;have Lkp1:=Ls kp1;refine ZP0 [0,1,0,0] ?_
 iterate 4 first|refine Zv ?_|refine Zd ?_
 refine TD.nil (fun w3 hr=> ?_);replace kp1:=hr.q kp1;have HM3:=Hi (HM2.out.then0 hr.mod);clear hr;go_wp2_with fail;go_loopw [3,21] (fun s3 s21 ws=>∃i L:Nat,i≤n2∧s21= .int .i64 (i:Int)∧s3= .int .i64 (L:Int)∧Hid (L≤65535)∧Hid (Mod (fun _=>False) w ws)∧ws.heap[p1]? =some (.cells (mgx v0 x.h0 x.h1 x.h2 x.ks.a n1 x.ks.c x.rc x.ins.a n2 x.ins.c x.lks.a n3 x.lks.c) 33 (0,0))) (fun _ s21 _=>n2-(intOf s21).toNat)
 case atStart=>exact⟨0,L0,Nat.zero_le _,rfl,rfl,HL0,HM3,kp1⟩
 case round=>
  clear kp1;obtain⟨i,L,hi,rfl,rfl,HL,HM,kp1⟩:=hrel;by_cases hlt:i<n2
  ·have hd:=Dt hlt;obtain⟨y,hy⟩:∃y,x.ins.l[i]? =some y:=⟨_,List.getElem?_eq_getElem (by have:=HN.out;omega)⟩;obtain⟨g,o,C,U,fr,hga,kg,he,hle⟩:=(HX.out.2.1.1.mod0 HM.out).block hy;have hyb:=HBI.out y (List.mem_of_getElem? hy);obtain⟨ya,hya⟩:∃n,y.a.l.length=n:=⟨_,rfl⟩;obtain⟨yd,hyd⟩:∃n,y.d.l.length=n:=⟨_,rfl⟩;rw[hya,hyd]at hyb;obtain⟨L1,hL1⟩:∃L1,max (max L ya) yd=L1:=⟨_,rfl⟩;have hmx:max (max (L:Int) (ya:Int)) (yd:Int)=(L1:Int):=by omega
   have HL1:=Hi (show L1≤65535 by have:=HL.out;omega);have hi1:=inr1B y;have hi2:=inr2B y;have hi1':=inr1B' y;have hi2':=inr2B' y;rw[hya]at hi1 hi1';rw[hyd]at hi2 hi2';clear hy hya hyd hyb hL1;go_upto_region 4 with fail;have Lkp1:=Ls kp1;have Lkg:=Ls kg;refine ZP0 [0,1,3,4] ?_;refine Zv ?_;refine Zd ?_;refine Za alIn fun p5 hp5=> ?_;refine Zt ?_;refine TD.nil (fun w4 hr=> ?_);replace kp1:=hr.q kp1;replace kg:=hr.q kg;obtain⟨gp5,kp5⟩:=hr.b p5;have HM4:=Hi (HM.out.then0 hr.mod);clear hr he hle kg hga;go_upto_region 5 with fail;have Lkp1:=Ls kp1;have Lkp5:=Ls kp5;refine ZP0 [0,0,1,0,0,1,0,0,0] ?_
   iterate 9 first|refine Zv ?_|refine Zd ?_
   refine TD.nil (fun w5 hr=> ?_);replace kp1:=hr.q kp1;replace kp5:=hr.q kp5;have HM5:=Hi (HM4.out.then0 hr.mod);clear hr;go_wp2_with fail;go_roundw
   case rel=>exact⟨i+1,L1,by omega,by go_num,rfl,HL1,HM5,kp1⟩
   case measure=>simp[intOf];omega
  ·have hd:=Df hlt;clear hi hlt;go_upto_region 7 with fail;have Lkp1:=Ls kp1;refine ZP0 [0,1,0,0] ?_
   iterate 4 first|refine Zv ?_|refine Zd ?_
   refine TD.nil (fun w6 hr=> ?_);replace kp1:=hr.q kp1;have HM6:=Hi (HM.out.then0 hr.mod);clear hr;go_wp2_with fail;go_loopw [3,37] (fun s3 s37 ws=>∃i L:Nat,i≤n3∧s37= .int .i64 (i:Int)∧s3= .int .i64 (L:Int)∧Hid (L≤65535)∧Hid (Mod (fun _=>False) w ws)∧ws.heap[p1]? =some (.cells (mgx v0 x.h0 x.h1 x.h2 x.ks.a n1 x.ks.c x.rc x.ins.a n2 x.ins.c x.lks.a n3 x.lks.c) 33 (0,0))) (fun _ s37 _=>n3-(intOf s37).toNat)
   case atStart=>exact⟨0,L,Nat.zero_le _,rfl,rfl,HL,HM6,kp1⟩
   case round=>
    clear kp1 HL HM HM6;obtain⟨i,L,hi,rfl,rfl,HL,HM,kp1⟩:=hrel;by_cases hlt:i<n3
    ·have hd:=Dt hlt;obtain⟨y,hy⟩:∃y,x.lks.l[i]? =some y:=⟨_,List.getElem?_eq_getElem (by have:=HN.out;omega)⟩;obtain⟨g,o,C,U,fr,hga,kg,he,hle⟩:=(HX.out.2.2.1.mod0 HM.out).block hy;have hyb:=HBL.out y (List.mem_of_getElem? hy);obtain⟨ya,hya⟩:∃n,y.w.l.length=n:=⟨_,rfl⟩;obtain⟨yd,hyd⟩:∃n,y.r.l.length=n:=⟨_,rfl⟩;rw[hya,hyd]at hyb;obtain⟨L1,hL1⟩:∃L1,max (max L ya) yd=L1:=⟨_,rfl⟩;have hmx:max (max (L:Int) (ya:Int)) (yd:Int)=(L1:Int):=by omega
     have HL1:=Hi (show L1≤65535 by have:=HL.out;omega);have hi1:=lor32 y;have hi2:=lor33 y;have hi1':=lor32' y;have hi2':=lor33' y;rw[hya]at hi1 hi1';rw[hyd]at hi2 hi2';clear hy hya hyd hyb hL1;go_upto_region 9 with fail;have Lkp1:=Ls kp1;have Lkg:=Ls kg;refine ZP0 [0,1,3,4] ?_;refine Zv ?_;refine Zd ?_;refine Za alLo fun p7 hp7=> ?_;refine Zt ?_;refine TD.nil (fun w7 hr=> ?_);replace kp1:=hr.q kp1;replace kg:=hr.q kg;obtain⟨gp7,kp7⟩:=hr.b p7;have HM4:=Hi (HM.out.then0 hr.mod);clear hr he hle kg hga;go_upto_region 10 with fail;have Lkp1:=Ls kp1;have Lkp7:=Ls kp7;refine ZP0 [0,0,1,0,0,1,0,0,0] ?_
     iterate 9 first|refine Zv ?_|refine Zd ?_
     refine TD.nil (fun w8 hr=> ?_);replace kp1:=hr.q kp1;replace kp7:=hr.q kp7;have HM5:=Hi (HM4.out.then0 hr.mod);clear hr;go_wp2_with fail;go_roundw
     case rel=>exact⟨i+1,L1,by omega,by go_num,rfl,HL1,HM5,kp1⟩
     case measure=>simp[intOf];omega
    ·have hd:=Df hlt;have hl1:=HL.out;have hl2:decide ((L:Int)≤65535)=true:=Dt (by omega);have hl3:=Dt hl1;clear hi hlt;cases v0 with
     |true=>
      go_upto_region 12 with fail;have Lkp1:=Ls kp1;refine ZP0 [0,0,0,0,1,0,0,1,0,0,0,0,0,1,0,0,0,0,0] ?_
      iterate 6 first|refine Zv ?_|refine Zd ?_
      refine Zo ?_;refine Zp ?_
      iterate 5 refine Zo ?_
      refine Zp ?_
      iterate 2 refine Zo ?_
      iterate 3 refine Zv ?_
      refine TD.nil (fun w9 hr=> ?_);replace kp1:=hr.q kp1;have HM9:=Hi (HM.out.then0 hr.mod);clear hr;go_wp2_with fail;go_ret;exact⟨rfl,HM9.out⟩
     |false=>
      obtain⟨hz,hh⟩:=HV.out.resolve_left (by decide);rw[←HH0.out]at hh;have hz1:((n3:Int)==0)=true:=by simp[hz]
      have hz2:(n3==0)=true:=by simp[hz]
      have hz3:decide ((n3:Int)=0)=true:=by simp[hz]
      have hh1:decide ((x.h0.toNat:Int)<128)=true:=Dt (by omega);have hh2:=Dt hh;clear hz hh;go_upto_region 12 with fail;have Lkp1:=Ls kp1;refine ZP0 [0,0,0,0,1,0,0,1,0,0,0,0,0,1,0,0,0,0,0] ?_
      iterate 19 first|refine Zv ?_|refine Zd ?_
      refine TD.nil (fun w9 hr=> ?_);replace kp1:=hr.q kp1;have HM9:=Hi (HM.out.then0 hr.mod);clear hr;go_wp2_with fail;go_ret;exact⟨rfl,HM9.out⟩
end
theorem eff_append2 {P:Program} {ops:Array Oper} {Q:Exit→Act→World→Prop} {i:Nat} {a:Act} {o:Oper} {K:Act→World→Prop} {w w':World} {t t2:TypeId} {s x:Operand} {v u v':Value} (ho:ops[i]? =some o) (hw:Region.wanted o (yielded ops a.tmps)=true)
  (hop:o.op= .call {callee:= .builtin .append,args:= #[s,x],argTypes:= #[t,t2]}) (hs:a.eval s=v) (hx:a.eval x=u) (hr:(Builtin.append_ #[t,t2] o.type #[v,u]).run P w= .ok v' w')
  (h:K (a.put o.dst v') w'):wpOp P ops Q i K a w:=
 eff_value ho hw (by subst hs;subst hx;simp[execOp,hop,resolve,invoke,builtin,hr]) h
section
attribute [local go_sem↓] wlMsg ldMsg stMsg wlIn ldIn stIn wlLo ldLo stLo
attribute [local go_sem] mgx_size mgx_ext mgx_one mgx_one0 mg0 mg1 mg2 mg3 mg4 mg37 mg38 mg37' mg38' mgx_hd mgx_hs mg0' mg4'
theorem layT:ElT Tryz.prog 170 5 uc 1 1 where
 u:=Tryz.underlying170
 info:=by
  obtain⟨i0,hi,hz0,hz1,hz2⟩:=info_parts (show(Tryz.prog.info? 5).map (fun i=>(i.zero,i.size,i.bytes))=some (some (.int .u8 0),1,1)by kernel_rfl);exact⟨i0,_,hi,hz0,hz1,hz2,rfl⟩
 pos:=by omega
 size x:=rfl
 one x:=bytesT.one x
theorem app_mix (ty:TypeId) (args:Array Value) (w:World):(Builtin.append_ #[170,22] ty args).run Tryz.prog w=(Builtin.append_ #[170,170] ty args).run Tryz.prog w:=by
 have h1:∀w,(underlying 170).run Tryz.prog w= .ok (.slice 5) w:=fun w=>run_underlying Tryz.underlying170 w;have h2:∀w,(underlying 22).run Tryz.prog w= .ok (.slice 5) w:=fun w=>run_underlying Tryz.underlying22 w;unfold Builtin.append_;cases h0:args[0]? with
 |none=>rfl
 |some v=>
  cases h3:args[1]? with
  |none=>rfl
  |some u=>
   have h4:∀w,(sizeOf 5).run Tryz.prog w= .ok 1 w:=fun w=>by kernel_rfl
   cases v<;>simp[h1,h2,h4]
def LyG (p b:Nat) (v:Value) (B:List UInt8) (w:World):Prop:=w.heap[p]? =some (.cells #[v] 170 (0,0))∧SlOwn uc 1 5 w b v B∧p<b
def LyC (p:Nat) (v v':Value) (w w':World):Prop:=Mod (fun i=>i=p∨v.ownBlock=some i) w w'∧(v'.ownBlock=v.ownBlock∨∃g,v'.ownBlock=some g∧w.heap.size≤g)
theorem LyG.ne {p b:Nat} {v:Value} {B:List UInt8} {w:World} (h:LyG p b v B w):v.ownBlock≠some p:=fun e=>by
 have:=(h.2.1.lt p e).1;have:=h.2.2;omega
theorem ly_app {p b:Nat} {v:Value} {B q:List UInt8} {a:Option Addr} {c:Nat} {w:World} (h:LyG p b v B w) (hq:SlAt uc 1 w a q) (hl:B.length+q.length≤1000000) (hb:b≤w.heap.size) (ty:TypeId):
  ∃v' w',(∃a' m' c',v'= .slice a' m' c')∧(Builtin.append_ #[170,170] ty #[v,.slice a q.length c]).run Tryz.prog w= .ok v' w'∧(Builtin.append_ #[170,22] ty #[v,.slice a q.length c]).run Tryz.prog w= .ok v' w'∧w'.heap[p]? =some (.cells #[v] 170 (0,0))∧Mod (fun i=>v.ownBlock=some i) w w'∧
   (∀w2,Mod (fun i=>i=p) w' w2→w2.heap[p]? =some (.cells #[v'] 170 (0,0))→LyG p b v' (B++q) w2∧LyC p v v' w w2):=by
 obtain⟨v',w',h1,h2,h3,h4⟩:=SlOwn.append layT (c:=c) h.2.1 hq hl (by decide) hb ty;have hpl:=Ls h.1;have hne:=h.ne;obtain⟨a',c',e',_⟩:=h2.at layT;refine⟨v',w',⟨_,_,_,e'⟩,h1,by rw[app_mix];exact h1,h3.at h.1 (fun e=>hne e),h3,fun w2 m2 k2=>⟨⟨k2,h2.mod m2 (fun g hg e=> ?_),h.2.2⟩,(h3.mono (fun i _ e=> .inr e)).trans (m2.mono (fun i _ e=> .inl e)),?_⟩⟩
 ·rcases h4 with h4|h4
  ·rw[h4]at hg;rw[e]at hg;exact hne hg
  ·rw[h4]at hg;cases hg;omega
 ·rcases h4 with h4|h4
  ·exact .inl h4
  ·exact .inr ⟨_,h4,Nat.le_refl _⟩
theorem LyC.trans {p:Nat} {u v x:Value} {w w1 w2:World} (h:LyC p u v w w1) (k:LyC p v x w1 w2):LyC p u x w w2:=by
 refine⟨h.1.then k.1 (fun i hi e=> ?_),?_⟩
 ·rcases e with e|e
  ·exact .inl e
  ·rcases h.2 with h2|⟨g,h2,h3⟩
   ·rw[h2]at e;exact .inr e
   ·rw[h2]at e;cases e;omega
 ·rcases k.2 with k2|⟨g,k2,k3⟩
  ·rcases h.2 with h2|⟨g,h2,h3⟩
   ·exact .inl (k2.trans h2)
   ·exact .inr ⟨g,k2.trans h2,h3⟩
  ·exact .inr ⟨g,k2,Nat.le_trans h.1.size k3⟩
theorem LyC.pre {p:Nat} {v x:Value} {w w1 w2:World} (h:Mod (fun _=>False) w w1) (k:LyC p v x w1 w2):LyC p v x w w2:=
 ⟨(h.mono (fun _ _ e=>e.elim)).trans k.1,k.2.imp_right (fun⟨g,k2,k3⟩=>⟨g,k2,Nat.le_trans h.size k3⟩)⟩
theorem LyC.post {p:Nat} {v x:Value} {w w1 w2:World} (k:LyC p v x w w1) (h:Mod (fun _=>False) w1 w2):LyC p v x w w2:=
 ⟨k.1.trans (h.mono (fun _ _ e=>e.elim)),k.2⟩
theorem LyG.mod0 {p b:Nat} {v:Value} {B:List UInt8} {w w':World} (h:LyG p b v B w) (hm:Mod (fun _=>False) w w'):LyG p b v B w':=⟨hm.at h.1 (fun e=>e),h.2.1.mod0 hm,h.2.2⟩
theorem LyC.at {p q:Nat} {v v':Value} {w w':World} {o:Obj} (h:LyC p v v' w w') (hq:w.heap[q]? =some o) (hp:q≠p) (hv:v.ownBlock≠some q):w'.heap[q]? =some o∧v'.ownBlock≠some q:=by
 refine⟨h.1.at hq (fun e=>e.elim hp hv),fun e=> ?_⟩;rcases h.2 with h2|⟨g,h2,h3⟩
 ·rw[h2]at e;exact hv e
 ·rw[h2]at e;cases e;have:=Ls hq;omega
theorem many_c {p b:Nat} {v:Value} {B:List UInt8} (n:Nat) (hn:n≤65535) (w:World) (h:LyG p b v B w) (hB:B.length≤900000) (hb:b≤w.heap.size):
  Calls Tryz.prog 106 #[pV p,.int .i64 (n:Int)] w fun e w'=>e= .returned (.tuple #[])∧∃v',LyG p b v' (B++shP n) w'∧LyC p v v' w w':=by
 have HG:=Hi (Ai h (Ai hB hb));have HN:=Hi hn;clear h hB hb hn;go_enter Tryz.func106,Tryz.ntmps106;go_wp2_with fail;go_at_call 64;refine(putShort_c n HN.out _).mono ?_;rintro e w1 ⟨a,rfl,hN,m1⟩;have hs:=ns_rd hN;have HL1:=HG.out.1.mod0 m1;have hsl:(shP n).length≤3:=by
  unfold shP;split
  ·simp
  ·split<;>simp
 have kp:=HL1.1;obtain⟨k,hk⟩:∃k,(shP n).length=k:=⟨_,rfl⟩;have HS:=Hi (Ai hs (Ai HL1 (Ai hsl (Ai m1 hk))));rw[hk];clear hs hN HL1 hsl m1 hk;go_upto_region 1 with fail;have Lkp:=Ls kp;refine ZP0 [0,0,0,1,0,5,0,6] ?_
 iterate 5 first|refine Zv ?_|refine Zd ?_
 refine Zi fun w2 hr=> ?_;replace kp:=hr.q kp;have HMP:=Hi hr.mod;obtain⟨v2,wx,⟨a2,q2,c2,rfl⟩,hap1,hap,k2,m2,hfin⟩:=ly_app (c:=k) ((HS.out.2.1).mod0 hr.mod) (HS.out.1.mod0 hr.mod) (by have:=HG.out.2.1;have:=HS.out.2.2.1;omega) (Nat.le_trans HG.out.2.2 (Nat.le_trans HS.out.2.2.2.1.size hr.mod.size)) 170;rw[HS.out.2.2.2.2]at hap;have HFN:=Hi hfin;have HMX:=Hi m2;clear hr hfin m2 kp;have kp:=k2;clear k2;(refine eff_append2 (by simp only[zK];rfl) (by rfl) rfl ?hx7 ?hz7 hap ?n7;(case hx7=>simp only[zM];try rfl);(case hz7=>simp only[zM];try rfl);try simp only[zL]);refine Ze ?_;refine Zz ?_;refine ZS ?_;refine ZN kp fun wn kp mS=> ?_;(try simp only[Array.setIfInBounds,zL]at kp);have HLY:=Hi (HFN.out _ mS kp);clear mS HFN;go_wp2_with fail;go_end0;exact⟨rfl,_,HLY.out.1,LyC.pre (HS.out.2.2.2.1.then0 HMP.out) HLY.out.2⟩
theorem LyM {p b:Nat} {v v':Value} {B:List UInt8} {w0 w w':World} (h:Mod (fun _=>False) w0 w) (hG:LyG p b v B w) (k:LyC p v v' w w') (hp:w0.heap.size≤p):Mod (fun _=>False) w0 w':=
 h.then k.1 (fun i hi e=>by
  rcases e with e|e
  ·omega
  ·have:=(hG.2.1.lt i e).1;have:=hG.2.2;omega)
theorem list_c {p b:Nat} {v:Value} {B l:List UInt8} {a:Option Addr} {c:Nat} (w:World) (h:LyG p b v B w) {w0:World} (hl:SlAt uc 1 w0 a l) (hlm:Mod (fun _=>False) w0 w) (hlp:w0.heap.size≤p) (hn:l.length≤65535) (hB:B.length≤800000) (hb:b≤w.heap.size):
  Calls Tryz.prog 107 #[pV p,.slice a l.length c] w fun e w'=>e= .returned (.tuple #[])∧∃v',LyG p b v' (B++lisP l) w'∧LyC p v v' w w':=by
 have HG:=Hi (Ai h (Ai hB hb));have HL:=Hi (Ai hl (Ai (Ai hlm hlp) hn));obtain⟨n,hnl⟩:∃n,l.length=n:=⟨_,rfl⟩;have HN:=Hi hnl;have HMY:=Hi (many_c n (by omega) w h (by omega) hb);rw[hnl];clear h hB hb hl hlm hlp hn hnl;go_enter Tryz.func107,Tryz.ntmps107;go_wp2_with fail;go_at_call 106;refine HMY.out.mono ?_;rintro e w1 ⟨rfl,v1,hG1,hC1⟩;have hs:SlAt uc 1 w1 a l:=HL.out.1.mod0 (LyM HL.out.2.1.1 HG.out.1 hC1 HL.out.2.1.2);have kp:=hG1.1;have HS:=Hi (Ai hs (Ai hG1 hC1));have HSL:Hid ((B++shP n).length+l.length≤1000000):=Hi (by
  have hsl:(shP n).length≤3:=by
   unfold shP;split
   ·simp
   ·split<;>simp
  rw[List.length_append];have:=HG.out.2.1;have:=HL.out.2.2;omega)
 clear hs hG1 hC1;go_upto_region 1 with fail;have Lkp:=Ls kp;refine ZP0 [0,0,0,1,0,5,0,6] ?_
 iterate 5 first|refine Zv ?_|refine Zd ?_
 refine Zi fun w2 hr=> ?_;replace kp:=hr.q kp;have HMP:=Hi hr.mod;obtain⟨v2,wx,⟨a2,q2,c2,rfl⟩,hap1,hap,k2,m2,hfin⟩:=ly_app (c:=c) ((HS.out.2.1).mod0 hr.mod) (HS.out.1.mod0 hr.mod) HSL.out (Nat.le_trans HG.out.2.2 (Nat.le_trans HS.out.2.2.1.size hr.mod.size)) 170;rw[HN.out]at hap;have HFN:=Hi hfin;have HMX:=Hi m2;clear hr hfin m2 kp;have kp:=k2;clear k2;(refine eff_append2 (by simp only[zK];rfl) (by rfl) rfl ?hx16 ?hz16 hap ?n16;(case hx16=>simp only[zM];try rfl);(case hz16=>simp only[zM];try rfl);try simp only[zL]);refine Ze ?_;refine Zz ?_;refine ZS ?_;refine ZN kp fun wn kp mS=> ?_;(try simp only[Array.setIfInBounds,zL]at kp);have HLY:=Hi (HFN.out _ mS kp);clear mS HFN;go_wp2_with fail;go_end0;refine⟨rfl,_,?_,HS.out.2.2.trans (LyC.pre HMP.out HLY.out.2)⟩;have:B++lisP l=B++shP n++l:=by rw[lisP,HN.out,List.append_assoc]
 rw[this];exact HLY.out.1
structure LyS (w0:World) (p p1 b:Nat) (v:Value) (B:List UInt8) (M:Obj) (w:World):Prop where
 g:LyG p b v B w
 m:Mod (fun _=>False) w0 w
 k1:w.heap[p1]? =some M
 lt:w0.heap.size≤p1∧p1<p∧b≤w.heap.size
theorem LyS.step {w0 w w':World} {p p1 b:Nat} {v v':Value} {B B':List UInt8} {M:Obj} (h:LyS w0 p p1 b v B M w) (hG:LyG p b v' B' w') (hC:LyC p v v' w w'):LyS w0 p p1 b v' B' M w':=
 ⟨hG,LyM h.m h.g hC (by have:=h.lt;omega),(hC.at h.k1 (by have:=h.lt;omega) (fun e=>by have:=(h.g.2.1.lt p1 e).1;have:=h.g.2.2;have:=h.lt;omega)).1,h.lt.1,h.lt.2.1,Nat.le_trans h.lt.2.2 hC.1.size⟩
theorem LyS.mod0 {w0 w w':World} {p p1 b:Nat} {v:Value} {B:List UInt8} {M:Obj} (h:LyS w0 p p1 b v B M w) (hm:Mod (fun _=>False) w w'):LyS w0 p p1 b v B M w':=
 ⟨h.g.mod0 hm,h.m.then0 hm,hm.at h.k1 (fun e=>e),h.lt.1,h.lt.2.1,Nat.le_trans h.lt.2.2 hm.size⟩
theorem LyS.app {w0 w:World} {p p1 b:Nat} {v:Value} {B q:List UInt8} {M:Obj} {a:Option Addr} (n c:Nat) (h:LyS w0 p p1 b v B M w) (hq:SlAt uc 1 w a q) (hn:q.length=n) (hl:B.length+q.length≤1000000) (ty:TypeId):
  ∃v' w',(∃a' m' c',v'= .slice a' m' c')∧(Builtin.append_ #[170,170] ty #[v,.slice a n c]).run Tryz.prog w= .ok v' w'∧(Builtin.append_ #[170,22] ty #[v,.slice a n c]).run Tryz.prog w= .ok v' w'∧w'.heap[p]? =some (.cells #[v] 170 (0,0))∧
   (∀w2,Mod (fun i=>i=p) w' w2→w2.heap[p]? =some (.cells #[v'] 170 (0,0))→LyS w0 p p1 b v' (B++q) M w2∧LyC p v v' w w2):=by
 subst hn;obtain⟨v',w',h1,h2,h3,h4,_,h5⟩:=ly_app (c:=c) h.g hq hl h.lt.2.2 ty;exact⟨v',w',h1,h2,h3,h4,fun w2 m2 k2=>⟨h.step (h5 w2 m2 k2).1 (h5 w2 m2 k2).2,(h5 w2 m2 k2).2⟩⟩
theorem bytes_at {w:World} {g o:Nat} {C:Array Value} {U:TypeId} {fr:Nat×Nat} {l:List UInt8} (hk:w.heap[g]? =some (.cells C U fr)) (h:C.extract o (o+l.length)=(l.map bc).toArray):SlAt uc 1 w (some ⟨g,o,none⟩) l:=by
 refine .inr ⟨g,o,C,U,fr,rfl,hk,fun i x hx=> ?_⟩;obtain⟨hi,hxe⟩:=List.getElem?_eq_some_iff.1 hx;have h1:(C.extract o (o+l.length))[i]? =some (bc x):=by rw[h];simp[hx]
 have h2:C[o+i]? =some (bc x):=by
  rw[Array.getElem?_extract]at h1;split at h1
  ·exact h1
  ·cases h1
 obtain⟨h3,h4⟩:=Array.getElem?_eq_some_iff.1 h2;refine⟨?_,by omega⟩;rw[Nat.mul_one];apply Array.ext
 ·simp[uc];omega
 ·intro j hj1 hj2;have:j=0:=by simp[uc]at hj2;exact hj2
  subst this;simp[uc,h4,bc]
theorem key_bytes {w:World} {g o:Nat} {C:Array Value} {U:TypeId} {fr:Nat×Nat} {k:Key} (hk:w.heap[g]? =some (.cells C U fr)) (h:C.extract o (o+32)=kc k):SlAt uc 1 w (some ⟨g,o,none⟩) k.l:=bytes_at hk (by rw[k.h];exact h)
theorem skey (p o:Nat) (w:World):(Instr.sliceAt 82 (.pointer (some ⟨p,o,none⟩)) none none none).run Tryz.prog w= .ok (.slice (some ⟨p,o,none⟩) 32 32) w:=by kernel_rfl
theorem shash (p o:Nat) (w:World):(Instr.sliceAt 29 (.pointer (some ⟨p,o,none⟩)) none none none).run Tryz.prog w= .ok (.slice (some ⟨p,o,none⟩) 32 32) w:=by kernel_rfl
theorem bL1 (x:UInt8) (w:World):(Instr.buildSlice 170 1 #[(0,u8v x)]).run Tryz.prog w= .ok (.slice (some ⟨w.heap.size,0,none⟩) 1 1) (w.alloc (.cells #[u8v x] 5)):=by kernel_rfl
theorem bL3 (x y z:UInt8) (w:World):(Instr.buildSlice 170 3 #[(0,u8v x),(1,u8v y),(2,u8v z)]).run Tryz.prog w= .ok (.slice (some ⟨w.heap.size,0,none⟩) 3 3) (w.alloc (.cells #[u8v x,u8v y,u8v z] 5)):=by kernel_rfl
theorem alLay (w:World):(Instr.alloc 170 true (.tuple #[])).run Tryz.prog w= .ok (.pointer (some ⟨w.heap.size,0,none⟩)) (w.alloc (.cells #[.slice none 0 0] 170)):=by kernel_rfl
theorem clipLay_c (v2:Value) (w:World) (n:Nat) {a:Option Addr} {c:Nat} (h:∀w2,(Instr.sliceAt 170 (.slice a n c) none (some (.int .i64 (n:Int))) (some (.int .i64 (n:Int)))).run Tryz.prog w2= .ok v2 w2):
  Calls Tryz.prog 108 #[.slice a n c] w fun e w'=>e= .returned v2∧w'=w:=by
 go_enter Tryz.func108,Tryz.ntmps108;go_wp2_with fail;go_ret;exact⟨rfl,rfl⟩
theorem clip_newL {l:List UInt8} {b:Nat} {v:Value} {w:World} (h:SlOwn uc 1 5 w b v l):∃a c,v= .slice a l.length c∧(∀w2,(Instr.sliceAt 170 (.slice a l.length c) none (some (.int .i64 (l.length:Int))) (some (.int .i64 (l.length:Int)))).run Tryz.prog w2= .ok (.slice a l.length l.length) w2)∧NewS uc 1 5 b w (.slice a l.length l.length) l:=by
 obtain⟨a,c,e,h1,h2,h3,h4⟩:=clip_own layT h;obtain⟨a',c',v2,e',h1',h2'⟩:=h.clip layT;have hv:v2= .slice a l.length l.length:=by
  have e1:=h1 w;rw[h1' w]at e1;injection e1 with e1 _
 subst hv;subst e;exact⟨a,c,rfl,h1,h2'⟩
theorem fm_snoc {α:Type} {f:α→List UInt8} {l:List α} {i:Nat} {x:α} (h:l[i]? =some x):(l.take (i+1)).flatMap f=(l.take i).flatMap f++f x:=by
 rw[List.take_add_one,h];simp
theorem fm_le {α:Type} (f:α→List UInt8) (l:List α) (i:Nat):((l.take i).flatMap f).length≤(l.flatMap f).length:=by
 conv=>rhs;rw[←List.take_append_drop i l,List.flatMap_append,List.length_append]
 omega
theorem shP_le (n:Nat):(shP n).length≤3:=by
 unfold shP;split
 ·simp
 ·split<;>simp
end
section
attribute [local go_sem↓] wlMsg ldMsg stMsg wlIn ldIn stIn wlLo ldLo stLo
attribute [local go_sem] mgx_size mgx_ext mgx_one mgx_one0 mg0 mg1 mg2 mg3 mg4 mg37 mg38 mg37' mg38' mgx_hd mgx_hs mg0' mg4'
attribute [local go_sem] mg1B' mg2B' mg3B' inr1B inr1B' inr2B inr2B' inr0B inr0B' inrB_size inrB_all inrB_one zIn_size lor32 lor33 lor32' lor33' lor_sz lor_al0 lor_ex zLoM_size
theorem lis_le (l:List UInt8) (h:l.length≤65535):(lisP l).length≤65538:=by
 have:=shP_le l.length;rw[lisP,List.length_append];omega
theorem three_at {w:World} {p:Nat} {x y z:UInt8} {U:TypeId} {fr:Nat×Nat} (h:w.heap[p]? =some (.cells #[u8v x,u8v y,u8v z] U fr)):SlAt uc 1 w (some ⟨p,0,none⟩) [x,y,z]:=bytes_at h rfl
theorem mput_c (x:RdR) (w:World) (hR:MsgRd w x) (hB:MsB (msgP x)) (hv:x.v0=true∨(x.lks.l.length=0∧x.h0.toNat<128)) (ht:(putM (msgP x)).length≤200000):
  Calls Tryz.prog 65 #[.agg (msr x)] w fun e w'=>∃a,e= .returned (.tuple #[.slice a (putM (msgP x)).length (putM (msgP x)).length,.int .i64 0])∧NewS uc 1 5 w.heap.size w' (.slice a (putM (msgP x)).length (putM (msgP x)).length) (putM (msgP x))∧Mod (fun _=>False) w w':=by
 have HX:=Hi hR;have HMY:=Hi (fun w1 (hm:Mod (fun _=>False) w w1)=>may_c x w1 (hR.mod0 hm) hB hv);have hB1:=hB.1;have hB2:=hB.2.1.1;have hB3:=hB.2.2.1;have HBI:Hid (∀y∈x.ins.l,y.a.l.length≤65535∧y.d.l.length≤65535):=Hi (fun y hy=>hB.2.1.2 (inP y) (List.mem_map_of_mem hy));have HBL:Hid (∀y∈x.lks.l,y.w.l.length≤65535∧y.r.l.length≤65535):=Hi (fun y hy=>hB.2.2.2 (loP y) (List.mem_map_of_mem hy));simp only[msgP,List.length_map]at hB1 hB2 hB3;have hms:msr x=mgx x.v0 x.h0 x.h1 x.h2 x.ks.a x.ks.l.length x.ks.c x.rc x.ins.a x.ins.l.length x.ins.c x.lks.a x.lks.l.length x.lks.c:=rfl;rw[hms]at HMY⊢;have hput:putM (msgP x)=(if x.v0 then [128]else [])++(x.h0::x.h1::x.h2::(shP x.ks.l.length++(x.ks.l.flatMap (·.l)++(x.rc.l++(shP x.ins.l.length++(x.ins.l.flatMap (fun y=>putI (inP y))++(if x.v0 then shP x.lks.l.length++x.lks.l.flatMap (fun y=>putLk (loP y))else []))))))):=by
  unfold putM;simp only[msgP,List.length_map,List.flatMap_map];rfl
 obtain⟨n1,hn1⟩:∃n,x.ks.l.length=n:=⟨_,rfl⟩;obtain⟨n2,hn2⟩:∃n,x.ins.l.length=n:=⟨_,rfl⟩;obtain⟨n3,hn3⟩:∃n,x.lks.l.length=n:=⟨_,rfl⟩;obtain⟨v0,hv0⟩:∃v,x.v0=v:=⟨_,rfl⟩;rw[hn1,hn2,hn3,hv0]at HMY⊢;rw[hn1,hn2,hn3,hv0]at hput;rw[hn1]at hB1;rw[hn2]at hB2;rw[hn3]at hB3;have HPUT:=Hi hput;have HLEN:Hid ((x.ks.l.flatMap (·.l)).length≤200000∧(x.ins.l.flatMap (fun y=>putI (inP y))).length≤200000∧(v0=true→(x.lks.l.flatMap (fun y=>putLk (loP y))).length≤200000)):=Hi (by
  rw[hput]at ht;simp only[List.length_append,List.length_cons]at ht;refine⟨by omega,by omega,fun h=> ?_⟩;rw[h]at ht;simp only[if_true,List.length_append]at ht;omega)
 obtain⟨PM,hPM⟩:∃PM,putM (msgP x)=PM:=⟨_,rfl⟩;rw[hPM]at HPUT⊢;have HN:=Hi (Ai hn1 (Ai hn2 hn3));clear hR hB hv hn1 hn2 hn3 hv0 hput ht hPM hms;go_enter Tryz.func65,Tryz.ntmps65;go_upto_region 0 with fail;refine ZP0 [3,0,0] ?_;refine Zb fun p1 hp1=> ?_
 iterate 2 refine Zv ?_
 refine TD.nil (fun w1 hr=> ?_);obtain⟨gp1,kp1⟩:=hr.b p1;have HM1:=Hi hr.mod;have HG1:=Hi gp1;clear hr;go_upto_region 1 with fail;have Lkp1:=Ls kp1;refine ZR0 (fun _ _ v=>v= .bool true) [1,2,0] ?_;refine Zd ?_;(refine Zc ?_ (s:=by intro wq hSq;exact(HMY.out wq (HM1.out.then0 hSq)).mono (fun e w' h=>⟨_,h.1,rfl,h.2⟩));rintro _ hC;subst hC;try simp only[zL]);refine Zv ?_;refine TD.nil (fun w2 hr=> ?_);replace kp1:=hr.q kp1;have HM2:=Hi (HM1.out.then0 hr.mod);clear hr;go_upto_region 3 with fail;have Lkp1:=Ls kp1;refine ZP0 [3] ?_;refine Za alLay fun p4 hp4=> ?_;refine TD.nil (fun w3 hr=> ?_);replace kp1:=hr.q kp1;obtain⟨gp4,kp4⟩:=hr.b p4;have HS:Hid (LyS w p4 p1 (p4+1) (.slice none 0 0) [] (.cells (mgx v0 x.h0 x.h1 x.h2 x.ks.a n1 x.ks.c x.rc x.ins.a n2 x.ins.c x.lks.a n3 x.lks.c) 33 (0,0)) w3):=Hi ⟨⟨kp4,SlOwn.nil _ _,by omega⟩,HM2.out.then0 hr.mod,kp1,HG1.out,by omega,by have:=Ls kp4;omega⟩;clear hr kp1 kp4 gp4;have hb128:∀w,(Instr.buildSlice 170 1 #[(0,.int .u8 128)]).run Tryz.prog w= .ok (.slice (some ⟨w.heap.size,0,none⟩) 1 1) (w.alloc (.cells #[u8v 128] 5)):=fun w=>by kernel_rfl
 have hbh:=bL3 x.h0 x.h1 x.h2;cases v0 with
 |true=>
  have kp1:=HS.out.k1;go_upto_region 4 with fail;have Lkp1:=Ls kp1;refine ZP0 [0,1] ?_;refine Zv ?_;refine Zd ?_;refine TD.nil (fun w4 hr=> ?_);replace kp1:=hr.q kp1;have HS:=Hi (HS.out.mod0 hr.mod);clear hr kp1;have kp4:=HS.out.g.1;have kp1:=HS.out.k1;go_upto_region 5 with fail;have Lkp1:=Ls kp1;have Lkp4:=Ls kp4;refine ZP0 [1,3,5,6] ?_;refine Zd ?_;refine Zy hb128 fun p17 hp17=> ?_;refine Zi fun wp hr=> ?_;replace kp1:=hr.q kp1;replace kp4:=hr.q kp4;obtain⟨gp17,kp17⟩:=hr.b p17;have HMP:=Hi hr.mod;obtain⟨v2,wx,⟨a2,q2,c2,rfl⟩,hap1,hap,k2,hfin⟩:=LyS.app 1 1 (HS.out.mod0 hr.mod) (SlAt.one kp17 (128:UInt8) rfl rfl) rfl (by simp) 170;have HFN:=Hi hfin;clear hr hfin kp4 kp1;have kp4:=k2;clear k2;refine ZA hap1 ?_;refine Zz ?_;refine ZS ?_;refine ZN kp4 fun wn kp4 mS=> ?_;(try simp only[Array.setIfInBounds,zL]at kp4);have HLY:=Hi (HFN.out _ mS kp4);have HS:=Hi HLY.out.1;clear mS HFN kp4 hap1 hap;obtain⟨wy,rfl⟩:∃wy:World,wy=wn:=⟨_,rfl⟩;have kp4:=HS.out.g.1;have kp1:=HS.out.k1;go_upto_region 6 with fail;have Lkp1:=Ls kp1;have Lkp4:=Ls kp4;refine ZP0 [1,0,0,1,0,0,1,0,0,1,3,5,6] ?_
  iterate 10 first|refine Zd ?_|refine Zv ?_
  refine Zy hbh fun p29 hp29=> ?_;refine Zi fun wp hr=> ?_;replace kp1:=hr.q kp1;replace kp4:=hr.q kp4;obtain⟨gp29,kp29⟩:=hr.b p29;have HMP:=Hi hr.mod;obtain⟨v2,wx,⟨a2,q2,c2,rfl⟩,hap1,hap,k2,hfin⟩:=LyS.app 3 3 (HS.out.mod0 hr.mod) (three_at kp29) rfl (by simp) 170;have HFN:=Hi hfin;clear hr hfin kp4 kp1;have kp4:=k2;clear k2;refine ZA hap1 ?_;refine Zz ?_;refine ZS ?_;refine ZN kp4 fun wn kp4 mS=> ?_;(try simp only[Array.setIfInBounds,zL]at kp4);have HLY:=Hi (HFN.out _ mS kp4);have HS:=Hi HLY.out.1;clear mS HFN kp4 hap1 hap;obtain⟨wy,rfl⟩:∃wy:World,wy=wn:=⟨_,rfl⟩;have kp4:=HS.out.g.1;have kp1:=HS.out.k1;go_upto_region 7 with fail;go_wp2_with fail;go_at_call 106;refine(many_c n1 (by omega) _ HS.out.g (by simp) HS.out.lt.2.2).mono ?_;rintro e wm ⟨rfl,v3,hG3,hC3⟩;have HS:=Hi (HS.out.step hG3 hC3);clear hG3 hC3 kp4 kp1;obtain⟨P1,hP1⟩:∃P,P=([]++[128]++[x.h0,x.h1,x.h2])++shP n1:=⟨_,rfl⟩;rw[←hP1]at HS;have HP1:Hid (P1.length≤30):=Hi (by rw[hP1];have:=shP_le n1;simp;omega);have HE1:=Hi hP1;clear hP1;have kp1:=HS.out.k1;go_upto_region 8 with fail;have Lkp1:=Ls kp1;refine ZP0 [0,1,0,0] ?_
  iterate 4 first|refine Zv ?_|refine Zd ?_
  refine TD.nil (fun w8 hr=> ?_);replace kp1:=hr.q kp1;have HS:=Hi (HS.out.mod0 hr.mod);clear hr kp1;go_wp2_with fail;go_loopw [38] (fun s38 ws=>∃(i:Nat) (v:Value),i≤n1∧s38= .int .i64 (i:Int)∧Hid (LyS w p4 p1 (p4+1) v (P1++(x.ks.l.take i).flatMap (·.l)) (.cells (mgx true x.h0 x.h1 x.h2 x.ks.a n1 x.ks.c x.rc x.ins.a n2 x.ins.c x.lks.a n3 x.lks.c) 33 (0,0)) ws)) (fun s38 _=>n1-(intOf s38).toNat)
  case atStart=>exact⟨0,_,Nat.zero_le _,rfl,by simpa using HS⟩
  case round=>
   obtain⟨i,v,hi,rfl,HS⟩:=hrel;by_cases hlt:i<n1
   ·have hd:=Dt hlt;obtain⟨y,hy⟩:∃y,x.ks.l[i]? =some y:=⟨_,List.getElem?_eq_getElem (by have:=HN.out;omega)⟩;obtain⟨g,o,C,U,fr,hga,kg,he,hle⟩:=(HX.out.1.1.mod0 HS.out.m).block hy;have HY:=Hi hy;have kp1:=HS.out.k1;clear hy;go_upto_region 10 with fail;have Lkp1:=Ls kp1;have Lkg:=Ls kg;refine ZP0 [0,1,3,4] ?_;refine Zv ?_;refine Zd ?_;refine Za alKey fun p6 hp6=> ?_;refine Zt ?_;refine TD.nil (fun w9 hr=> ?_);replace kp1:=hr.q kp1;replace kg:=hr.q kg;obtain⟨gp6,kp6⟩:=hr.b p6;have HS:=Hi (HS.out.mod0 hr.mod);clear hr he hle kg hga kp1;have hsk:=skey p6 0;have kp4:=HS.out.g.1;have kp1:=HS.out.k1;go_upto_region 11 with fail;have Lkp4:=Ls kp4;have Lkp6:=Ls kp6;refine ZP [1,0,5,6] ?_;refine Zd ?_;refine Zx hsk ?_;refine Zi fun wp hr=> ?_;replace kp4:=hr.q kp4;replace kp6:=hr.q kp6;have HMP:=Hi hr.mod;obtain⟨v2,wx,⟨a2,q2,c2,rfl⟩,hap1,hap,k2,hfin⟩:=LyS.app 32 32 (HS.out.mod0 hr.mod) (key_bytes kp6 (kc_ext y)) y.h (by have:=fm_le (fun k:Key=>k.l) x.ks.l i;have:=HLEN.out.1;have:=HP1.out;have:=y.h;simp only[List.length_append];omega) 170;have HFN:=Hi hfin;clear hr hfin kp4 kp1;have kp4:=k2;clear k2;(refine eff_append2 (by simp only[zK];rfl) (by rfl) rfl ?hx40 ?hz40 hap ?n40;(case hx40=>simp only[zM];try rfl);(case hz40=>simp only[zM];try rfl);try simp only[zL]);refine Zz ?_;refine ZS ?_;refine ZN kp4 fun wn kp4 mS=> ?_;(try simp only[Array.setIfInBounds,zL]at kp4);have HLY:=Hi (HFN.out _ mS kp4);have HS:=Hi HLY.out.1;clear mS HFN kp4 hap1 hap;obtain⟨wy,rfl⟩:∃wy:World,wy=wn:=⟨_,rfl⟩;have HS:=Hi (show LyS w p4 p1 (p4+1) (.slice a2 q2 c2) (P1++(x.ks.l.take (i+1)).flatMap (·.l)) _ wy by rw[fm_snoc HY.out,←List.append_assoc];exact HS.out);go_wp2_with fail;go_roundw
    case rel=>exact⟨i+1,_,by omega,by go_num,HS⟩
    case measure=>simp[intOf];omega
   ·have hd:=Df hlt;obtain rfl:n1=i:=by omega
    rw[show x.ks.l.take n1=x.ks.l from List.take_of_length_le (by have:=HN.out;omega)]at HS;clear hi hlt;have hsh:=shash p1 5;have kp4:=HS.out.g.1;have kp1:=HS.out.k1;go_upto_region 13 with fail;have Lkp4:=Ls kp4;have Lkp1:=Ls kp1;refine ZP [1,0,0,5,6] ?_;refine Zd ?_;refine Zv ?_;refine Zx hsh ?_;refine Zi fun wp hr=> ?_;replace kp4:=hr.q kp4;replace kp1:=hr.q kp1;have HMP:=Hi hr.mod;obtain⟨v2,wx,⟨a2,q2,c2,rfl⟩,hap1,hap,k2,hfin⟩:=LyS.app 32 32 (HS.out.mod0 hr.mod) (key_bytes kp1 (mgx_hs ..)) x.rc.h (by have:=HLEN.out.1;have:=HP1.out;have:=x.rc.h;simp only[List.length_append];omega) 170;have HFN:=Hi hfin;clear hr hfin kp4 kp1;have kp4:=k2;clear k2;(refine eff_append2 (by simp only[zK];rfl) (by rfl) rfl ?hx46 ?hz46 hap ?n46;(case hx46=>simp only[zM];try rfl);(case hz46=>simp only[zM];try rfl);try simp only[zL]);refine Zz ?_;refine ZS ?_;refine ZN kp4 fun wn kp4 mS=> ?_;(try simp only[Array.setIfInBounds,zL]at kp4);have HLY:=Hi (HFN.out _ mS kp4);have HS:=Hi HLY.out.1;clear mS HFN kp4 hap1 hap;obtain⟨wy,rfl⟩:∃wy:World,wy=wn:=⟨_,rfl⟩;have kp4:=HS.out.g.1;have kp1:=HS.out.k1;go_upto_region 14 with fail;go_wp2_with fail;go_at_call 106;refine(many_c n2 (by omega) _ HS.out.g (by have:=HLEN.out.1;have:=HP1.out;have:=x.rc.h;simp only[List.length_append];omega) HS.out.lt.2.2).mono ?_;rintro e wm ⟨rfl,v3,hG3,hC3⟩;have HS:=Hi (HS.out.step hG3 hC3);clear hG3 hC3 kp4 kp1;obtain⟨P2,hP2⟩:∃P,P=((P1++x.ks.l.flatMap (·.l))++x.rc.l)++shP n2:=⟨_,rfl⟩;rw[←hP2]at HS;have HP2:Hid (P2.length≤200100):=Hi (by rw[hP2];have:=shP_le n2;have:=HLEN.out.1;have:=HP1.out;have:=x.rc.h;simp only[List.length_append];omega);have HE2:=Hi hP2;clear hP2 hsh;have kp1:=HS.out.k1;go_upto_region 15 with fail;have Lkp1:=Ls kp1;refine ZP0 [0,1,0,0] ?_
    iterate 4 first|refine Zv ?_|refine Zd ?_
    refine TD.nil (fun w10 hr=> ?_);replace kp1:=hr.q kp1;have HS:=Hi (HS.out.mod0 hr.mod);clear hr kp1;go_wp2_with fail;go_loopw [57] (fun s57 ws=>∃(i:Nat) (v:Value),i≤n2∧s57= .int .i64 (i:Int)∧Hid (LyS w p4 p1 (p4+1) v (P2++(x.ins.l.take i).flatMap (fun y=>putI (inP y))) (.cells (mgx true x.h0 x.h1 x.h2 x.ks.a n1 x.ks.c x.rc x.ins.a n2 x.ins.c x.lks.a n3 x.lks.c) 33 (0,0)) ws)) (fun s57 _=>n2-(intOf s57).toNat)
    case atStart=>exact⟨0,_,Nat.zero_le _,rfl,by simpa using HS⟩
    case round=>
     clear HS;obtain⟨i,v,hi,rfl,HS⟩:=hrel;by_cases hlt:i<n2
     ·have hd:=Dt hlt;obtain⟨y,hy⟩:∃y,x.ins.l[i]? =some y:=⟨_,List.getElem?_eq_getElem (by have:=HN.out;omega)⟩;obtain⟨g,o,C,U,fr,hga,kg,he,hle⟩:=(HX.out.2.1.1.mod0 HS.out.m).block hy;have HY:=Hi (Ai hy (Ai (HX.out.2.1.2.2 y (List.mem_of_getElem? hy)) (HBI.out y (List.mem_of_getElem? hy))));have kp1:=HS.out.k1;clear hy;go_upto_region 17 with fail;have Lkp1:=Ls kp1;have Lkg:=Ls kg;refine ZP0 [0,1,3,4] ?_;refine Zv ?_;refine Zd ?_;refine Za alIn fun p8 hp8=> ?_;refine Zt ?_;refine TD.nil (fun w9 hr=> ?_);replace kp1:=hr.q kp1;replace kg:=hr.q kg;obtain⟨gp8,kp8⟩:=hr.b p8;have HNE:Hid (p8≠p4∧v.ownBlock≠some p8):=Hi ⟨fun e=>by have:=Ls HS.out.g.1;omega,fun e=>by have:=(HS.out.g.2.1.lt p8 e).2;omega⟩;have HS:=Hi (HS.out.mod0 hr.mod);clear hr he hle kg hga kp1;have hbp:=bL1 y.p;have kp4:=HS.out.g.1;have kp1:=HS.out.k1;go_upto_region 18 with fail;have Lkp4:=Ls kp4;have Lkp8:=Ls kp8;refine ZP0 [1,0,1,3,5,6] ?_
      iterate 3 first|refine Zd ?_|refine Zv ?_
      refine Zy hbp fun p64 hp64=> ?_;refine Zi fun wp hr=> ?_;replace kp4:=hr.q kp4;replace kp8:=hr.q kp8;obtain⟨gp64,kp64⟩:=hr.b p64;have HMP:=Hi hr.mod;obtain⟨v2,wx,⟨a2,q2,c2,rfl⟩,hap1,hap,k2,hfin⟩:=LyS.app 1 1 (HS.out.mod0 hr.mod) (SlAt.one kp64 y.p rfl rfl) rfl (by have:=fm_le (fun y=>putI (inP y)) x.ins.l i;have:=HLEN.out.2.1;have:=HP2.out;simp only[List.length_append,List.length_cons,List.length_nil];omega) 170;have HFN:=Hi hfin;clear hr hfin kp4 kp1;have kp4:=k2;clear k2;refine ZA hap1 ?_;refine Zz ?_;refine ZS ?_;refine ZN kp4 fun wn kp4 mS=> ?_;(try simp only[Array.setIfInBounds,zL]at kp4);have HLY:=Hi (HFN.out _ mS kp4);have HS:=Hi HLY.out.1;clear mS HFN kp4 hap1 hap;obtain⟨wy,rfl⟩:∃wy:World,wy=wn:=⟨_,rfl⟩;have hx:=HLY.out.2.at kp8 HNE.out.1 HNE.out.2;clear kp8;have kp8:=hx.1;have HNE:=Hi (Ai HNE.out.1 hx.2);clear hx;have kp4:=HS.out.g.1;have kp1:=HS.out.k1;go_upto_region 19 with fail;go_wp2_with fail;go_at_call 107;refine(list_c (c:=y.a.c) _ HS.out.g HY.out.2.1.1.1 HS.out.m (by have:=HS.out.lt;omega) HY.out.2.2.1 (by have:=fm_le (fun y=>putI (inP y)) x.ins.l i;have:=HLEN.out.2.1;have:=HP2.out;simp only[List.length_append,List.length_cons,List.length_nil];omega) HS.out.lt.2.2).mono ?_;rintro e wl ⟨rfl,v4,hG4,hC4⟩;have HS:=Hi (HS.out.step hG4 hC4);have hx:=hC4.at kp8 HNE.out.1 HNE.out.2;clear kp8 hC4 hG4 kp4 kp1;have kp8:=hx.1;have HNE:=Hi (Ai HNE.out.1 hx.2);clear hx;have kp4:=HS.out.g.1;have kp1:=HS.out.k1;go_upto_region 20 with fail;go_wp2_with fail;go_at_call 107;refine(list_c (c:=y.d.c) _ HS.out.g HY.out.2.1.2.1 HS.out.m (by have:=HS.out.lt;omega) HY.out.2.2.2 (by have:=fm_le (fun y=>putI (inP y)) x.ins.l i;have:=HLEN.out.2.1;have:=HP2.out;have:=lis_le y.a.l HY.out.2.2.1;simp only[List.length_append,List.length_cons,List.length_nil];omega) HS.out.lt.2.2).mono ?_;rintro e wl ⟨rfl,v4,hG4,hC4⟩;have HS:=Hi (HS.out.step hG4 hC4);have hx:=hC4.at kp8 HNE.out.1 HNE.out.2;clear kp8 hC4 hG4 kp4 kp1;have kp8:=hx.1;have HNE:=Hi (Ai HNE.out.1 hx.2);clear hx;have HS:=Hi (show LyS w p4 p1 (p4+1) v4 (P2++(x.ins.l.take (i+1)).flatMap (fun y=>putI (inP y))) _ wl by
       have e:P2++(x.ins.l.take (i+1)).flatMap (fun y=>putI (inP y))=P2++(x.ins.l.take i).flatMap (fun y=>putI (inP y))++[y.p]++lisP y.a.l++lisP y.d.l:=by
        rw[fm_snoc HY.out.1];simp only[putI,inP,List.append_assoc,List.cons_append,List.nil_append]
       rw[e];exact HS.out)
      clear kp8;go_wp2_with fail;go_roundw
      case rel=>exact⟨i+1,_,by omega,by go_num,HS⟩
      case measure=>simp[intOf];omega
     ·have hd:=Df hlt;obtain rfl:n2=i:=by omega
      rw[show x.ins.l.take n2=x.ins.l from List.take_of_length_le (by have:=HN.out;omega)]at HS;clear hi hlt;have kp1:=HS.out.k1;go_upto_region 22 with fail;have Lkp1:=Ls kp1;refine ZP0 [0,1] ?_;refine Zv ?_;refine Zd ?_;refine TD.nil (fun w11 hr=> ?_);replace kp1:=hr.q kp1;have HS:=Hi (HS.out.mod0 hr.mod);clear hr kp1;have kp4:=HS.out.g.1;have kp1:=HS.out.k1;go_upto_region 23 with fail;go_wp2_with fail;go_at_call 106;refine(many_c n3 (by omega) _ HS.out.g (by have:=HLEN.out.2.1;have:=HP2.out;simp only[List.length_append];omega) HS.out.lt.2.2).mono ?_;rintro e wm ⟨rfl,v3,hG3,hC3⟩;have HS:=Hi (HS.out.step hG3 hC3);clear hG3 hC3 kp4 kp1;obtain⟨P3,hP3⟩:∃P,P=(P2++x.ins.l.flatMap (fun y=>putI (inP y)))++shP n3:=⟨_,rfl⟩;rw[←hP3]at HS;have HP3:Hid (P3.length≤400200):=Hi (by rw[hP3];have:=shP_le n3;have:=HLEN.out.2.1;have:=HP2.out;simp only[List.length_append];omega);have HE3:=Hi hP3;clear hP3;have kp1:=HS.out.k1;go_upto_region 24 with fail;have Lkp1:=Ls kp1;refine ZP0 [0,1,0,0] ?_
      iterate 4 first|refine Zv ?_|refine Zd ?_
      refine TD.nil (fun w12 hr=> ?_);replace kp1:=hr.q kp1;have HS:=Hi (HS.out.mod0 hr.mod);clear hr kp1;go_wp2_with fail;go_loopw [82] (fun s82 ws=>∃(i:Nat) (v:Value),i≤n3∧s82= .int .i64 (i:Int)∧Hid (LyS w p4 p1 (p4+1) v (P3++(x.lks.l.take i).flatMap (fun y=>putLk (loP y))) (.cells (mgx true x.h0 x.h1 x.h2 x.ks.a n1 x.ks.c x.rc x.ins.a n2 x.ins.c x.lks.a n3 x.lks.c) 33 (0,0)) ws)) (fun s82 _=>n3-(intOf s82).toNat)
      case atStart=>exact⟨0,_,Nat.zero_le _,rfl,by simpa using HS⟩
      case round=>
       clear HS;obtain⟨i,v,hi,rfl,HS⟩:=hrel;by_cases hlt:i<n3
       ·have hd:=Dt hlt;obtain⟨y,hy⟩:∃y,x.lks.l[i]? =some y:=⟨_,List.getElem?_eq_getElem (by have:=HN.out;omega)⟩;obtain⟨g,o,C,U,fr,hga,kg,he,hle⟩:=(HX.out.2.2.1.mod0 HS.out.m).block hy;have HY:=Hi (Ai hy (Ai (HX.out.2.2.2.2 y (List.mem_of_getElem? hy)) (HBL.out y (List.mem_of_getElem? hy))));have kp1:=HS.out.k1;clear hy;go_upto_region 26 with fail;have Lkp1:=Ls kp1;have Lkg:=Ls kg;refine ZP0 [0,1,3,4] ?_;refine Zv ?_;refine Zd ?_;refine Za alLo fun p10 hp10=> ?_;refine Zt ?_;refine TD.nil (fun w9 hr=> ?_);replace kp1:=hr.q kp1;replace kg:=hr.q kg;obtain⟨gp10,kp10⟩:=hr.b p10;have HNE:Hid (p10≠p4∧v.ownBlock≠some p10):=Hi ⟨fun e=>by have:=Ls HS.out.g.1;omega,fun e=>by have:=(HS.out.g.2.1.lt p10 e).2;omega⟩;have HS:=Hi (HS.out.mod0 hr.mod);clear hr he hle kg hga kp1;have hsk:=skey p10 0;have kp4:=HS.out.g.1;have kp1:=HS.out.k1;go_upto_region 27 with fail;have Lkp4:=Ls kp4;have Lkp10:=Ls kp10;refine ZP [1,0,0,5,6] ?_;refine Zd ?_;refine Zv ?_;refine Zx hsk ?_;refine Zi fun wp hr=> ?_;replace kp4:=hr.q kp4;replace kp10:=hr.q kp10;have HMP:=Hi hr.mod;obtain⟨v2,wx,⟨a2,q2,c2,rfl⟩,hap1,hap,k2,hfin⟩:=LyS.app 32 32 (HS.out.mod0 hr.mod) (key_bytes kp10 (lor_key y)) y.t.h (by have:=fm_le (fun y=>putLk (loP y)) x.lks.l i;have:=HLEN.out.2.2 (by first|rfl|trivial);have:=HP3.out;have:=y.t.h;simp only[List.length_append];omega) 170;have HFN:=Hi hfin;clear hr hfin kp4 kp1;have kp4:=k2;clear k2;(refine eff_append2 (by simp only[zK];rfl) (by rfl) rfl ?hx77 ?hz77 hap ?n77;(case hx77=>simp only[zM];try rfl);(case hz77=>simp only[zM];try rfl);try simp only[zL]);refine Zz ?_;refine ZS ?_;refine ZN kp4 fun wn kp4 mS=> ?_;(try simp only[Array.setIfInBounds,zL]at kp4);have HLY:=Hi (HFN.out _ mS kp4);have HS:=Hi HLY.out.1;clear mS HFN kp4 hap1 hap;obtain⟨wy,rfl⟩:∃wy:World,wy=wn:=⟨_,rfl⟩;have hx:=HLY.out.2.at kp10 HNE.out.1 HNE.out.2;clear kp10;have kp10:=hx.1;have HNE:=Hi (Ai HNE.out.1 hx.2);clear hx;have kp4:=HS.out.g.1;have kp1:=HS.out.k1;go_upto_region 28 with fail;go_wp2_with fail;go_at_call 107;refine(list_c (c:=y.w.c) _ HS.out.g HY.out.2.1.1.1 HS.out.m (by have:=HS.out.lt;omega) HY.out.2.2.1 (by have:=fm_le (fun y=>putLk (loP y)) x.lks.l i;have:=HLEN.out.2.2 (by first|rfl|trivial);have:=HP3.out;have:=y.t.h;simp only[List.length_append];omega) HS.out.lt.2.2).mono ?_;rintro e wl ⟨rfl,v4,hG4,hC4⟩;have HS:=Hi (HS.out.step hG4 hC4);have hx:=hC4.at kp10 HNE.out.1 HNE.out.2;clear kp10 hC4 hG4 kp4 kp1;have kp10:=hx.1;have HNE:=Hi (Ai HNE.out.1 hx.2);clear hx;have kp4:=HS.out.g.1;have kp1:=HS.out.k1;go_upto_region 29 with fail;go_wp2_with fail;go_at_call 107;refine(list_c (c:=y.r.c) _ HS.out.g HY.out.2.1.2.1 HS.out.m (by have:=HS.out.lt;omega) HY.out.2.2.2 (by have:=fm_le (fun y=>putLk (loP y)) x.lks.l i;have:=HLEN.out.2.2 (by first|rfl|trivial);have:=HP3.out;have:=y.t.h;have:=lis_le y.w.l HY.out.2.2.1;simp only[List.length_append];omega) HS.out.lt.2.2).mono ?_;rintro e wl ⟨rfl,v4,hG4,hC4⟩;have HS:=Hi (HS.out.step hG4 hC4);have hx:=hC4.at kp10 HNE.out.1 HNE.out.2;clear kp10 hC4 hG4 kp4 kp1;have kp10:=hx.1;have HNE:=Hi (Ai HNE.out.1 hx.2);clear hx;have HS:=Hi (show LyS w p4 p1 (p4+1) v4 (P3++(x.lks.l.take (i+1)).flatMap (fun y=>putLk (loP y))) _ wl by
         have e:P3++(x.lks.l.take (i+1)).flatMap (fun y=>putLk (loP y))=P3++(x.lks.l.take i).flatMap (fun y=>putLk (loP y))++y.t.l++lisP y.w.l++lisP y.r.l:=by
          rw[fm_snoc HY.out.1];simp only[putLk,loP,List.append_assoc]
         rw[e];exact HS.out)
        clear kp10;go_wp2_with fail;go_roundw
        case rel=>exact⟨i+1,_,by omega,by go_num,HS⟩
        case measure=>simp[intOf];omega
       ·have hd:=Df hlt;obtain rfl:n3=i:=by omega
        rw[show x.lks.l.take n3=x.lks.l from List.take_of_length_le (by have:=HN.out;omega)]at HS;clear hi hlt;have hB:(P3++x.lks.l.flatMap (fun y=>putLk (loP y)))=PM:=by
         rw[HPUT.out,HE3.out,HE2.out,HE1.out];simp
        rw[hB]at HS;obtain⟨a,c,rfl,hcl,hN⟩:=clip_newL HS.out.g.2.1;obtain⟨k,hk⟩:∃k,PM.length=k:=⟨_,rfl⟩;have kp4:=HS.out.g.1;rw[hk]at kp4 hcl;have HF:=Hi (Ai hN (Ai hk (Ai HS.out.m HS.out.lt)));clear hB hN hk;go_upto_region 31 with fail;have Lkp4:=Ls kp4;refine ZR0 (fun _ _ v=>v= .slice a k k) [1,2,0,0] ?_;refine Zd ?_;(refine Zc ?_ (s:=by intro wq hSq;exact(clipLay_c _ _ _ hcl).mono (fun e w' h=>⟨_,h.1,rfl,by rw[h.2];exact Mod.refl _ _⟩));rintro _ hC;subst hC;try simp only[zL])
        iterate 2 refine Zv ?_
        refine TD.nil (fun wz hr=> ?_);replace kp4:=hr.q kp4;have HMZ:=Hi hr.mod;clear hr hcl;go_wp2_with fail
        go_ret2
        refine⟨a,?_,(HF.out.1.base (by have:=HF.out.2.2.2;omega)).mod0 HMZ.out,HF.out.2.2.1.then0 HMZ.out⟩;rw[HF.out.2.1];rfl
 |false=>
  have kp1:=HS.out.k1;go_upto_region 4 with fail;have Lkp1:=Ls kp1;refine ZP0 [0,1] ?_;refine Zv ?_;refine Zd ?_;refine TD.nil (fun w4 hr=> ?_);replace kp1:=hr.q kp1;have HS:=Hi (HS.out.mod0 hr.mod);clear hr kp1;have kp4:=HS.out.g.1;have kp1:=HS.out.k1;go_upto_region 6 with fail;have Lkp1:=Ls kp1;have Lkp4:=Ls kp4;refine ZP0 [1,0,0,1,0,0,1,0,0,1,3,5,6] ?_
  iterate 10 first|refine Zd ?_|refine Zv ?_
  refine Zy hbh fun p29 hp29=> ?_;refine Zi fun wp hr=> ?_;replace kp1:=hr.q kp1;replace kp4:=hr.q kp4;obtain⟨gp29,kp29⟩:=hr.b p29;have HMP:=Hi hr.mod;obtain⟨v2,wx,⟨a2,q2,c2,rfl⟩,hap1,hap,k2,hfin⟩:=LyS.app 3 3 (HS.out.mod0 hr.mod) (three_at kp29) rfl (by simp) 170;have HFN:=Hi hfin;clear hr hfin kp4 kp1;have kp4:=k2;clear k2;refine ZA hap1 ?_;refine Zz ?_;refine ZS ?_;refine ZN kp4 fun wn kp4 mS=> ?_;(try simp only[Array.setIfInBounds,zL]at kp4);have HLY:=Hi (HFN.out _ mS kp4);have HS:=Hi HLY.out.1;clear mS HFN kp4 hap1 hap;obtain⟨wy,rfl⟩:∃wy:World,wy=wn:=⟨_,rfl⟩;have kp4:=HS.out.g.1;have kp1:=HS.out.k1;go_upto_region 7 with fail;go_wp2_with fail;go_at_call 106;refine(many_c n1 (by omega) _ HS.out.g (by simp) HS.out.lt.2.2).mono ?_;rintro e wm ⟨rfl,v3,hG3,hC3⟩;have HS:=Hi (HS.out.step hG3 hC3);clear hG3 hC3 kp4 kp1;obtain⟨P1,hP1⟩:∃P,P=([]++[x.h0,x.h1,x.h2])++shP n1:=⟨_,rfl⟩;rw[←hP1]at HS;have HP1:Hid (P1.length≤30):=Hi (by rw[hP1];have:=shP_le n1;simp;omega);have HE1:=Hi hP1;clear hP1;have kp1:=HS.out.k1;go_upto_region 8 with fail;have Lkp1:=Ls kp1;refine ZP0 [0,1,0,0] ?_
  iterate 4 first|refine Zv ?_|refine Zd ?_
  refine TD.nil (fun w8 hr=> ?_);replace kp1:=hr.q kp1;have HS:=Hi (HS.out.mod0 hr.mod);clear hr kp1;go_wp2_with fail;go_loopw [38] (fun s38 ws=>∃(i:Nat) (v:Value),i≤n1∧s38= .int .i64 (i:Int)∧Hid (LyS w p4 p1 (p4+1) v (P1++(x.ks.l.take i).flatMap (·.l)) (.cells (mgx false x.h0 x.h1 x.h2 x.ks.a n1 x.ks.c x.rc x.ins.a n2 x.ins.c x.lks.a n3 x.lks.c) 33 (0,0)) ws)) (fun s38 _=>n1-(intOf s38).toNat)
  case atStart=>exact⟨0,_,Nat.zero_le _,rfl,by simpa using HS⟩
  case round=>
   obtain⟨i,v,hi,rfl,HS⟩:=hrel;by_cases hlt:i<n1
   ·have hd:=Dt hlt;obtain⟨y,hy⟩:∃y,x.ks.l[i]? =some y:=⟨_,List.getElem?_eq_getElem (by have:=HN.out;omega)⟩;obtain⟨g,o,C,U,fr,hga,kg,he,hle⟩:=(HX.out.1.1.mod0 HS.out.m).block hy;have HY:=Hi hy;have kp1:=HS.out.k1;clear hy;go_upto_region 10 with fail;have Lkp1:=Ls kp1;have Lkg:=Ls kg;refine ZP0 [0,1,3,4] ?_;refine Zv ?_;refine Zd ?_;refine Za alKey fun p6 hp6=> ?_;refine Zt ?_;refine TD.nil (fun w9 hr=> ?_);replace kp1:=hr.q kp1;replace kg:=hr.q kg;obtain⟨gp6,kp6⟩:=hr.b p6;have HS:=Hi (HS.out.mod0 hr.mod);clear hr he hle kg hga kp1;have hsk:=skey p6 0;have kp4:=HS.out.g.1;have kp1:=HS.out.k1;go_upto_region 11 with fail;have Lkp4:=Ls kp4;have Lkp6:=Ls kp6;refine ZP [1,0,5,6] ?_;refine Zd ?_;refine Zx hsk ?_;refine Zi fun wp hr=> ?_;replace kp4:=hr.q kp4;replace kp6:=hr.q kp6;have HMP:=Hi hr.mod;obtain⟨v2,wx,⟨a2,q2,c2,rfl⟩,hap1,hap,k2,hfin⟩:=LyS.app 32 32 (HS.out.mod0 hr.mod) (key_bytes kp6 (kc_ext y)) y.h (by have:=fm_le (fun k:Key=>k.l) x.ks.l i;have:=HLEN.out.1;have:=HP1.out;have:=y.h;simp only[List.length_append];omega) 170;have HFN:=Hi hfin;clear hr hfin kp4 kp1;have kp4:=k2;clear k2;(refine eff_append2 (by simp only[zK];rfl) (by rfl) rfl ?hx110 ?hz110 hap ?n110;(case hx110=>simp only[zM];try rfl);(case hz110=>simp only[zM];try rfl);try simp only[zL]);refine Zz ?_;refine ZS ?_;refine ZN kp4 fun wn kp4 mS=> ?_;(try simp only[Array.setIfInBounds,zL]at kp4);have HLY:=Hi (HFN.out _ mS kp4);have HS:=Hi HLY.out.1;clear mS HFN kp4 hap1 hap;obtain⟨wy,rfl⟩:∃wy:World,wy=wn:=⟨_,rfl⟩;have HS:=Hi (show LyS w p4 p1 (p4+1) (.slice a2 q2 c2) (P1++(x.ks.l.take (i+1)).flatMap (·.l)) _ wy by rw[fm_snoc HY.out,←List.append_assoc];exact HS.out);go_wp2_with fail;go_roundw
    case rel=>exact⟨i+1,_,by omega,by go_num,HS⟩
    case measure=>simp[intOf];omega
   ·have hd:=Df hlt;obtain rfl:n1=i:=by omega
    rw[show x.ks.l.take n1=x.ks.l from List.take_of_length_le (by have:=HN.out;omega)]at HS;clear hi hlt;have hsh:=shash p1 5;have kp4:=HS.out.g.1;have kp1:=HS.out.k1;go_upto_region 13 with fail;have Lkp4:=Ls kp4;have Lkp1:=Ls kp1;refine ZP [1,0,0,5,6] ?_;refine Zd ?_;refine Zv ?_;refine Zx hsh ?_;refine Zi fun wp hr=> ?_;replace kp4:=hr.q kp4;replace kp1:=hr.q kp1;have HMP:=Hi hr.mod;obtain⟨v2,wx,⟨a2,q2,c2,rfl⟩,hap1,hap,k2,hfin⟩:=LyS.app 32 32 (HS.out.mod0 hr.mod) (key_bytes kp1 (mgx_hs ..)) x.rc.h (by have:=HLEN.out.1;have:=HP1.out;have:=x.rc.h;simp only[List.length_append];omega) 170;have HFN:=Hi hfin;clear hr hfin kp4 kp1;have kp4:=k2;clear k2;(refine eff_append2 (by simp only[zK];rfl) (by rfl) rfl ?hx116 ?hz116 hap ?n116;(case hx116=>simp only[zM];try rfl);(case hz116=>simp only[zM];try rfl);try simp only[zL]);refine Zz ?_;refine ZS ?_;refine ZN kp4 fun wn kp4 mS=> ?_;(try simp only[Array.setIfInBounds,zL]at kp4);have HLY:=Hi (HFN.out _ mS kp4);have HS:=Hi HLY.out.1;clear mS HFN kp4 hap1 hap;obtain⟨wy,rfl⟩:∃wy:World,wy=wn:=⟨_,rfl⟩;have kp4:=HS.out.g.1;have kp1:=HS.out.k1;go_upto_region 14 with fail;go_wp2_with fail;go_at_call 106;refine(many_c n2 (by omega) _ HS.out.g (by have:=HLEN.out.1;have:=HP1.out;have:=x.rc.h;simp only[List.length_append];omega) HS.out.lt.2.2).mono ?_;rintro e wm ⟨rfl,v3,hG3,hC3⟩;have HS:=Hi (HS.out.step hG3 hC3);clear hG3 hC3 kp4 kp1;obtain⟨P2,hP2⟩:∃P,P=((P1++x.ks.l.flatMap (·.l))++x.rc.l)++shP n2:=⟨_,rfl⟩;rw[←hP2]at HS;have HP2:Hid (P2.length≤200100):=Hi (by rw[hP2];have:=shP_le n2;have:=HLEN.out.1;have:=HP1.out;have:=x.rc.h;simp only[List.length_append];omega);have HE2:=Hi hP2;clear hP2 hsh;have kp1:=HS.out.k1;go_upto_region 15 with fail;have Lkp1:=Ls kp1;refine ZP0 [0,1,0,0] ?_
    iterate 4 first|refine Zv ?_|refine Zd ?_
    refine TD.nil (fun w10 hr=> ?_);replace kp1:=hr.q kp1;have HS:=Hi (HS.out.mod0 hr.mod);clear hr kp1;go_wp2_with fail;go_loopw [57] (fun s57 ws=>∃(i:Nat) (v:Value),i≤n2∧s57= .int .i64 (i:Int)∧Hid (LyS w p4 p1 (p4+1) v (P2++(x.ins.l.take i).flatMap (fun y=>putI (inP y))) (.cells (mgx false x.h0 x.h1 x.h2 x.ks.a n1 x.ks.c x.rc x.ins.a n2 x.ins.c x.lks.a n3 x.lks.c) 33 (0,0)) ws)) (fun s57 _=>n2-(intOf s57).toNat)
    case atStart=>exact⟨0,_,Nat.zero_le _,rfl,by simpa using HS⟩
    case round=>
     clear HS;obtain⟨i,v,hi,rfl,HS⟩:=hrel;by_cases hlt:i<n2
     ·have hd:=Dt hlt;obtain⟨y,hy⟩:∃y,x.ins.l[i]? =some y:=⟨_,List.getElem?_eq_getElem (by have:=HN.out;omega)⟩;obtain⟨g,o,C,U,fr,hga,kg,he,hle⟩:=(HX.out.2.1.1.mod0 HS.out.m).block hy;have HY:=Hi (Ai hy (Ai (HX.out.2.1.2.2 y (List.mem_of_getElem? hy)) (HBI.out y (List.mem_of_getElem? hy))));have kp1:=HS.out.k1;clear hy;go_upto_region 17 with fail;have Lkp1:=Ls kp1;have Lkg:=Ls kg;refine ZP0 [0,1,3,4] ?_;refine Zv ?_;refine Zd ?_;refine Za alIn fun p8 hp8=> ?_;refine Zt ?_;refine TD.nil (fun w9 hr=> ?_);replace kp1:=hr.q kp1;replace kg:=hr.q kg;obtain⟨gp8,kp8⟩:=hr.b p8;have HNE:Hid (p8≠p4∧v.ownBlock≠some p8):=Hi ⟨fun e=>by have:=Ls HS.out.g.1;omega,fun e=>by have:=(HS.out.g.2.1.lt p8 e).2;omega⟩;have HS:=Hi (HS.out.mod0 hr.mod);clear hr he hle kg hga kp1;have hbp:=bL1 y.p;have kp4:=HS.out.g.1;have kp1:=HS.out.k1;go_upto_region 18 with fail;have Lkp4:=Ls kp4;have Lkp8:=Ls kp8;refine ZP0 [1,0,1,3,5,6] ?_
      iterate 3 first|refine Zd ?_|refine Zv ?_
      refine Zy hbp fun p64 hp64=> ?_;refine Zi fun wp hr=> ?_;replace kp4:=hr.q kp4;replace kp8:=hr.q kp8;obtain⟨gp64,kp64⟩:=hr.b p64;have HMP:=Hi hr.mod;obtain⟨v2,wx,⟨a2,q2,c2,rfl⟩,hap1,hap,k2,hfin⟩:=LyS.app 1 1 (HS.out.mod0 hr.mod) (SlAt.one kp64 y.p rfl rfl) rfl (by have:=fm_le (fun y=>putI (inP y)) x.ins.l i;have:=HLEN.out.2.1;have:=HP2.out;simp only[List.length_append,List.length_cons,List.length_nil];omega) 170;have HFN:=Hi hfin;clear hr hfin kp4 kp1;have kp4:=k2;clear k2;refine ZA hap1 ?_;refine Zz ?_;refine ZS ?_;refine ZN kp4 fun wn kp4 mS=> ?_;(try simp only[Array.setIfInBounds,zL]at kp4);have HLY:=Hi (HFN.out _ mS kp4);have HS:=Hi HLY.out.1;clear mS HFN kp4 hap1 hap;obtain⟨wy,rfl⟩:∃wy:World,wy=wn:=⟨_,rfl⟩;have hx:=HLY.out.2.at kp8 HNE.out.1 HNE.out.2;clear kp8;have kp8:=hx.1;have HNE:=Hi (Ai HNE.out.1 hx.2);clear hx;have kp4:=HS.out.g.1;have kp1:=HS.out.k1;go_upto_region 19 with fail;go_wp2_with fail;go_at_call 107;refine(list_c (c:=y.a.c) _ HS.out.g HY.out.2.1.1.1 HS.out.m (by have:=HS.out.lt;omega) HY.out.2.2.1 (by have:=fm_le (fun y=>putI (inP y)) x.ins.l i;have:=HLEN.out.2.1;have:=HP2.out;simp only[List.length_append,List.length_cons,List.length_nil];omega) HS.out.lt.2.2).mono ?_;rintro e wl ⟨rfl,v4,hG4,hC4⟩;have HS:=Hi (HS.out.step hG4 hC4);have hx:=hC4.at kp8 HNE.out.1 HNE.out.2;clear kp8 hC4 hG4 kp4 kp1;have kp8:=hx.1;have HNE:=Hi (Ai HNE.out.1 hx.2);clear hx;have kp4:=HS.out.g.1;have kp1:=HS.out.k1;go_upto_region 20 with fail;go_wp2_with fail;go_at_call 107;refine(list_c (c:=y.d.c) _ HS.out.g HY.out.2.1.2.1 HS.out.m (by have:=HS.out.lt;omega) HY.out.2.2.2 (by have:=fm_le (fun y=>putI (inP y)) x.ins.l i;have:=HLEN.out.2.1;have:=HP2.out;have:=lis_le y.a.l HY.out.2.2.1;simp only[List.length_append,List.length_cons,List.length_nil];omega) HS.out.lt.2.2).mono ?_;rintro e wl ⟨rfl,v4,hG4,hC4⟩;have HS:=Hi (HS.out.step hG4 hC4);have hx:=hC4.at kp8 HNE.out.1 HNE.out.2;clear kp8 hC4 hG4 kp4 kp1;have kp8:=hx.1;have HNE:=Hi (Ai HNE.out.1 hx.2);clear hx;have HS:=Hi (show LyS w p4 p1 (p4+1) v4 (P2++(x.ins.l.take (i+1)).flatMap (fun y=>putI (inP y))) _ wl by
       have e:P2++(x.ins.l.take (i+1)).flatMap (fun y=>putI (inP y))=P2++(x.ins.l.take i).flatMap (fun y=>putI (inP y))++[y.p]++lisP y.a.l++lisP y.d.l:=by
        rw[fm_snoc HY.out.1];simp only[putI,inP,List.append_assoc,List.cons_append,List.nil_append]
       rw[e];exact HS.out)
      clear kp8;go_wp2_with fail;go_roundw
      case rel=>exact⟨i+1,_,by omega,by go_num,HS⟩
      case measure=>simp[intOf];omega
     ·have hd:=Df hlt;obtain rfl:n2=i:=by omega
      rw[show x.ins.l.take n2=x.ins.l from List.take_of_length_le (by have:=HN.out;omega)]at HS;clear hi hlt;have kp1:=HS.out.k1;go_upto_region 22 with fail;have Lkp1:=Ls kp1;refine ZP0 [0,1] ?_;refine Zv ?_;refine Zd ?_;refine TD.nil (fun w11 hr=> ?_);replace kp1:=hr.q kp1;have HS:=Hi (HS.out.mod0 hr.mod);clear hr kp1;have hB:(P2++x.ins.l.flatMap (fun y=>putI (inP y)))=PM:=by
       rw[HPUT.out,HE2.out,HE1.out];simp
      rw[hB]at HS;obtain⟨a,c,rfl,hcl,hN⟩:=clip_newL HS.out.g.2.1;obtain⟨k,hk⟩:∃k,PM.length=k:=⟨_,rfl⟩;have kp4:=HS.out.g.1;rw[hk]at kp4 hcl;have HF:=Hi (Ai hN (Ai hk (Ai HS.out.m HS.out.lt)));clear hB hN hk;go_upto_region 31 with fail;have Lkp4:=Ls kp4;refine ZR0 (fun _ _ v=>v= .slice a k k) [1,2,0,0] ?_;refine Zd ?_;(refine Zc ?_ (s:=by intro wq hSq;exact(clipLay_c _ _ _ hcl).mono (fun e w' h=>⟨_,h.1,rfl,by rw[h.2];exact Mod.refl _ _⟩));rintro _ hC;subst hC;try simp only[zL])
      iterate 2 refine Zv ?_
      refine TD.nil (fun wz hr=> ?_);replace kp4:=hr.q kp4;have HMZ:=Hi hr.mod;clear hr hcl;go_wp2_with fail
      go_ret2
      refine⟨a,?_,(HF.out.1.base (by have:=HF.out.2.2.2;omega)).mod0 HMZ.out,HF.out.2.2.1.then0 HMZ.out⟩;rw[HF.out.2.1];rfl
end
section
attribute [local go_sem↓] wlMsg ldMsg stMsg
attribute [local go_sem] txr_ms zSg_size
theorem NewS.offB {b:Nat} {w:World} {v:Value} {l:List UInt8} (h:NewS uc 1 5 b w v l) (hl:l.length≤1000000):SlOff uc 1 5 w b v l:=by
 rcases h with h|⟨g,cur,rfl,hb,hg,hc⟩
 ·exact .inl h
 ·refine .inr ⟨g,0,l.length,cur,rfl,hb,hg,Nat.le_refl _,by unfold maxLen;omega,fun hp=> ?_,?_⟩
  ·obtain⟨x,hx⟩:∃x,l[l.length-1]? =some x:=⟨_,List.getElem?_eq_getElem (by omega)⟩;have:=(hc _ x hx).2;omega
  ·rw[List.drop_zero,Nat.mul_one];apply List.ext_getElem?;intro i;by_cases hi:i<l.length
   ·obtain⟨x,hx⟩:∃x,l[i]? =some x:=⟨_,List.getElem?_eq_getElem hi⟩;obtain⟨h1,h2⟩:=hc i x hx;rw[List.getElem?_take_of_lt hi];have h3:=cellsOf_get (f:=uc) (n:=1) (fun _=>rfl) l i x hx;rw[Nat.mul_one]at h1 h2 h3;have h4:(cellsOf uc l)[i]? =some (u8v x):=by
     have h5:=congrArg (fun L=>L[0]?) h3;simp only[List.getElem?_take_of_lt (show 0<1 by decide),List.getElem?_drop,Nat.add_zero]at h5;rw[h5];rfl
    have h6:cur[i]? =some (u8v x):=by
     have h5:=congrArg (fun C=>C[0]?) h1;simp only[Array.getElem?_extract]at h5;rw[if_pos (by omega)]at h5;simpa[uc] using h5
    rw[h4];simpa using h6
   ·rw[List.getElem?_eq_none (by rw[List.length_take];omega),List.getElem?_eq_none (by rw[cellsOf_len (n:=1) (fun _=>rfl)];omega)]
theorem ssig (p:Nat) (w:World):(Instr.sliceAt 101 (.pointer (some ⟨p,0,none⟩)) none none none).run Tryz.prog w= .ok (.slice (some ⟨p,0,none⟩) 64 64) w:=by kernel_rfl
theorem offClip {w:World} {b:Nat} {v:Value} {l:List UInt8} (h:SlOff uc 1 5 w b v l):∃a c,v= .slice a l.length c∧(∀w2,(Instr.sliceAt 22 (.slice a l.length c) none (some (.int .i64 (l.length:Int))) (some (.int .i64 (l.length:Int)))).run Tryz.prog w2= .ok (.slice a l.length l.length) w2)∧SlAt uc 1 w a l:=by
 obtain⟨a,c,e,hs,_⟩:=h.at bytesT;rcases h with⟨rfl,rfl⟩|⟨g,o,cap,cur,rfl,hb,hg,hn,_⟩
 ·injection e with e1 e2 e3
  subst e1 e3;exact⟨none,0,rfl,fun w2=>sl_clip0 bytesT w2,hs⟩
 ·injection e with e1 e2 e3
  subst e1 e3;exact⟨_,_,rfl,fun w2=>sl_clip bytesT hn w2,hs⟩
theorem sig_bytes {w:World} {g:Nat} {U:TypeId} {fr:Nat×Nat} {k:Sg} (hk:w.heap[g]? =some (.cells (sgc k) U fr)):SlAt uc 1 w (some ⟨g,0,none⟩) k.l:=bytes_at hk (by rw[k.h];exact sgc_ext k)
structure PkS (w0:World) (am:Option Addr) (mk:Nat) (M:List UInt8) (v:Value) (B:List UInt8) (w:World):Prop where
 o:SlOff uc 1 5 w w0.heap.size v B
 n:NewS uc 1 5 w0.heap.size w (.slice am mk mk) M
 a:∀g,(Value.slice am mk mk).ownBlock=some g→v.ownBlock≠some g
 m:Mod (fun _=>False) w0 w
theorem PkS.mod0 {w0:World} {am:Option Addr} {mk:Nat} {M:List UInt8} {v:Value} {B:List UInt8} {w w':World} (h:PkS w0 am mk M v B w) (hm:Mod (fun _=>False) w w'):PkS w0 am mk M v B w':=⟨h.o.mod0 hm,h.n.mod0 hm,h.a,h.m.then0 hm⟩
theorem PkS.app {w0:World} {am:Option Addr} {mk:Nat} {M:List UInt8} {v:Value} {B q:List UInt8} {w:World} {a:Option Addr} (n c:Nat) (h:PkS w0 am mk M v B w) (hq:SlAt uc 1 w a q) (hn:q.length=n) (hl:B.length+q.length≤1000000):
  ∃v' w',(Builtin.append_ #[22,22] 22 #[v,.slice a n c]).run Tryz.prog w= .ok v' w'∧PkS w0 am mk M v' (B++q) w':=by
 subst hn;obtain⟨v',w',h1,h2,h3,h4⟩:=SlOff.append bytesT (c:=c) h.o hq hl (by decide) h.m.size 22;refine⟨v',w',h1,h2,h.n.mod h3 (fun g hg e=>h.a g hg e),fun g hg e=> ?_,h.m.then h3 (fun i hi e=> ?_)⟩
 ·rcases h4 g e with h5|h5
  ·exact h.a g hg h5
  ·have:=(h.n.lt g hg).2;omega
 ·have:=(h.o.lt i e).1;omega
theorem pput_c (x:RdR) (w:World) (hR:TxRd w x) (hB:TxB (txP x)) (hv:x.v0=true∨(x.lks.l.length=0∧x.h0.toNat<128)) (ht:(putT (txP x)).length≤1232):
  Calls Tryz.prog 23 #[.agg (txr x)] w fun e w'=>∃a,e= .returned (.tuple #[.slice a (putT (txP x)).length (putT (txP x)).length,.int .i64 0])∧SlAt uc 1 w' a (putT (txP x))∧Mod (fun _=>False) w w':=by
 have hput:putT (txP x)=shP x.sg.l.length++(x.sg.l.flatMap (·.l)++putM (msgP x)):=rfl;have HX:=Hi hR;have hlen:(x.sg.l.flatMap (·.l)).length≤1232∧(putM (msgP x)).length≤1232:=by
  rw[hput]at ht;simp only[List.length_append]at ht;omega
 have HMP:=Hi (fun w1 (hm:Mod (fun _=>False) w w1)=>mput_c x w1 (hR.2.mod0 hm) hB.2 hv (by have:=hlen.2;omega));have HB:=Hi hB;obtain⟨n,hn⟩:∃n,x.sg.l.length=n:=⟨_,rfl⟩;obtain⟨M,hM⟩:∃M,putM (msgP x)=M:=⟨_,rfl⟩;obtain⟨mk,hmk⟩:∃mk,M.length=mk:=⟨_,rfl⟩;obtain⟨PT,hPT⟩:∃PT,putT (txP x)=PT:=⟨_,rfl⟩;rw[hM,hmk]at HMP;rw[hPT]at hput ht⊢;rw[hM,hn]at hput;rw[hM,hmk]at hlen;have HL:=Hi (Ai hlen (Ai hmk (Ai hn (Ai hput ht))));have hnl:n≤65535:=by have:=hB.1;simp only[txP]at this;omega
 have HNL:=Hi hnl;have hs0:(txr x)[0]? =some (.slice x.sg.a n x.sg.c):=by rw[txr0,hn]
 have hs0':∀h:0<(txr x).size,(txr x)[0]= .slice x.sg.a n x.sg.c:=fun h=>at_get hs0 h;clear hR hB hv ht hput hlen hn hM hmk hPT;go_enter Tryz.func23,Tryz.ntmps23;go_upto_region 0 with fail;refine ZP0 [3,0,0] ?_;refine Zb fun p1 hp1=> ?_
 iterate 2 refine Zv ?_
 refine TD.nil (fun w1 hr=> ?_);obtain⟨gp1,kp1⟩:=hr.b p1;have HM1:=Hi hr.mod;clear hr;go_upto_region 1 with fail;go_wp2_with fail;go_at_call 64;refine(putShort_c n HNL.out _).mono ?_;rintro e w2 ⟨a,rfl,hN,m2⟩;have HO:Hid (SlOff uc 1 5 w2 w.heap.size _ (shP n)):=Hi ((hN.base HM1.out.size).offB (by have:=shP_le n;omega));have HM2:=Hi (HM1.out.then0 m2);replace kp1:=m2.at0 kp1;have HL2:=Hi (hN.lt);clear hN m2;have hG4:=HMP.out w2 HM2.out;go_upto_region 4 with fail;refine region_seq 8 rfl ?_;simp only[List.range,List.range.loop];refine Zq ?_;refine Zr ?_;refine ZC hG4 ?hout (fun vn wn hR=> ?hret) (fun ch wn hR=> ?hpan)
 case hout=>
  rintro w' ⟨_,h,_⟩;cases h
 case hpan=>
  obtain⟨_,h,_⟩:=hR;cases h
 case hret=>
 obtain⟨am,e0,hN,m3⟩:=hR;cases e0;have HS:Hid (PkS w am mk M (.slice a (shP n).length (shP n).length) (shP n) wn):=Hi ⟨HO.out.mod0 m3,hN.base HM2.out.size,fun g hg e=>by have h1:=(hN.lt g hg).1;have h2:=(HL2.out g e).2;omega,HM2.out.then0 m3⟩;replace kp1:=m3.at0 kp1;clear hN m3 hG4;(try simp only[zL])
 iterate 5 refine Zq ?_
 refine sq_nil ?_;obtain⟨w3,rfl⟩:∃w3:World,w3=wn:=⟨_,rfl⟩;go_upto_region 7 with fail;have Lkp1:=Ls kp1;refine ZP0 [0,1,0,0] ?_
 iterate 4 first|refine Zv ?_|refine Zd ?_
 refine TD.nil (fun w4 hr=> ?_);replace kp1:=hr.q kp1;have HS:=Hi (HS.out.mod0 hr.mod);clear hr kp1 hs0 hs0';obtain⟨v0,hv0⟩:∃v0,Value.slice a (shP n).length (shP n).length=v0:=⟨_,rfl⟩;rw[hv0]at HS⊢;clear hv0;go_wp2_with fail;go_loopw [4,31] (fun s4 s31 ws=>∃i:Nat,i≤n∧s31= .int .i64 (i:Int)∧Hid (PkS w am mk M s4 (shP n++(x.sg.l.take i).flatMap (·.l)) ws)) (fun _ s31 _=>n-(intOf s31).toNat)
 case atStart=>exact⟨0,Nat.zero_le _,rfl,by simpa using HS⟩
 case round=>
  clear HS;obtain⟨i,hi,rfl,HS⟩:=hrel;by_cases hlt:i<n
  ·have hd:=Dt hlt;obtain⟨y,hy⟩:∃y,x.sg.l[i]? =some y:=⟨_,List.getElem?_eq_getElem (by have:=HL.out.2.2.1;omega)⟩;obtain⟨g,o,C,U,fr,hga,kg,he,hle⟩:=(HX.out.1.1.mod0 HS.out.m).block hy;have HY:=Hi hy;clear hy;go_upto_region 9 with fail;have Lkg:=Ls kg;refine ZP0 [0,1,3,4] ?_;refine Zv ?_;refine Zd ?_;refine Za alSg fun p8 hp8=> ?_;refine Zt ?_;refine TD.nil (fun w9 hr=> ?_);replace kg:=hr.q kg;obtain⟨gp8,kp8⟩:=hr.b p8;have HS:=Hi (HS.out.mod0 hr.mod);clear hr he hle kg hga;have hsg:=ssig p8;go_upto_region 10 with fail;have Lkp8:=Ls kp8;refine ZP0 [0,0,5,0] ?_;refine Zv ?_;refine Zx hsg ?_;refine Zi fun w10 hr=> ?_;replace kp8:=hr.q kp8;have HS:=Hi (HS.out.mod0 hr.mod);obtain⟨v2,w11,hap,hS⟩:=HS.out.app 64 64 (sig_bytes kp8) y.h (by have:=fm_le (fun k:Sg=>k.l) x.sg.l i;have:=HL.out.1.1;have:=shP_le n;have:=y.h;simp only[List.length_append];omega);have HS2:Hid (PkS w am mk M v2 (shP n++(x.sg.l.take (i+1)).flatMap (·.l)) w11):=Hi (by rw[fm_snoc HY.out,←List.append_assoc];exact hS);clear hr hS kp8 hsg;refine ZA hap ?_;refine Ze ?_;refine TE.nil ?_;clear hap;go_wp2_with fail;go_roundw
   case rel=>exact⟨i+1,by omega,by go_num,HS2⟩
   case measure=>simp[intOf];omega
  ·have hd:=Df hlt;obtain rfl:n=i:=by omega
   rw[show x.sg.l.take n=x.sg.l from List.take_of_length_le (by have:=HL.out.2.2.1;omega)]at HS;clear hi hlt;go_upto_region 12 with fail;refine ZP0 [0,0,5,0] ?_
   iterate 2 refine Zv ?_
   refine Zi fun w10 hr=> ?_;have HS:=Hi (HS.out.mod0 hr.mod);obtain⟨v2,w11,hap,hS⟩:=HS.out.app mk mk (ns_rd HS.out.n) HL.out.2.1 (by have:=HL.out.1;have:=shP_le n;have:=HL.out.2.1;simp only[List.length_append];omega);have hB:shP n++x.sg.l.flatMap (·.l)++M=PT:=by rw[HL.out.2.2.2.1,List.append_assoc]
   rw[hB]at hS;obtain⟨k,hk⟩:∃k,PT.length=k:=⟨_,rfl⟩;obtain⟨ab,cb,rfl,hcl,hat⟩:=offClip hS.o;rw[hk]at hcl hap;have HF:=Hi (Ai hat (Ai hk hS.m));have hkl:decide ((k:Int)>1232)=false:=Df (by have:=HL.out.2.2.2.2;omega);have hkl2:decide ((1232:Int)<(k:Int))=false:=Df (by have:=HL.out.2.2.2.2;omega);have hkl3:decide (1232<k)=false:=Df (by have:=HL.out.2.2.2.2;omega);have HCL:=Hi hcl;clear hr hS hB hk hcl hat;refine ZA hap ?_;refine Ze ?_;refine TE.nil ?_;clear hap;go_wp2_with fail;go_at_call 39;refine(clipY_c _ _ _ HCL.out).mono ?_;rintro e wz ⟨rfl,rfl⟩;go_wp2_with fail
   go_ret2
   refine⟨ab,?_,HF.out.1,HF.out.2.2⟩;rw[HF.out.2.1];rfl
end
section
attribute [local go_sem↓] wlRdy ldRdy stRdy wlMsg ldMsg stMsg ldBgd
attribute [local go_sem] zTc_size zTc_ext zTc_all zTc_all0 txr_ms rdr_size rdr_all rdr_one zRdy_size zRdy_one
theorem roles_len {m:MsP} {ws rs:List Key} {ro:List Role} (h:rolesP m ws rs= .ok ro):ro.length=m.ks.length+ws.length+rs.length:=by
 unfold rolesP at h;split at h
 ·cases h;simp[rolesL];omega
 ·cases h
def ClL (l:List UInt8) (n b:Nat) (v:Value):Land:=fun T w=>∃a c,v= .slice a n c∧(∀w2,(Instr.sliceAt 22 (.slice a n c) none (some (.int .i64 (n:Int))) (some (.int .i64 (n:Int)))).run Tryz.prog w2= .ok (.slice a n n) w2)∧NewS uc 1 5 b w (.slice a n n) l∧∀g,(Value.slice a n n).ownBlock=some g→T g
theorem goodCl (l:List UInt8) (n b:Nat) (v:Value):Good (ClL l n b v) where
 cl:=fun T w w' h hm=>by
  obtain⟨a,c,e,h1,h2,h3⟩:=h;exact⟨a,c,e,h1,h2.mod hm (fun g hg hn=>hn (h3 g hg)),h3⟩
 gr:=fun T T' w hT h=>by
  obtain⟨a,c,e,h1,h2,h3⟩:=h;exact⟨a,c,e,h1,h2,fun g hg=>hT g (h3 g hg)⟩
theorem clL {l:List UInt8} {n b:Nat} {v:Value} {T:Nat→Prop} {w w':World} (h:SlOwn uc 1 5 w' w.heap.size v l) (hb:b≤w.heap.size) (hn:l.length=n):ClL l n b v (Grow T w w') w':=by
 subst hn;obtain⟨a,c,e,h1,h2,h3,h4⟩:=clip_own bytesT h;obtain⟨a',c',v2,e',h1',h2'⟩:=h.clip bytesT;have hv:v2= .slice a l.length l.length:=by
  have e1:=h1 w';rw[h1' w']at e1;injection e1 with e1 _
 subst hv;subst e;exact⟨a,c,rfl,h1,h2'.base hb,fun g hg=> .inr (h2'.lt g hg)⟩
theorem ry_apt {w:World} {S:Nat→Prop} {b:Nat} (h:∀p,S p→∃R,w.heap[p]? =some (.cells R 41 (0,0))):Apt w S b:=fun g C E hg hk hE hs=>by
 obtain⟨R,hR⟩:=h g hs;rw[hR]at hk;cases hk
 revert hE
 decide
theorem ry_new {α:Type} {f:α→Array Value} {n:Nat} {E:TypeId} {b:Nat} {w:World} {v:Value} {l:List α} {S:Nat→Prop} (hv:NewS f n E b w v l) (hE:E≠41) (h:∀p,S p→∃R,w.heap[p]? =some (.cells R 41 (0,0))):∀g,v.ownBlock=some g→¬S g:=fun g hg hs=>by
 obtain⟨C,hk⟩:=hv.ty hg;obtain⟨R,hR⟩:=h g hs;rw[hR]at hk;cases hk;exact hE rfl
theorem TxO.da {b:Nat} {w:World} {x:RdR} (h:TxO b w x) (hB:TxB (txP x)):∀y∈x.ins.l,DaF w y:=by
 obtain⟨h1,h2,h3,h4,h5,h6,h7⟩:=h;obtain⟨b1,b2,⟨b3,b4⟩,b5,b6⟩:=hB;simp only[txP,msgP,List.length_map]at b1 b2 b3 b4 b5 b6;intro i hi;obtain⟨y,hy,_,e2,e3,e4,e5⟩:=h4.1.left i hi;have hb:=b4 y hy;rw[←e3]at e5;have hlen:i.d.l.length≤140737488355328:=by rw[e3];exact Nat.le_trans hb.2 (by decide)
 obtain⟨a5,q5,s5,o5⟩:=e5.at;injection q5 with q51 q52 q53
 refine⟨by rw[q51];exact s5,by omega,fun hn=> ?_,hlen⟩;rcases e5 with⟨e,hl⟩|⟨g,cur,e,_⟩
 ·injection e
 ·have e2:Value.slice i.d.a i.d.l.length i.d.c=_:=e;rw[hn]at e2;cases e2
theorem dSum_P (l:List InR):dSum l=dSumP (l.map inP):=by
 unfold dSum dSumP;rw[List.foldl_map];rfl
theorem ready_c {b h r:Nat} {T:TbL} {a:Option Addr} {l:List UInt8} {c:Nat} (w:World) (H:RegA b h r T w) (hB:BudW w) (hl:SlAt uc 1 w a l) (hc:l.length≤c) (hn:a=none→c=0) (hln:l.length≤900000) (hin:∀x,a=some x→x.block<w.heap.size):
  Calls Tryz.prog 9 #[.slice a l.length c,pV r] w (ReaP T w l):=by
 have HL:=Hi (Ai hl (Ai hc (Ai hn (Ai hln hin))));have HR:=Hi (Ai H hB);obtain⟨ll,hll⟩:∃ll,l.length=ll:=⟨_,rfl⟩;have HLL:=Hi hll;have HW:=Hi (fun w1 (m:Mod (fun _=>False) w w1)=>wire_c (c:=c) w1 (hl.mod0 m) hc hn hln (by intro x h;exact Nat.lt_of_lt_of_le (hin x h) m.size));have hbk:=bK0;have hbr:=bRdy0;obtain⟨e0,he0,hen⟩:=fnd_ne T key0;have HF:=Hi he0;have hd0:=Df hen;rw[hll];clear H hB hl hc hn hln hin hll he0 hen;go_enter Tryz.func9,Tryz.ntmps9;go_upto_region 0 with fail;refine ZP0 [3,0] ?_;refine Za alRdy fun p4 hp4=> ?_;refine Zv ?_;refine TD.nil (fun w1 hr=> ?_);obtain⟨gp4,kp4⟩:=hr.b p4;have HM1:=Hi hr.mod;have HGP4:=Hi gp4;clear hr;go_upto_region 1 with fail;have Lkp4:=Ls kp4;refine ZR0 (fun _ _ v=>∃x,v= .tuple #[x,.int .i64 (e0:Int)]) [0,0,2,0,0,0,0,0] ?_;refine Zv ?_;refine Zu hbk ?_;(refine Zc ?_ (s:=by intro wq hSq;exact(findE_c key0 wq (HR.out.1.mod0 (HM1.out.then0 hSq))).mono (fun e w' h=>by obtain⟨⟨v,hv⟩,h2⟩:=h;rw[HF.out]at hv;exact⟨_,hv,⟨_,rfl⟩,h2⟩));rintro _ hC;obtain⟨x1,hC⟩:=hC;subst hC;try simp only[zL])
 iterate 5 refine Zv ?_
 refine TD.nil (fun w2 hr=> ?_);replace kp4:=hr.q kp4;have HM2:=Hi (HM1.out.then0 hr.mod);clear hr;go_upto_region 2 with fail;have Lkp4:=Ls kp4;refine ZR0 (fun _ _ v=>v= .bool false) [0,0,0,2] ?_
 iterate 3 refine Zv ?_
 (refine Zc ?_ (s:=by intro wq hSq;exact(eIs_c (e0:Int) 2 wq).mono (fun e w' h=>⟨_,by rw[h.1,hd0],rfl,by rw[h.2];exact Mod.refl _ _⟩));rintro _ hC;subst hC;try simp only[zL]);refine TD.nil (fun w3 hr=> ?_);replace kp4:=hr.q kp4;have HM3:=Hi (HM2.out.then0 hr.mod);clear hr hd0;have hG:=HW.out _ HM3.out;rw[HLL.out]at hG;go_upto_region 4 with fail;refine region_seq 8 rfl ?_;simp only[List.range,List.range.loop];refine Zq ?_;refine ZC hG ?hout (fun vn wn hR=> ?hret) (fun ch wn hR=> ?hpan)
 case hout=>
  intro w' h;unfold WirP at h;split at h
  ·obtain⟨_,_,h,_⟩:=h;cases h
  ·cases h.2
 case hpan=>
  exfalso;unfold WirP at hR;split at hR
  ·obtain⟨_,_,h,_⟩:=hR;cases h
  ·cases hR.2
 case hret=>
 obtain⟨hm,hr⟩:=hR;clear hG;have HM4:=Hi (HM3.out.trans hm);replace kp4:=hm.at0 kp4;clear hm;cases hres:wireP l with
 |error n1=>
  rw[hres]at hr;simp only at hr;cases hr;have h0:=chk_ne hres;have HE:Hid (readyP T l= .error n1):=Hi (by unfold readyP;rw[hres]);(try simp only[zL]);obtain⟨w4,rfl⟩:∃w4:World,w4=wn:=⟨_,rfl⟩
  iterate 3 refine Zq ?_
  (refine sq_alloc (by simp only[zK];rfl) (by rfl) rfl alTx (fun p8 wn gp8 kp8 mp8=> ?n20);try simp only[zL]);refine ZT ?_;refine ZQ kp8 fun wn kp8 mS=> ?_;refine Zq ?_;refine sq_nil ?_;have HM5:Hid (Mod (fun _=>False) w wn):=Hi ((HM4.out.trans mp8).then mS (fun i hi e=>by have:=HM4.out.size;omega));have hp48:p4<w4.heap.size:=Ls kp4;have kp4':wn.heap[p4]? =some (.cells zRdy 41 (0,0)):=mS.at (mp8.at0 kp4) (fun e=>by omega);have kp4:=kp4';have hw0:(!decide ((n1:Int)=0))=true:=by simp;omega
  clear mS mp8 kp8 kp4' hp48 gp8 hres h0;obtain⟨w5,rfl⟩:∃w5:World,w5=wn:=⟨_,rfl⟩;go_upto_region 5 with fail;have Lkp4:=Ls kp4;refine ZR0 (fun _ _ v=>v= .bool true) [0,2] ?_;refine Zv ?_;(refine Zc ?_ (s:=by intro wq hSq;exact(wrong_c (n1:Int) wq).mono (fun e w' h=>⟨_,by rw[h.1,hw0],rfl,by rw[h.2];exact Mod.refl _ _⟩));rintro _ hC;subst hC;try simp only[zL]);refine TD.nil (fun w6 hr=> ?_);replace kp4:=hr.q kp4;have HM:=Hi (HM5.out.then0 hr.mod);clear hr;go_upto_region 6 with fail;have Lkp4:=Ls kp4;refine ZP0 [0,0,5,0] ?_;refine Zu hbr ?_;refine Zv ?_;refine Zi fun w7 hr=> ?_;replace kp4:=hr.q kp4;have HMz:=Hi (HM.out.then0 hr.mod);clear hr;refine ZS ?_;refine ZM kp4 fun wn kp4 mS=> ?_;have HMy:=Hi (HMz.out.thenB mS (.inl gp4));clear mS;refine Ze ?_;refine TE.nil ?_;go_wp2_with fail;refine bodyPost_ret (results_ct rfl rfl (ldRdyZ kp4)) rfl ?_;unfold ReaP;rw[HE.out];exact⟨HMy.out,rfl⟩
 |ok x0=>
  rw[hres]at hr;obtain⟨z,hv0,hO,hzx,hB⟩:=hr;cases hv0;have HZ:=Hi (Ai hO (Ai hzx (Ai (hzx▸hB:TxB (txP z)) (Ai (wire_few hres).1 hres))));clear hO hzx hB hres;(try simp only[zL]);obtain⟨w4,rfl⟩:∃w4:World,w4=wn:=⟨_,rfl⟩
  iterate 3 refine Zq ?_
  (refine sq_alloc (by simp only[zK];rfl) (by rfl) rfl alTx (fun p8 wn gp8 kp8 mp8=> ?n33);try simp only[zL]);refine ZT ?_;refine ZQ kp8 fun wn kp8 mS=> ?_;refine Zq ?_;refine sq_nil ?_;replace kp8:wn.heap[p8]? =some (.cells (txr z) 35 (0,0)):=kp8;have m4:Mod (fun _=>False) w4 wn:=mp8.then mS (fun i hi e=>by omega);have HM5:Hid (Mod (fun _=>False) w wn):=Hi (HM4.out.then0 m4);have HO5:=Hi (HZ.out.1.mod0 m4);have HP8:=Hi (Ai gp8 (Ai (Ls kp4) m4.size));replace kp4:=m4.at0 kp4;clear mS mp8 gp8 m4;obtain⟨w5,rfl⟩:∃w5:World,w5=wn:=⟨_,rfl⟩;go_upto_region 5 with fail;have Lkp4:=Ls kp4;have Lkp8:=Ls kp8;refine ZR0 (fun _ _ v=>v= .bool false) [0,2] ?_;refine Zv ?_;(refine Zc ?_ (s:=by intro wq hSq;exact(wrong_c 0 wq).mono (fun e w' h=>⟨_,by rw[h.1];rfl,rfl,by rw[h.2];exact Mod.refl _ _⟩));rintro _ hC;subst hC;try simp only[zL]);refine TD.nil (fun wq2 hr=> ?_);replace kp4:=hr.q kp4;replace kp8:=hr.q kp8;have HM6:=Hi (HM5.out.then0 hr.mod);have HO6:=Hi (HO5.out.mod0 hr.mod);have hm56:=hr.mod.size;clear hr;have hG7:=resolve_c (T:=T) (xc:=z.lks.c) wq2 (HR.out.1.mod0 HM6.out) (HO6.out.rd HZ.out.2.2.1).2.2.2.1 (HO6.out.lo HZ.out.2.2.1) (by have:=HZ.out.2.2.1.2.2.2.1;simp only[txP,msgP,List.length_map]at this;omega) (Nat.le_trans (lo_tot z) (by have:=HZ.out.2.2.2.1;rw[HZ.out.2.1];omega));have HSZ:Hid (w4.heap.size≤wq2.heap.size∧p4<w4.heap.size∧w4.heap.size≤p8):=Hi ⟨Nat.le_trans HP8.out.2.2 hm56,HP8.out.2.1,Nat.le_of_eq HP8.out.1⟩;clear hm56;go_upto_region 7 with fail;refine region_seq 12 rfl ?_;simp only[List.range,List.range.loop]
  iterate 3 refine Zq ?_
  refine Zr ?_;refine ZC hG7 ?hout (fun vn wn hR=> ?hret) (fun ch wn hR=> ?hpan)
  case hout=>
   intro w' h;unfold ResA at h;split at h
   ·obtain⟨_,_,_,h,_⟩:=h;cases h
   ·cases h.2
  case hpan=>
   exfalso;unfold ResA at hR;split at hR
   ·obtain⟨_,_,_,h,_⟩:=hR;cases h
   ·cases hR.2
  case hret=>
  obtain⟨hm,hr⟩:=hR;clear hG7;have HM7:=Hi (HM6.out.then0 hm);have HO7:=Hi (HO6.out.mod0 hm);replace kp4:=hm.at0 kp4;replace kp8:=hm.at0 kp8;clear hm;cases hres:resP T (z.lks.l.map loP) ([],[])with
  |error n7=>
   rw[hres]at hr;simp only at hr;cases hr;have h0:=res_ne hres;have HE:Hid (readyP T l= .error n7):=Hi (by
    unfold readyP;rw[HZ.out.2.2.2.2];simp only;rw[←HZ.out.2.1];show(match resP T (z.lks.l.map loP) ([],[])with| .error e=>Except.error e| .ok (ws,rs)=>_)=_;rw[hres])
   (try simp only[zL])
   iterate 7 refine Zq ?_
   refine sq_nil ?_;clear hres;have HM5:=HM7;go_upto_region 8 with fail;have hw0:(!decide ((n7:Int)=0))=true:=by simp;omega
   have Lkp4:=Ls kp4;refine ZR0 (fun _ _ v=>v= .bool true) [0,2] ?_;refine Zv ?_;(refine Zc ?_ (s:=by intro wq hSq;exact(wrong_c (n7:Int) wq).mono (fun e w' h=>⟨_,by rw[h.1,hw0],rfl,by rw[h.2];exact Mod.refl _ _⟩));rintro _ hC;subst hC;try simp only[zL]);refine TD.nil (fun wq2 hr=> ?_);replace kp4:=hr.q kp4;have HM:=Hi (HM5.out.then0 hr.mod);clear hr;go_upto_region 9 with fail;have Lkp4:=Ls kp4;refine ZP0 [0,0,5,0] ?_;refine Zu hbr ?_;refine Zv ?_;refine Zi fun wq3 hr=> ?_;replace kp4:=hr.q kp4;have HMz:=Hi (HM.out.then0 hr.mod);clear hr;refine ZS ?_;refine ZM kp4 fun wn kp4 mS=> ?_;have HMy:=Hi (HMz.out.thenB mS (.inl gp4));clear mS;refine Ze ?_;refine TE.nil ?_;go_wp2_with fail;refine bodyPost_ret (results_ct rfl rfl (ldRdyZ kp4)) rfl ?_;unfold ReaP;rw[HE.out];exact⟨HMy.out,rfl⟩
  |ok y=>
   rw[hres]at hr;obtain⟨va,vb,hv0,hva,hvb⟩:=hr;cases hv0;obtain⟨aa,rfl,hsa,_⟩:=hva.at;obtain⟨ab,rfl,hsb,_⟩:=hvb.at;have hyl:=res_len hres;have hlt:=HZ.out.2.2.2.1;have hltL:=lo_tot z;rw[HZ.out.2.1]at hltL;have hsum:((z.lks.l.map loP).map (fun l=>l.w.length+l.r.length)).sum=loSum z.lks.l:=by
    rw[List.map_map];rfl
   rw[hsum]at hyl;have HY:=Hi (Ai hres (show y.1.length+y.2.length≤64 by simp only[List.length_nil]at hyl;omega));have hG10:=fun w1 (hm:Mod (fun _=>False) wn w1)=>rolesOf_c z y.1 y.2 aa ab y.1.length y.2.length w1 ((HO7.out.mod0 hm).rd HZ.out.2.2.1).2.1.1 ((HO7.out.mod0 hm).rd HZ.out.2.2.1).2.1.2 (hsa.mod0 hm) (hsb.mod0 hm) (by have:=HY.out.2;omega) (by have:=HY.out.2;omega);have HG10:=Hi hG10;clear hyl hlt hltL hsum hsa hsb hva hvb hres hG10;(try simp only[zL]);obtain⟨w7,rfl⟩:∃w7:World,w7=wn:=⟨_,rfl⟩
   iterate 7 refine Zq ?_
   refine sq_nil ?_;go_upto_region 8 with fail;have Lkp4:=Ls kp4;have Lkp8:=Ls kp8;refine ZR0 (fun _ _ v=>v= .bool false) [0,2] ?_;refine Zv ?_;(refine Zc ?_ (s:=by intro wq hSq;exact(wrong_c 0 wq).mono (fun e w' h=>⟨_,by rw[h.1];rfl,rfl,by rw[h.2];exact Mod.refl _ _⟩));rintro _ hC;subst hC;try simp only[zL]);refine TD.nil (fun wq2 hr=> ?_);replace kp4:=hr.q kp4;replace kp8:=hr.q kp8;have HM8:=Hi (HM7.out.then0 hr.mod);have HO8:=Hi (HO7.out.mod0 hr.mod);have hG10:=HG10.out _ hr.mod;clear hr HG10;go_upto_region 10 with fail;refine region_seq 10 rfl ?_;simp only[List.range,List.range.loop];refine Zq ?_;refine Zr ?_
   iterate 2 refine Zq ?_
   refine ZC hG10 ?hout (fun vn wn hR=> ?hret) (fun ch wn hR=> ?hpan)
   case hout=>
    intro w' h;unfold RolA at h;split at h
    ·obtain⟨_,_,h,_⟩:=h;cases h
    ·cases h.2
   case hpan=>
    exfalso;unfold RolA at hR;split at hR
    ·obtain⟨_,_,h,_⟩:=hR;cases h
    ·cases hR.2
   case hret=>
   obtain⟨hm,hr⟩:=hR;clear hG10;have HM9:=Hi (HM8.out.then0 hm);have HO9:=Hi (HO8.out.mod0 hm);replace kp4:=hm.at0 kp4;replace kp8:=hm.at0 kp8;clear hm;cases hres:rolesP (msgP z) y.1 y.2 with
   |error n10=>
    rw[hres]at hr;simp only at hr;cases hr;have h0:n10≠0:=by
     unfold rolesP at hres;split at hres
     ·cases hres
     ·cases hres;decide
    have HE:Hid (readyP T l= .error n10):=Hi (by
     unfold readyP;rw[HZ.out.2.2.2.2];simp only;rw[←HZ.out.2.1];show(match resP T (z.lks.l.map loP) ([],[])with| .error e=>Except.error e| .ok (ws,rs)=>_)=_;rw[HY.out.1];show(match rolesP (msgP z) y.1 y.2 with| .error e=>Except.error e| .ok ro=>_)=_;rw[hres])
    (try simp only[zL])
    iterate 5 refine Zq ?_
    refine sq_nil ?_;clear hres;have HM5:=HM9;go_upto_region 11 with fail;have hw0:(!decide ((n10:Int)=0))=true:=by simp;omega
    have Lkp4:=Ls kp4;refine ZR0 (fun _ _ v=>v= .bool true) [0,2] ?_;refine Zv ?_;(refine Zc ?_ (s:=by intro wq hSq;exact(wrong_c (n10:Int) wq).mono (fun e w' h=>⟨_,by rw[h.1,hw0],rfl,by rw[h.2];exact Mod.refl _ _⟩));rintro _ hC;subst hC;try simp only[zL]);refine TD.nil (fun wq2 hr=> ?_);replace kp4:=hr.q kp4;have HM:=Hi (HM5.out.then0 hr.mod);clear hr;go_upto_region 12 with fail;have Lkp4:=Ls kp4;refine ZP0 [0,0,5,0] ?_;refine Zu hbr ?_;refine Zv ?_;refine Zi fun wq3 hr=> ?_;replace kp4:=hr.q kp4;have HMz:=Hi (HM.out.then0 hr.mod);clear hr;refine ZS ?_;refine ZM kp4 fun wn kp4 mS=> ?_;have HMy:=Hi (HMz.out.thenB mS (.inl gp4));clear mS;refine Ze ?_;refine TE.nil ?_;go_wp2_with fail;refine bodyPost_ret (results_ct rfl rfl (ldRdyZ kp4)) rfl ?_;unfold ReaP;rw[HE.out];exact⟨HMy.out,rfl⟩
   |ok ro=>
    rw[hres]at hr;obtain⟨vr,hv0,hvr⟩:=hr;cases hv0;obtain⟨ra,rfl,hsr,hrb⟩:=hvr.at;have hrl:=roles_len hres;have hkl:(msgP z).ks.length≤64:=Nat.le_trans (Nat.le_add_right _ _) (by have:=HZ.out.2.2.2.1;rw[←HZ.out.2.1]at this;exact this);have HRO:=Hi (Ai hvr (Ai hres (show ro.length≤200 by have:=HY.out.2;omega)));clear hsr hrb hvr hrl hkl hres;(try simp only[zL]);obtain⟨w9,rfl⟩:∃w9:World,w9=wn:=⟨_,rfl⟩
    iterate 5 refine Zq ?_
    refine sq_nil ?_;go_upto_region 11 with fail;have Lkp4:=Ls kp4;have Lkp8:=Ls kp8;refine ZR0 (fun _ _ v=>v= .bool false) [0,2] ?_;refine Zv ?_;(refine Zc ?_ (s:=by intro wq hSq;exact(wrong_c 0 wq).mono (fun e w' h=>⟨_,by rw[h.1];rfl,rfl,by rw[h.2];exact Mod.refl _ _⟩));rintro _ hC;subst hC;try simp only[zL]);refine TD.nil (fun wq2 hr=> ?_);replace kp4:=hr.q kp4;replace kp8:=hr.q kp8;have HM10:=Hi (HM9.out.then0 hr.mod);have HO10:=Hi (HO9.out.mod0 hr.mod);have HRO10:=Hi (HRO.out.1.mod0 hr.mod);have HS10:=Hi hr.mod.size;clear hr;obtain⟨w10,rfl⟩:∃w10:World,w10=wq2:=⟨_,rfl⟩;obtain⟨bd,hbd,hbg⟩:=budP_bg (msgP z) (by have:=HZ.out.2.2.1.2.2.1.1;simp only[txP,msgP,List.length_map]at this⊢;omega);have HBG:=Hi (Ai hbd hbg);obtain⟨bu,hbu⟩:∃bu,(budP (msgP z)).units=bu:=⟨_,rfl⟩;obtain⟨bp,hbp⟩:∃bp,(budP (msgP z)).price=bp:=⟨_,rfl⟩;rw[hbu,hbp]at hbg;have HBU:=Hi (Ai hbg (Ai hbu hbp));clear hbd hbg hbu hbp;obtain⟨rl,hrl⟩:∃rl,ro.length=rl:=⟨_,rfl⟩;have hby:∀a1:Option Addr,∀w,_:=fun a1 w=>bldRyR z a1 ra l ll ro rl bu bp bd HLL.out hrl w;have HRL:=Hi hrl;rw[hrl];clear hrl;go_upto_region 13 with fail;have Lkp4:=Ls kp4;have Lkp8:=Ls kp8;refine wp_gpass (T0:=fun _=>False) (K:=fun _ _=>True) (κ:=fun i=>[0,6,6,0,0,0,0,6,0,3,4].getD i 0) (υ:=fun _=>[]) [0,1,2,3,4,5,6,7,8,9,10] (by kernel_rfl) (by kernel_rfl) (Good.true).cl (trivial) (fun _ h=>h.elim) ?_;have gK:=Good.true;refine Zg ?_;(refine TG.callM (f:= ?f91) (args:= ?r91) (ClL l ll w10.heap.size) (goodCl l ll w10.heap.size) gK (by simp only[zK];rfl) rfl (by rfl) (fun w1=> ?y91) (fun T wq kq ltq hSq ub=> ?hsp91) ?n91;(case y91=>(go_simp;(first|with_reducible rfl|(constructor<;>with_reducible rfl))));(case hsp91=>(have kp4q:=hSq.at kp4 (fun h=>h);have kp8q:=hSq.at kp8 (fun h=>h);exact(by have h:=cloneY_c (c:=c) (HL.out.1.mod0 (HM10.out.then0 hSq)) (by have:=HL.out.2.2.2.1;omega);rw[HLL.out]at h;exact h.mono (fun e w' h=>by obtain⟨v,h1,h2,h3⟩:=h;exact⟨_,h1,h3,clL h2 hSq.size HLL.out⟩))));rintro v91 ⟨wI,TI,hI⟩;replace gK:=gK.and ((goodCl l ll w10.heap.size) v91);obtain⟨a61,c61,rfl,hcl,-,-⟩:=hI.k.2;(try clear hI TI wI);try simp only[zL]);(refine ZG (fun v=>v= .slice a61 ll ll) gK ?_ (s:=fun T wq kq ltq hSq ub=>by exact(clipY_c _ _ _ hcl).mono (fun e w' h=>⟨_,h.1,rfl,by rw[h.2];exact Mod.refl _ _⟩));rintro v92 hC;subst hC;try simp only[zL]);refine Zh ?_
    iterate 2 refine Zg ?_
    refine Zh ?_;(refine ZG (fun v=>v= .agg (bgR bu bp bd.toInt)) gK ?_ (s:=fun T wq kq ltq hSq ub=>by exact(budgetOf_c z wq (HR.out.2.mod0 (HM10.out.then0 hSq)) ((HO10.out.mod0 hSq).rd HZ.out.2.2.1).2.1.1 ((HO10.out.mod0 hSq).rd HZ.out.2.2.1).2.1.2 ((HO10.out.mod0 hSq).rd HZ.out.2.2.1).2.2.1.1 ((HO10.out.mod0 hSq).da HZ.out.2.2.1) ((HO10.out.mod0 hSq).rd HZ.out.2.2.1).2.2.1.2.1).mono (fun e w' h=>⟨_,by rw[h.1,HBU.out.1],rfl,h.2⟩));rintro v97 hC;subst hC;try simp only[zL]);(refine TG.build (v:= ?v98) (ps:= ?p98) (by simp only[zK];rfl) rfl (by rfl) rfl ?hx98 (fun w1=> ?y98) ?n98;(case hx98=>(simp only[List.map_toArray,List.map_cons,List.map_nil,zM];(try rfl)));(case y98=>(rw[(hby a61)];(try with_reducible rfl)));try simp only[zL]);(refine TG.allocB (by simp only[zK];rfl) rfl (by rfl) rfl rfl alRdy (fun p13 hp13 _=> ?n99);try simp only[zL]);(refine TG.storeB (d:= ?d100) (T:= ?T100) (y:= ?y100) (p:= ?p100) (b:= ?b100) (v:= ?v100) (by simp only[zK];rfl) rfl (by rfl) ?hd100 ?hop100 ?hev100 ?hx100 ?hb100 ?htag100 (fun w1 hb1=> ?hy100) ?hn100;(case hd100=>rfl);(case hop100=>rfl);(case hev100=>(simp only[zM];(try rfl)));(case hx100=>simp only[zM];try rfl);(case hb100=>first|exact Bx.set_same _ _ _|(simp only[Bx.set_same];rfl));(case htag100=>rfl);(case hy100=>(go_simp;(try first|with_reducible rfl|(rw[setCell_blk hb1];rfl))));try simp only[zL]);refine TG.nil (fun w11 ⟨TR,hr⟩=> ?_);replace kp4:=hr.q kp4;replace kp8:=hr.q kp8;obtain⟨gp13,nTp13,kp13⟩:=hr.b p13;clear gK;obtain⟨aq,cq,eq,-,hN,hT⟩:=hr.k.2;injection eq with eq1 eq2 eq3
    subst eq1;clear eq2 eq3;have HN11:=Hi hN;have HM11:=Hi (HM10.out.then0 hr.mod);have HO11:=Hi (HO10.out.mod0 hr.mod);have HRO11:=Hi (HRO10.out.mod0 hr.mod);have HP13:Hid (p13≠p4∧p13≠p8∧w10.heap.size≤p13∧w.heap.size≤p13):=Hi ⟨by omega,by omega,gp13,Nat.le_trans HM10.out.size gp13⟩;have HK11:Hid (∀p,(p=p13∨p=p4)→∃R,w11.heap[p]? =some (.cells R 41 (0,0))):=Hi (fun p hp=>by rcases hp with rfl|rfl;exact⟨_,kp13⟩;exact⟨_,kp4⟩);clear hr hT hN hcl hby;obtain⟨sn,hsn⟩:∃sn,z.sg.l.length=sn:=⟨_,rfl⟩;have HSN:Hid (z.sg.l.length=sn∧sn<1000000):=Hi ⟨hsn,by have:=HZ.out.2.2.1.1;simp only[txP]at this;omega⟩;have hs0:(txr z)[0]? =some (.slice z.sg.a sn z.sg.c):=by rw[txr0,hsn]
    have hs0':∀h:0<(txr z).size,(txr z)[0]= .slice z.sg.a sn z.sg.c:=fun h=>at_get hs0 h;clear hsn;go_upto_region 14 with fail;have Lkp4:=Ls kp4;have Lkp8:=Ls kp8;have Lkp13:=Ls kp13;refine ZP0 [0,1,0,0] ?_
    iterate 4 first|refine Zv ?_|refine Zd ?_
    refine TD.nil (fun w12 hr=> ?_);replace kp4:=hr.q kp4;replace kp8:=hr.q kp8;replace kp13:=hr.q kp13;have HM12:=Hi (HM11.out.then0 hr.mod);have HS12:=Hi hr.mod;clear hr;obtain⟨fe,hfe⟩:∃fe,feeF (UInt64.ofNat sn) bu bp=fe:=⟨_,rfl⟩;have HFE:=Hi hfe;clear hfe;have hbg0:=ryR_bg z a61 ra l ll ro rl bu bp bd 0 0 0;go_upto_region 15 with fail;have Lkp4:=Ls kp4;have Lkp8:=Ls kp8;have Lkp13:=Ls kp13;refine ZR0 (fun _ _ v=>v=u64v fe) [0,0,1,2,0,5] ?_
    iterate 3 first|refine Zv ?_|refine Zd ?_
    (refine Zc ?_ (s:=by intro wq hSq;exact(fee_c sn HSN.out.2 bu bp bd.toInt wq).mono (fun e w' h=>⟨_,h.1,by rw[HFE.out],h.2⟩));rintro _ hC;subst hC;try simp only[zL]);refine Zv ?_;refine Zi fun wE hr=> ?_;replace kp4:=hr.mod.at0 kp4;replace kp8:=hr.mod.at0 kp8;replace kp13:=hr.mod.at0 kp13;have mE:=hr.mod;refine ZS ?_;refine ZN kp13 fun w13 kp13 mS=> ?_;replace kp4:=mS.at_ne kp4 (by omega);replace kp8:=mS.at_ne kp8 (by omega);have HA13:Hid (Mod (fun i=>i=p13∨i=p4) w11 w13):=Hi (((HS12.out.trans mE).mono (fun _ _ h=>h.elim)).trans (mS.mono (fun _ _ h=> .inl h)));clear hr mE mS hbg0 hs0 hs0';rw[ryR_fee]at kp13;have hun:=ryR42 z a61 ra l ll ro rl bu bp bd fe 0 0;have hun':=ryR42' z a61 ra l ll ro rl bu bp bd fe 0 0;obtain⟨wn2,hwn2⟩:∃n,(wrL ro).length=n:=⟨_,rfl⟩;have HWN:=Hi (Ai hwn2 (show wn2≤200 by have:=wrL_len ro;have:=HRO.out.2.2;omega));obtain⟨co,hco⟩:∃co,coF (UInt64.ofNat sn) (UInt64.ofNat wn2) (dSum z.ins.l) bu=co:=⟨_,rfl⟩;have HCO:=Hi hco;clear hwn2 hco;have HO13:Hid (TxO w3.heap.size w13 z):=Hi (HO11.out.mod HA13.out (ry_apt HK11.out));have hv13:=HRO11.out.mod HA13.out (ry_new HRO11.out (by decide) HK11.out);rw[HRL.out]at hv13;have HRO13:Hid (SlAt rcr 34 w13 ra ro):=Hi (ns_rd hv13);clear hv13;go_upto_region 16 with fail;have Lkp4:=Ls kp4;have Lkp8:=Ls kp8;have Lkp13:=Ls kp13;refine wp_epass (T0:=fun _=>False) (K:=fun _ _=>True) (κ:=fun i=>[0,0,6,0,0,0,0,6,0,6].getD i 0) (υ:=fun _=>[]) [0,1,2,3,4,5,6,7,8] [9] (by kernel_rfl) (by kernel_rfl) (Good.true).cl (trivial) (fun _ h=>h.elim) ?_;have gK:=Good.true;(refine TG.load (v:= ?v111) (p:= ?p111) (by simp only[zK];rfl) rfl (by rfl) rfl ?hx111 (fun wq hSq=> ?y111) ?n111;(case hx111=>simp only[zM];try rfl);(case y111=>(have kp4q:=hSq.at kp4 (fun h=>h);have kp8q:=hSq.at kp8 (fun h=>h);have kp13q:=hSq.at kp13 (fun h=>h);exact(ldTxr kp8q)));try simp only[zL]);refine Zg ?_;(refine ZG (fun v=>∃a,v= .slice a wn2 wn2) gK ?_ (s:=fun T wq kq ltq hSq ub=>by exact(by have h:=written_c ra ro rl wq (HRO13.out.mod0 hSq) (by have:=HRO.out.2.2;omega);rw[HRL.out]at h;exact h.mono (fun e w' h=>by obtain⟨v,h1,h2,h3⟩:=h;obtain⟨a,h4,_⟩:=h2.at;rw[HWN.out.1]at h4;exact⟨_,h1,⟨a,h4⟩,h3⟩)));rintro v113 hC;obtain⟨a80,rfl⟩:=hC;try simp only[zL])
    iterate 3 refine Zg ?_
    refine Zh ?_;(refine ZG (fun v=>v=u64v co) gK ?_ (s:=fun T wq kq ltq hSq ub=>by exact(by have h:=of_c z wn2 bu (by have:=HWN.out.2;omega) wq ((HO13.out.mod0 hSq).rd HZ.out.2.2.1).2.2.1.1 (by have:=((HO13.out.mod0 hSq).rd HZ.out.2.2.1).2.2.1.2.1;omega) (by have:=HSN.out;omega) (fun i hi=>by have:=(((HO13.out.mod0 hSq).rd HZ.out.2.2.1).2.2.1.2.2 i hi).2.2;omega);rw[HSN.out.1,HCO.out]at h;exact h.mono (fun e w' h=>⟨_,h.1,rfl,h.2⟩)));rintro v118 hC;subst hC;try simp only[zL]);refine Zg ?_;refine TG.nil (fun w14 ⟨TR,hr⟩=> ?_);replace kp4:=hr.q kp4;replace kp8:=hr.q kp8;replace kp13:=hr.q kp13;clear gK;have HA14:Hid (Mod (fun i=>i=p13∨i=p4) w11 w14):=Hi (HA13.out.trans (hr.mod.mono (fun _ _ h=>h.elim)));clear hr;refine Zz ?_;refine ZS ?_;refine ZN kp13 fun wn kp13 mS=> ?_;rw[ryR_cost]at kp13;have HA15:Hid (Mod (fun i=>i=p13∨i=p4) w11 wn):=Hi (HA14.out.trans (mS.mono (fun _ _ h=> .inl h)));replace kp4:=mS.at_ne kp4 (fun e=>HP13.out.1 e.symm);clear mS hun hun';obtain⟨w15,rfl⟩:∃w15:World,w15=wn:=⟨_,rfl⟩;obtain⟨pi,hpi⟩:∃pi,priF (UInt64.ofNat sn) bu bp co=pi:=⟨_,rfl⟩;have HPI:=Hi hpi;clear hpi;have hbg0:=ryR_bg z a61 ra l ll ro rl bu bp bd fe co 0;have h46:=ryR46 z a61 ra l ll ro rl bu bp bd fe co 0;have h46':=ryR46' z a61 ra l ll ro rl bu bp bd fe co 0;go_upto_region 17 with fail;have Lkp4:=Ls kp4;have Lkp13:=Ls kp13;refine ZR0 (fun _ _ v=>v=u64v pi) [0,0,1,0,1,2,0,5] ?_
    iterate 5 first|refine Zv ?_|refine Zd ?_
    (refine Zc ?_ (s:=by intro wq hSq;exact(prio_c sn HSN.out.2 bu bp co bd.toInt wq).mono (fun e w' h=>⟨_,h.1,by rw[HPI.out],h.2⟩));rintro _ hC;subst hC;try simp only[zL]);refine Zv ?_;refine Zi fun wE hr=> ?_;replace kp4:=hr.mod.at0 kp4;replace kp13:=hr.mod.at0 kp13;have mE:=hr.mod;refine ZS ?_;refine ZN kp13 fun w16 kp13 mS=> ?_;replace kp4:=mS.at_ne kp4 (by omega);rw[ryR_prio]at kp13;have HA16:Hid (Mod (fun i=>i=p13∨i=p4) w11 w16):=Hi ((HA15.out.trans (mE.mono (fun _ _ h=>h.elim))).trans (mS.mono (fun _ _ h=> .inl h)));clear hr mE mS hbg0 h46 h46';go_upto_region 18 with fail;have Lkp4:=Ls kp4;have Lkp13:=Ls kp13;refine ZP0 [1,5,0] ?_;(refine TD.load (v:= ?v129) (p:= ?p129) (Mod.refl _ _) (by simp only[zK];rfl) rfl (by rfl) rfl ?hx129 (fun wq hSq=> ?y129) ?n129;(case hx129=>simp only[zM];try rfl);(case y129=>(have kp4q:=hSq.at kp4 (fun h=>h);have kp13q:=hSq.at kp13 (fun h=>h);exact(ldRdyR kp13q)));try simp only[zL]);refine Zi fun w17 hr=> ?_;replace kp4:=hr.q kp4;replace kp13:=hr.q kp13;have HA17:Hid (Mod (fun i=>i=p13∨i=p4) w11 w17):=Hi (HA16.out.trans (hr.mod.mono (fun _ _ h=>h.elim)));clear hr;refine ZS ?_;refine ZM kp4 fun wn kp4 mS=> ?_;have HA18:Hid (Mod (fun i=>i=p13∨i=p4) w11 wn):=Hi (HA17.out.trans (mS.mono (fun _ _ h=> .inr h)));clear mS;refine Ze ?_;refine TE.nil ?_;go_wp2_with fail;refine bodyPost_ret (results_ct rfl rfl (ldRdyR kp4)) rfl ?_;have hOf:=HO11.out.mod HA18.out (ry_apt HK11.out);have hRf:=HRO11.out.mod HA18.out (ry_new HRO11.out (by decide) HK11.out);have hNf:=HN11.out.mod HA18.out (ry_new HN11.out (by decide) HK11.out);rw[HRL.out]at hRf;have hmf:Mod (fun _=>False) w wn:=HM11.out.then HA18.out (fun i hi e=>by
     have h1:=HP13.out.2.2.2;have h2:=HP8.out.2.1;have h3:=HGP4.out;rcases e with rfl|rfl<;>omega)
    unfold ReaP;refine⟨hmf,?_⟩;have hready:readyP T l= .ok (tellP l (txP z) ro):=by
     unfold readyP;rw[HZ.out.2.2.2.2];simp only;rw[←HZ.out.2.1];show(match resP T (z.lks.l.map loP) ([],[])with| .error e=>Except.error e| .ok (ws,rs)=>_)=_;rw[HY.out.1];show(match rolesP (msgP z) y.1 y.2 with| .error e=>Except.error e| .ok ro=>_)=_;rw[HRO.out.2.1]
    rw[hready];have hcr:(Value.slice (ryR z a61 ra l ll ro rl bu bp bd fe co pi).ro.a (ryR z a61 ra l ll ro rl bu bp bd fe co pi).ro.l.length (ryR z a61 ra l ll ro rl bu bp bd fe co pi).ro.c)= .slice ra rl rl:=by
     show Value.slice ra ro.length rl=_;rw[HRL.out]
    have hcb:(Value.slice (ryR z a61 ra l ll ro rl bu bp bd fe co pi).b.a (ryR z a61 ra l ll ro rl bu bp bd fe co pi).b.l.length (ryR z a61 ra l ll ro rl bu bp bd fe co pi).b.c)= .slice a61 ll ll:=by
     show Value.slice a61 l.length ll=_;rw[HLL.out]
    refine⟨ryR z a61 ra l ll ro rl bu bp bd fe co pi,rfl,⟨hOf.base HM3.out.size,?_,?_,?_,?_,?_⟩,?_,HZ.out.2.2.1⟩
    ·show NewS uc 1 5 w.heap.size wn (.slice a61 l.length ll) l;rw[HLL.out];exact hNf.base HM10.out.size
    ·show NewS rcr 34 91 w.heap.size wn (.slice ra ro.length rl) ro;rw[HRL.out];exact hRf.base HM8.out.size
    ·intro g hg h hh;have h1:=(HO8.out.blk g hg).2;rw[hcr]at hh;have h2:=(hRf.lt h hh).1;omega
    ·intro g hg h hh;have h1:=(HO10.out.blk g hg).2;rw[hcb]at hh;have h2:=(hNf.lt h hh).1;omega
    ·intro g h hg hh;rw[hcr]at hg;have hr10:=HRO10.out;rw[HRL.out]at hr10;have h1:=(hr10.lt g hg).2;rw[hcb]at hh;have h2:=(hNf.lt h hh).1;omega
    ·unfold ryP tellP;show(⟨l,txP z,ro,bu,bp,bd.toInt,fe,co,pi⟩:RyP)=_;have e1:(budP (txP z).m).units=bu:=HBU.out.2.1;have e2:(budP (txP z).m).price=bp:=HBU.out.2.2;have e3:bd.toInt=(budP (txP z).m).badI:=HBG.out.1;have e4:UInt64.ofNat (txP z).sg.length=UInt64.ofNat sn:=congrArg UInt64.ofNat HSN.out.1;have e5:dSumP (txP z).m.ins=dSum z.ins.l:=(dSum_P z.ins.l).symm;simp only[e1,e2,e4,e5,HWN.out.1];rw[HCO.out,HFE.out,HPI.out,e3]
end
section
attribute [local go_sem↓] wlMsg ldMsg stMsg
def exK (n:UInt8):Key:=⟨n::List.replicate 31 0,rfl⟩
def sg0:Sg:=⟨List.replicate 64 0,rfl⟩
def exR (p4 p8 p9 p11:Nat):RdR:=⟨⟨none,[],0⟩,⟨some ⟨p4,0,none⟩,[sg0],1⟩,false,1,0,0,⟨some ⟨p8,0,none⟩,[exK 1,exK 2],2⟩,key0,⟨some ⟨p11,0,none⟩,[⟨1,⟨some ⟨p9,0,none⟩,[0],1⟩,⟨none,[],0⟩⟩],1⟩,⟨none,[],0⟩,⟨none,[],0⟩,0,0,0,0,0,0⟩
def exX:TxP:=⟨[sg0],⟨false,1,0,0,[exK 1,exK 2],key0,[⟨1,[0],[]⟩],[]⟩⟩
def exB:List UInt8:=putT exX
theorem exR_tx (p4 p8 p9 p11:Nat):txP (exR p4 p8 p9 p11)=exX:=rfl
theorem exMk (w:World):(Instr.makeSlice 24 (.int .i64 1) (.int .i64 1)).run Tryz.prog w= .ok (.slice (some ⟨w.heap.size,0,none⟩) 1 1) (w.alloc (.cells zSg 101)):=by kernel_rfl
theorem exH (w:World):(Instr.build 26 #[(0,.int .u8 1)]).run Tryz.prog w= .ok (.agg #[.int .u8 1,.int .u8 0,.int .u8 0]) w:=by kernel_rfl
theorem exK1 (w:World):(Instr.build 82 #[(0,.int .u8 1)]).run Tryz.prog w= .ok (.agg (kc (exK 1))) w:=by kernel_rfl
theorem exK2 (w:World):(Instr.build 82 #[(0,.int .u8 2)]).run Tryz.prog w= .ok (.agg (kc (exK 2))) w:=by kernel_rfl
theorem exKs (w:World):(Instr.buildSlice 27 2 #[(0,.agg (kc (exK 1))),(1,.agg (kc (exK 2)))]).run Tryz.prog w= .ok (.slice (some ⟨w.heap.size,0,none⟩) 2 2) (w.alloc (.cells (kc (exK 1)++kc (exK 2)) 82)):=by kernel_rfl
theorem exB0 (w:World):(Instr.buildSlice 22 1 #[(0,.int .u8 0)]).run Tryz.prog w= .ok (.slice (some ⟨w.heap.size,0,none⟩) 1 1) (w.alloc (.cells #[u8v 0] 5)):=by kernel_rfl
theorem exI (p:Nat) (w:World):(Instr.build 125 #[(0,.int .u8 1),(1,.slice (some ⟨p,0,none⟩) 1 1)]).run Tryz.prog w= .ok (.agg (inr ⟨1,⟨some ⟨p,0,none⟩,[0],1⟩,⟨none,[],0⟩⟩)) w:=by kernel_rfl
theorem exIs (p:Nat) (w:World):(Instr.buildSlice 30 1 #[(0,.agg (inr ⟨1,⟨some ⟨p,0,none⟩,[0],1⟩,⟨none,[],0⟩⟩))]).run Tryz.prog w= .ok (.slice (some ⟨w.heap.size,0,none⟩) 1 1) (w.alloc (.cells (inr ⟨1,⟨some ⟨p,0,none⟩,[0],1⟩,⟨none,[],0⟩⟩) 125)):=by kernel_rfl
theorem exM (p4 p8 p9 p11:Nat) (w:World):(Instr.build 33 #[(1,.agg #[.int .u8 1,.int .u8 0,.int .u8 0]),(2,.slice (some ⟨p8,0,none⟩) 2 2),(4,.slice (some ⟨p11,0,none⟩) 1 1)]).run Tryz.prog w= .ok (.agg (msr (exR p4 p8 p9 p11))) w:=by kernel_rfl
theorem exT (p4 p8 p9 p11:Nat) (w:World):(Instr.build 35 #[(0,.slice (some ⟨p4,0,none⟩) 1 1),(1,.agg (msr (exR p4 p8 p9 p11)))]).run Tryz.prog w= .ok (.agg (txr (exR p4 p8 p9 p11))) w:=by kernel_rfl
theorem exLen:(putT exX).length=170:=by kernel_rfl
def exRo:List Role:=[⟨exK 1,true,true⟩,⟨exK 2,false,true⟩]
theorem exReady:readyP [] exB= .ok (tellP exB exX exRo):=by kernel_rfl
theorem exTell:(tellP exB exX exRo).u=200000∧(tellP exB exX exRo).p=0∧(tellP exB exX exRo).bad= -1∧(tellP exB exX exRo).fee=5000∧(tellP exB exX exRo).cost=201320∧(tellP exB exX exRo).pri=12417:=⟨by kernel_rfl,by kernel_rfl,by kernel_rfl,by kernel_rfl,by kernel_rfl,by kernel_rfl⟩
theorem exShort:readyP [] [0]= .error 5:=by kernel_rfl
theorem exTB:TxB exX:=⟨by decide,by decide,⟨by decide,fun x h=>by rw[List.mem_singleton.1 h];exact⟨by decide,by decide⟩⟩,by decide,fun x h=>by cases h⟩
theorem keys_at {w:World} {p:Nat} {U:TypeId} {fr:Nat×Nat} {a b:Key} (h:w.heap[p]? =some (.cells (kc a++kc b) U fr)):SlAt kc 32 w (some ⟨p,0,none⟩) [a,b]:=by
 refine .inr ⟨p,0,_,U,fr,rfl,h,fun i x hx=> ?_⟩;rcases i with _|_|i
 ·cases hx;refine⟨?_,by simp⟩;rw[Array.extract_append];simp
 ·cases hx;refine⟨?_,by simp⟩;rw[Array.extract_append];simp;have h1:(kc a).extract 32 32= #[]:=Array.eq_empty_of_size_eq_zero (by simp);rw[h1,kc_ext];simp
 ·cases hx
theorem example_c (w:World):Calls Tryz.prog 32 #[] w fun e w'=>∃a,e= .returned (.slice a 170 170)∧SlAt uc 1 w' a exB∧Mod (fun _=>False) w w':=by
 have hmk:=exMk;have hb5:=exH;have hb6:=exK1;have hb7:=exK2;have hb8:=exKs;have hb9:=exB0;have hb10:=exI;have hb11:=exIs;have hb12:=exM;have hb13:=exT;go_enter Tryz.func32,Tryz.ntmps32;go_upto_region 1 with fail;refine ZP0 [3,0,0,0,3,3,0,3,0,0,5,0,0,0,0,0] ?_;(refine TD.mks (by simp only[zK];rfl) rfl (by rfl) rfl rfl ?hx1 ?hz1 hmk (fun p4 hp4=> ?n1);(case hx1=>simp only[zM];try rfl);(case hz1=>simp only[zM];try rfl);try simp only[zL]);refine Zu hb5 ?_;refine Zu hb6 ?_;refine Zu hb7 ?_;refine Zy hb8 fun p8 hp8=> ?_;obtain⟨ne_p8_p4,hp8⟩:=Bx.set_none hp8;refine Zy hb9 fun p9 hp9=> ?_;obtain⟨ne_p9_p8,hp9⟩:=Bx.set_none hp9;obtain⟨ne_p9_p4,hp9⟩:=Bx.set_none hp9;refine Zu (hb10 _) ?_;refine Zy (hb11 p9) fun p11 hp11=> ?_;obtain⟨ne_p11_p9,hp11⟩:=Bx.set_none hp11;obtain⟨ne_p11_p8,hp11⟩:=Bx.set_none hp11;obtain⟨ne_p11_p4,hp11⟩:=Bx.set_none hp11;refine Zu (hb12 p4 p8 p9 p11) ?_;refine Zu (hb13 p4 p8 p9 p11) ?_;refine Zi fun w1 hr=> ?_;obtain⟨gp4,kp4⟩:=hr.b p4 (by first|exact Bx.set_same _ _ _|(simp only[Bx.set_ne _ (Ne.symm ne_p8_p4),Bx.set_ne _ (Ne.symm ne_p9_p4),Bx.set_ne _ (Ne.symm ne_p9_p8),Bx.set_ne _ (Ne.symm ne_p11_p4),Bx.set_ne _ (Ne.symm ne_p11_p8),Bx.set_ne _ (Ne.symm ne_p11_p9),Bx.set_ne _ ne_p8_p4,Bx.set_ne _ ne_p9_p4,Bx.set_ne _ ne_p9_p8,Bx.set_ne _ ne_p11_p4,Bx.set_ne _ ne_p11_p8,Bx.set_ne _ ne_p11_p9,Bx.set_same];rfl));obtain⟨gp8,kp8⟩:=hr.b p8 (by first|exact Bx.set_same _ _ _|(simp only[Bx.set_ne _ (Ne.symm ne_p8_p4),Bx.set_ne _ (Ne.symm ne_p9_p4),Bx.set_ne _ (Ne.symm ne_p9_p8),Bx.set_ne _ (Ne.symm ne_p11_p4),Bx.set_ne _ (Ne.symm ne_p11_p8),Bx.set_ne _ (Ne.symm ne_p11_p9),Bx.set_ne _ ne_p8_p4,Bx.set_ne _ ne_p9_p4,Bx.set_ne _ ne_p9_p8,Bx.set_ne _ ne_p11_p4,Bx.set_ne _ ne_p11_p8,Bx.set_ne _ ne_p11_p9,Bx.set_same];rfl));obtain⟨gp9,kp9⟩:=hr.b p9 (by first|exact Bx.set_same _ _ _|(simp only[Bx.set_ne _ (Ne.symm ne_p8_p4),Bx.set_ne _ (Ne.symm ne_p9_p4),Bx.set_ne _ (Ne.symm ne_p9_p8),Bx.set_ne _ (Ne.symm ne_p11_p4),Bx.set_ne _ (Ne.symm ne_p11_p8),Bx.set_ne _ (Ne.symm ne_p11_p9),Bx.set_ne _ ne_p8_p4,Bx.set_ne _ ne_p9_p4,Bx.set_ne _ ne_p9_p8,Bx.set_ne _ ne_p11_p4,Bx.set_ne _ ne_p11_p8,Bx.set_ne _ ne_p11_p9,Bx.set_same];rfl));obtain⟨gp11,kp11⟩:=hr.b p11 (by first|exact Bx.set_same _ _ _|(simp only[Bx.set_ne _ (Ne.symm ne_p8_p4),Bx.set_ne _ (Ne.symm ne_p9_p4),Bx.set_ne _ (Ne.symm ne_p9_p8),Bx.set_ne _ (Ne.symm ne_p11_p4),Bx.set_ne _ (Ne.symm ne_p11_p8),Bx.set_ne _ (Ne.symm ne_p11_p9),Bx.set_ne _ ne_p8_p4,Bx.set_ne _ ne_p9_p4,Bx.set_ne _ ne_p9_p8,Bx.set_ne _ ne_p11_p4,Bx.set_ne _ ne_p11_p8,Bx.set_ne _ ne_p11_p9,Bx.set_same];rfl));have HM1:=Hi hr.mod;have d1:(1:Nat)≤1000000:=by decide
 have d2:(2:Nat)≤1000000:=by decide
 have d0:(0:Nat)≤1000000:=by decide
 have hrd:TxRd w1 (exR p4 p8 p9 p11):=⟨⟨SlAt.one kp4 sg0 rfl rfl,d1⟩,⟨keys_at kp8,d2⟩,⟨SlAt.one kp11 _ rfl rfl,d1,fun i hi=>by rw[List.mem_singleton.1 hi];exact⟨⟨SlAt.one kp9 (0:UInt8) rfl rfl,d1⟩,.inl rfl,d0⟩⟩,.inl rfl,d0,fun i hi=>by cases hi⟩;have hC:=pput_c (exR p4 p8 p9 p11) w1 hrd exTB (.inr ⟨rfl,show(1:UInt8).toNat<128 by decide⟩) (by rw[exR_tx,exLen];decide);rw[exR_tx,exLen]at hC;clear hr;(refine eff_callT (by simp only[zK];rfl) (by rfl) ?y12 hC ?hout (fun vn wn hR=> ?hret) (fun ch wn hR=> ?hpan);(case y12=>(go_simp;(try(first|with_reducible rfl|(constructor<;>with_reducible rfl))))))
 case hout=>
  rintro w' ⟨_,h,_⟩;cases h
 case hpan=>
  obtain⟨_,h,_⟩:=hR;cases h
 case hret=>
 obtain⟨a,e0,hat,hm⟩:=hR;cases e0;have HF:=Hi (Ai hat (HM1.out.trans hm));clear hat hm hC;(try simp only[zL]);refine Ze ?_;refine Ze ?_;refine Ze ?_;refine Ze ?_;refine Ze ?_;refine TE.nil ?_;go_wp2_with fail;go_ret;exact⟨a,rfl,HF.out.1,HF.out.2⟩
end
section
attribute [local go_sem↓] wlRdy ldRdy stRdy ldBgd
attribute [local go_sem] rdr_size rdr_all rdr_one zRdy_size zRdy_one
theorem slat_some {w:World} {a:Option Addr} {l:List UInt8} (h:SlAt uc 1 w a l) (hl:l≠[]):(∀x,a=some x→x.block<w.heap.size)∧a≠none:=by
 rcases h with h|⟨b,o,C,U,fr,rfl,hb,_⟩
 ·exact absurd h hl
 ·exact⟨fun x e=>by cases e;exact Ls hb,fun e=>by cases e⟩
theorem ReaP.out {T:TbL} {w w':World} {l:List UInt8} (h:ReaP T w l .outgrown w'):False:=by
 unfold ReaP at h;split at h
 ·obtain⟨_,_,h,_⟩:=h;cases h
 ·cases h.2
theorem ReaP.pan {T:TbL} {w w':World} {l:List UInt8} {ch:_} (h:ReaP T w l (.panicked ch) w'):False:=by
 unfold ReaP at h;split at h
 ·obtain⟨_,_,h,_⟩:=h;cases h
 ·cases h.2
theorem rdr45 (x:RdR):(rdr x)[45]? =some (u64v x.fee):=mx_post 6
theorem eqBu (w:World):(binOp .eql 39 (.agg #[.int .u64 200000,.int .u64 0,.int .i64 (-1)]) (.agg #[.int .u64 200000,.int .u64 0,.int .i64 (-1)])).run Tryz.prog w= .ok (.bool true) w:=by kernel_rfl
theorem bBu (w:World):(Instr.build 39 #[(0,.int .u64 200000),(2,.int .i64 (-1))]).run Tryz.prog w= .ok (.agg #[.int .u64 200000,.int .u64 0,.int .i64 (-1)]) w:=by kernel_rfl
theorem lives_c (w:World) (hB:BudW w):Calls Tryz.prog 8 #[] w fun e w'=>e= .returned (.bool true)∧Mod (fun _=>False) w w':=by
 have HB:=Hi hB;clear hB;go_enter Tryz.func8,Tryz.ntmps8;have hC:=example_c w;go_upto_region 1 with fail;refine region_seq 9 rfl ?_;simp only[List.range,List.range.loop];refine ZC hC ?hout (fun vn wn hR=> ?hret) (fun ch wn hR=> ?hpan)
 case hout=>
  rintro w' ⟨_,h,_⟩;cases h
 case hpan=>
  obtain⟨_,h,_⟩:=hR;cases h
 case hret=>
 obtain⟨a,e0,hat,hm⟩:=hR;cases e0;have HM1:=Hi hm;have HA:=Hi hat;clear hC hat hm;obtain⟨w1,rfl⟩:∃w1:World,w1=wn:=⟨_,rfl⟩;have hC:=newT_c w1;refine ZC hC ?hout (fun vn wn hR=> ?hret) (fun ch wn hR=> ?hpan)
 case hout=>
  rintro w' ⟨_,_,h,_⟩;cases h
 case hpan=>
  obtain⟨_,_,h,_⟩:=hR;cases h
 case hret=>
 obtain⟨h,r,e0,hRA,hm⟩:=hR;cases e0;have HM2:=Hi (HM1.out.trans hm);have HA2:=Hi (HA.out.mod0 hm);have HRA:=Hi hRA;clear hC hRA hm;obtain⟨w2,rfl⟩:∃w2:World,w2=wn:=⟨_,rfl⟩;have hexl:exB.length=170:=exLen;have hne:exB≠[]:=fun e=>by rw[e]at hexl;cases hexl
 have hC:=ready_c (l:=exB) (c:=170) w2 HRA.out (HB.out.mod0 HM2.out) HA2.out (by rw[hexl];exact Nat.le_refl _) (fun e=>absurd e (slat_some HA2.out hne).2) (by rw[hexl];decide) (slat_some HA2.out hne).1;rw[hexl]at hC;clear hexl hne;(try simp only[zL]);refine ZC hC ?hout (fun vn wn hR=> ?hret) (fun ch wn hR=> ?hpan)
 case hout=>exact fun w' h=>h.out
 case hpan=>exact hR.pan.elim
 case hret=>
 unfold ReaP at hR;rw[exReady]at hR;obtain⟨hm,z,e0,-,hz,-⟩:=hR;cases e0;have HM3:=Hi (HM2.out.trans hm);have HZ:=Hi hz;clear hC hm hz;(try simp only[zL]);obtain⟨w3,rfl⟩:∃w3:World,w3=wn:=⟨_,rfl⟩
 iterate 3 refine Zq ?_
 (refine sq_alloc (by simp only[zK];rfl) (by rfl) rfl alRdy (fun p1 wn gp1 kp1 mp1=> ?n7);try simp only[zL]);refine ZT ?_;refine ZQ kp1 fun wn kp1 mS=> ?_;refine Zq ?_;refine sq_nil ?_;have HM4:Hid (Mod (fun _=>False) w wn):=Hi ((HM3.out.trans mp1).then mS (fun i hi e=>by have:=HM3.out.size;omega));clear mp1 mS;obtain⟨w4,rfl⟩:∃w4:World,w4=wn:=⟨_,rfl⟩;go_upto_region 2 with fail;refine region_seq 9 rfl ?_;simp only[List.range,List.range.loop];(refine sq_new (by simp only[zK];rfl) (by rfl) rfl ?hx10 (exB0 _) (fun p12 wn gp12 kp12 mp12=> ?n10);(case hx10=>(simp only[List.map_toArray,List.map_cons,List.map_nil,zM];(try rfl)));try simp only[zL]);refine ZC (newT_c _) ?hout (fun vn wn hR=> ?hret) (fun ch wn hR=> ?hpan)
 case hout=>
  rintro w' ⟨_,_,h,_⟩;cases h
 case hpan=>
  obtain⟨_,_,h,_⟩:=hR;cases h
 case hret=>
 obtain⟨h,r,e0,hRA,hm⟩:=hR;cases e0;have hM5:=(HM4.out.trans mp12).trans hm;have HS12:Hid (SlAt uc 1 wn (some ⟨p12,0,none⟩) [0]):=Hi (SlAt.one (hm.at0 kp12) (0:UInt8) rfl rfl);have HM5:=Hi hM5;have HRA:=Hi hRA;replace kp1:=hm.at0 (mp12.at0 kp1);clear hm kp12 mp12 gp12 hRA hM5;obtain⟨w5,rfl⟩:∃w5:World,w5=wn:=⟨_,rfl⟩;have hC:=ready_c (l:=[0]) (c:=1) w5 HRA.out (HB.out.mod0 HM5.out) HS12.out (Nat.le_refl _) (fun e=>by cases e) (show(1:Nat)≤900000 by decide) (slat_some HS12.out (by decide)).1;(try simp only[zL]);refine ZC hC ?hout (fun vn wn hR=> ?hret) (fun ch wn hR=> ?hpan)
 case hout=>exact fun w' h=>h.out
 case hpan=>exact hR.pan.elim
 case hret=>
 unfold ReaP at hR;rw[exShort]at hR;obtain⟨hm,e0⟩:=hR;cases e0;have HM6:=Hi (HM5.out.trans hm);replace kp1:=hm.at0 kp1;clear hC hm;(try simp only[zL]);obtain⟨w6,rfl⟩:∃w6:World,w6=wn:=⟨_,rfl⟩
 iterate 3 refine Zq ?_
 (refine sq_alloc (by simp only[zK];rfl) (by rfl) rfl alRdy (fun p3 wn gp3 kp3 mp3=> ?n16);try simp only[zL]);refine ZT ?_;refine ZQ kp3 fun wn kp3 mS=> ?_;refine Zq ?_;refine sq_nil ?_;have hp1:=Ls kp1;have HM7:Hid (Mod (fun _=>False) w wn):=Hi ((HM6.out.trans mp3).then mS (fun i hi e=>by have:=HM6.out.size;omega));have kp1':wn.heap[p1]? =some (.cells (rdr z) 41 (0,0)):=mS.at_ne (mp3.at0 kp1) (fun e=>by omega);clear kp1;have kp1:=kp1';clear mp3 mS kp1' hp1 kp3 gp3;obtain⟨w7,rfl⟩:∃w7:World,w7=wn:=⟨_,rfl⟩;have hz1:z.ro.l.length=2:=congrArg (fun y:RyP=>y.ro.length) HZ.out;have hz2:z.un=200000:=(congrArg RyP.u HZ.out).trans exTell.1;have hz3:z.pr=0:=(congrArg RyP.p HZ.out).trans exTell.2.1;have hz4:z.bad.toInt= -1:=(congrArg RyP.bad HZ.out).trans exTell.2.2.1;have hz5:z.fee=5000:=(congrArg RyP.fee HZ.out).trans exTell.2.2.2.1;have hz6:z.cost=201320:=(congrArg RyP.cost HZ.out).trans exTell.2.2.2.2.1;have hz7:z.prio=12417:=(congrArg RyP.pri HZ.out).trans exTell.2.2.2.2.2;have f41:(rdr z)[41]? =some (.slice z.ro.a 2 z.ro.c):=by rw[rdr41,hz1]
 have f41':∀h:41<(rdr z).size,(rdr z)[41]= .slice z.ro.a 2 z.ro.c:=fun h=>at_get f41 h;have f42:(rdr z).extract 42 45= #[.int .u64 200000,.int .u64 0,.int .i64 (-1)]:=by rw[rdr_bg,hz2,hz3,hz4];rfl
 have f45:(rdr z)[45]? =some (.int .u64 5000):=by rw[rdr45,hz5];rfl
 have f45':∀h:45<(rdr z).size,(rdr z)[45]= .int .u64 5000:=fun h=>at_get f45 h;have f46:(rdr z)[46]? =some (.int .u64 201320):=by rw[rdr46,hz6];rfl
 have f46':∀h:46<(rdr z).size,(rdr z)[46]= .int .u64 201320:=fun h=>at_get f46 h;have f47:(rdr z)[47]? =some (.int .u64 12417):=by rw[rdr47,hz7];rfl
 have f47':∀h:47<(rdr z).size,(rdr z)[47]= .int .u64 12417:=fun h=>at_get f47 h;have hbb:=bBu;have heq:=eqBu;clear hz1 hz2 hz3 hz4 hz5 hz6 hz7;go_upto_region 3 with fail;have Lkp1:=Ls kp1;refine ZP0 [0,0,0,0,0,0,0,0,1,0,0,0,0,0,1,0,0,0,0,0,1,0,0,0,0,1,0,0,0,0,1,0,0,0] ?_
 iterate 15 first|refine Zv ?_|refine Zd ?_
 refine Zu hbb ?_
 iterate 18 first|refine Zv ?_|refine Zd ?_
 refine TD.nil (fun w8 hr=> ?_);replace kp1:=hr.q kp1;have HM8:=Hi (HM7.out.then0 hr.mod);clear hr;go_wp2_with fail;go_ret;exact⟨rfl,HM8.out⟩
end
section
attribute [local go_sem↓] ldRole stRole
attribute [local go_sem] zRole_size
theorem sameRo_c (a a2:Option Addr) (l:List Role) (c c2:Nat) (w:World) (h1:SlAt rcr 34 w a l) (h2:SlAt rcr 34 w a2 l) (hb:l.length≤1000000):Calls Tryz.prog 42 #[.slice a l.length c,.slice a2 l.length c2] w fun e w'=>e= .returned (.bool true)∧Mod (fun _=>False) w w':=by
 have H1:=Hi (Ai h1 h2);obtain⟨n,hn⟩:∃n,l.length=n:=⟨_,rfl⟩;have HN:=Hi hn;rw[hn]at hb⊢;clear h1 h2 hn;have hd0:((n:Int) !=(n:Int))=false:=by simp
 have hdn:(n !=n)=false:=by simp
 have heq:=fun x=>eqRole1 x;go_enter Tryz.func42,Tryz.ntmps42;go_wp2_with fail;go_loopw [5] (fun s5 ws=>∃i:Nat,i≤n∧s5= .int .i64 (i:Int)∧Mod (fun _=>False) w ws) (fun s5 _=>n-(intOf s5).toNat)
 case atStart=>exact⟨0,by omega,rfl,Mod.refl _ _⟩
 case round=>
  obtain⟨i,hi,rfl,hm⟩:=hrel;by_cases hlt:i<n
  ·have hd:=Dt hlt;obtain⟨x,hx⟩:∃x,l[i]? =some x:=⟨_,List.getElem?_eq_getElem (by have:=HN.out;omega)⟩;obtain⟨g,o,C,U,fr,rfl,kl,he,hle⟩:=(H1.out.1.mod0 hm).block hx;obtain⟨g2,o2,C2,U2,fr2,rfl,kl2,he2,hle2⟩:=(H1.out.2.mod0 hm).block hx;have HXX:=Hi hx;have HMM:=Hi hm;have hex:=eqRole1 x;clear hx hm;go_upto_region 6 with fail;have Lkl:=Ls kl;have Lkl2:=Ls kl2;refine ZP [0,0,0,1,0,0,0,1,0] ?_
   iterate 9 first|refine Zv ?_|refine Zd ?_
   refine TD.nil (fun w2 hr=> ?_);replace kl:=hr.q kl;replace kl2:=hr.q kl2;have mm:=HMM.out.then0 hr.mod;clear he he2 hle hle2 hr;go_wp2_with fail;go_roundw
   case rel=>exact⟨i+1,by omega,by go_num,mm⟩
   case measure=>first|omega|(simp[intOf];omega)
  ·have hd:=Df hlt;go_wp2_with fail;go_ret;exact⟨rfl,hm⟩
attribute [local go_sem↓] wlRdy ldRdy stRdy ldBgd
attribute [local go_sem] rdr_size rdr_all rdr_one zRdy_size rdr_tx rdr0 rdr0'
def RyRd (w:World) (r:RdR):Prop:=(SlAt uc 1 w r.b.a r.b.l∧r.b.l.length≤1000000)∧TxRd w r∧SlAt rcr 34 w r.ro.a r.ro.l∧r.ro.l.length≤1000000
theorem RyRd.mod0 {w w':World} {r:RdR} (h:RyRd w r) (hm:Mod (fun _=>False) w w'):RyRd w' r:=⟨⟨h.1.1.mod0 hm,h.1.2⟩,h.2.1.mod0 hm,h.2.2.1.mod0 hm,h.2.2.2⟩
theorem eqBg (u p:UInt64) (b:Int) (w:World):(binOp .eql 39 (.agg (bgR u p b)) (.agg (bgR u p b))).run Tryz.prog w= .ok (.bool true) w:=by
 simp[bgR,go_sem]
theorem sameReady_c (x y:RdR) (w:World) (hx:RyRd w x) (hy:RyRd w y) (hxy:ryP x=ryP y):Calls Tryz.prog 10 #[.agg (rdr x),.agg (rdr y)] w fun e w'=>e= .returned (.bool true)∧Mod (fun _=>False) w w':=by
 have HX:=Hi hx;have HY:=Hi hy;have e1:y.b.l=x.b.l:=(congrArg RyP.b hxy).symm;have e2:txP x=txP y:=congrArg RyP.x hxy;have e3:y.ro.l=x.ro.l:=(congrArg RyP.ro hxy).symm;have e4:y.un=x.un:=(congrArg RyP.u hxy).symm;have e5:y.pr=x.pr:=(congrArg RyP.p hxy).symm;have e6:y.bad.toInt=x.bad.toInt:=(congrArg RyP.bad hxy).symm;have e7:y.fee=x.fee:=(congrArg RyP.fee hxy).symm;have e8:y.cost=x.cost:=(congrArg RyP.cost hxy).symm;have e9:y.prio=x.prio:=(congrArg RyP.pri hxy).symm;obtain⟨nb,hnb⟩:∃n,x.b.l.length=n:=⟨_,rfl⟩;obtain⟨nr,hnr⟩:∃n,x.ro.l.length=n:=⟨_,rfl⟩;obtain⟨fe,hfe⟩:∃z,x.fee=z:=⟨_,rfl⟩;obtain⟨co,hco⟩:∃z,x.cost=z:=⟨_,rfl⟩;obtain⟨pi,hpi⟩:∃z,x.prio=z:=⟨_,rfl⟩;have hB:∀wq,SlAt uc 1 wq x.b.a x.b.l→SlAt uc 1 wq y.b.a y.b.l→Calls Tryz.prog 41 #[.slice x.b.a nb x.b.c,.slice y.b.a nb y.b.c] wq fun e w'=>e= .returned (.bool true)∧Mod (fun _=>False) wq w':=fun wq h1 h2=>by
  have h:=sameB_c x.b.a y.b.a x.b.l y.b.l x.b.c y.b.c wq h1 h2 (by have:=HX.out.1.2;omega);rw[e1,hnb]at h;simpa using h
 have hR:∀wq,SlAt rcr 34 wq x.ro.a x.ro.l→SlAt rcr 34 wq y.ro.a y.ro.l→Calls Tryz.prog 42 #[.slice x.ro.a nr x.ro.c,.slice y.ro.a nr y.ro.c] wq fun e w'=>e= .returned (.bool true)∧Mod (fun _=>False) wq w':=fun wq h1 h2=>by
  rw[e3]at h2;have h:=sameRo_c x.ro.a y.ro.a x.ro.l x.ro.c y.ro.c wq h1 h2 (by have:=HX.out.2.2.2;omega);rw[hnr]at h;exact h
 have HB:=Hi hB;have HR:=Hi hR;have HE2:=Hi e2;have x0:(rdr x)[0]? =some (.slice x.b.a nb x.b.c):=by rw[rdr0,hnb]
 have y0:(rdr y)[0]? =some (.slice y.b.a nb y.b.c):=by rw[rdr0,e1,hnb]
 have x41:(rdr x)[41]? =some (.slice x.ro.a nr x.ro.c):=by rw[rdr41,hnr]
 have y41:(rdr y)[41]? =some (.slice y.ro.a nr y.ro.c):=by rw[rdr41,e3,hnr]
 have xb:(rdr x).extract 42 45=bgR x.un x.pr x.bad.toInt:=rdr_bg x;have yb:(rdr y).extract 42 45=bgR x.un x.pr x.bad.toInt:=by rw[rdr_bg,e4,e5,e6]
 have x45:(rdr x)[45]? =some (u64v fe):=by rw[show(rdr x)[45]? =some (u64v x.fee)from mx_post 6,hfe]
 have y45:(rdr y)[45]? =some (u64v fe):=by rw[show(rdr y)[45]? =some (u64v y.fee)from mx_post 6,e7,hfe]
 have x46:(rdr x)[46]? =some (u64v co):=by rw[rdr46,hco]
 have y46:(rdr y)[46]? =some (u64v co):=by rw[rdr46,e8,hco]
 have x47:(rdr x)[47]? =some (u64v pi):=by rw[rdr47,hpi]
 have y47:(rdr y)[47]? =some (u64v pi):=by rw[rdr47,e9,hpi]
 have x0':∀h:0<(rdr x).size,(rdr x)[0]= .slice x.b.a nb x.b.c:=fun h=>at_get x0 h;have y0':∀h:0<(rdr y).size,(rdr y)[0]= .slice y.b.a nb y.b.c:=fun h=>at_get y0 h;have x41':∀h:41<(rdr x).size,(rdr x)[41]= .slice x.ro.a nr x.ro.c:=fun h=>at_get x41 h;have y41':∀h:41<(rdr y).size,(rdr y)[41]= .slice y.ro.a nr y.ro.c:=fun h=>at_get y41 h;have x45':∀h:45<(rdr x).size,(rdr x)[45]=u64v fe:=fun h=>at_get x45 h;have y45':∀h:45<(rdr y).size,(rdr y)[45]=u64v fe:=fun h=>at_get y45 h;have x46':∀h:46<(rdr x).size,(rdr x)[46]=u64v co:=fun h=>at_get x46 h;have y46':∀h:46<(rdr y).size,(rdr y)[46]=u64v co:=fun h=>at_get y46 h;have x47':∀h:47<(rdr x).size,(rdr x)[47]=u64v pi:=fun h=>at_get x47 h;have y47':∀h:47<(rdr y).size,(rdr y)[47]=u64v pi:=fun h=>at_get y47 h;have heb:=eqBg x.un x.pr x.bad.toInt;clear hx hy hxy e1 e2 e3 e4 e5 e6 e7 e8 e9 hnb hnr hfe hco hpi hB hR;go_enter Tryz.func10,Tryz.ntmps10;go_upto_region 0 with fail;refine ZP0 [3,3,0] ?_;refine Zb fun p2 hp2=> ?_;refine Zb fun p3 hp3=> ?_;obtain⟨ne_p3_p2,hp3⟩:=Bx.set_none hp3;refine Zv ?_;refine TD.nil (fun w1 hr=> ?_);obtain⟨gp2,kp2⟩:=hr.b p2 (by first|exact Bx.set_same _ _ _|(simp only[Bx.set_ne _ (Ne.symm ne_p3_p2),Bx.set_ne _ ne_p3_p2,Bx.set_same];rfl));obtain⟨gp3,kp3⟩:=hr.b p3 (by first|exact Bx.set_same _ _ _|(simp only[Bx.set_ne _ (Ne.symm ne_p3_p2),Bx.set_ne _ ne_p3_p2,Bx.set_same];rfl));have HM1:=Hi hr.mod;clear hr;go_upto_region 1 with fail;have Lkp2:=Ls kp2;have Lkp3:=Ls kp3;refine ZR0 (fun _ _ v=>v= .bool true) [0,1,0,1,2,0,0,1,0,1,2,0,0,0,1,0,1,2,0,0,0,1,0,1,0,0,0,0,1,0,1,0,0,0,0,1,0,1,0,0,0,0,1,0,1,0,0,0] ?_
 iterate 4 first|refine Zv ?_|refine Zd ?_
 (refine Zc ?_ (s:=by intro wq hSq;exact(HB.out wq (HX.out.1.1.mod0 (HM1.out.then0 hSq)) (HY.out.1.1.mod0 (HM1.out.then0 hSq))).mono (fun e w' h=>⟨_,h.1,rfl,h.2⟩));rintro _ hC;subst hC;try simp only[zL])
 iterate 5 first|refine Zv ?_|refine Zd ?_
 (refine Zc ?_ (s:=by intro wq hSq;exact(sameTx_c x y wq (HX.out.2.1.mod0 (HM1.out.then0 hSq)) (HY.out.2.1.mod0 (HM1.out.then0 hSq)) HE2.out).mono (fun e w' h=>⟨_,h.1,rfl,h.2⟩));rintro _ hC;subst hC;try simp only[zL])
 iterate 6 first|refine Zv ?_|refine Zd ?_
 (refine Zc ?_ (s:=by intro wq hSq;exact(HR.out wq (HX.out.2.2.1.mod0 (HM1.out.then0 hSq)) (HY.out.2.2.1.mod0 (HM1.out.then0 hSq))).mono (fun e w' h=>⟨_,h.1,rfl,h.2⟩));rintro _ hC;subst hC;try simp only[zL])
 iterate 30 first|refine Zv ?_|refine Zd ?_
 refine TD.nil (fun w2 hr=> ?_);replace kp2:=hr.q kp2;replace kp3:=hr.q kp3;have HM2:=Hi (HM1.out.then0 hr.mod);clear hr;go_wp2_with fail;go_ret;exact⟨rfl,HM2.out⟩
end
section
attribute [local go_sem↓] wlRdy ldRdy stRdy
attribute [local go_sem] zTc_size zTc_ext zTc_all zTc_all0 rdr_size rdr_all rdr_one zRdy_size zRdy_one
structure ArgB (w:World) (a:Option Addr) (l:List UInt8) (c:Nat):Prop where
 at_:SlAt uc 1 w a l
 le:l.length≤c
 nn:a=none→c=0
 inn:∀x,a=some x→x.block<w.heap.size
theorem ArgB.mod0 {w w':World} {a:Option Addr} {l:List UInt8} {c:Nat} (h:ArgB w a l c) (hm:Mod (fun _=>False) w w'):ArgB w' a l c:=⟨h.at_.mod0 hm,h.le,h.nn,fun x e=>Nat.lt_of_lt_of_le (h.inn x e) hm.size⟩
theorem great_no {n:Nat} {l:List TbR} (h:greatB n l=false):n≤5000∧l.length≤20∧∀x∈l,x.s.l.length≤400:=by
 unfold greatB at h;simp only[Bool.or_eq_false_iff,decide_eq_false_iff_not,List.any_eq_false,decide_eq_true_eq]at h;exact⟨by omega,by omega,fun x hx=>by have:=h.2.2 x hx;omega⟩
theorem TaOk.f {w:World} {x:TbR} (h:TaOk w x) (hl:x.s.l.length≤400):TaF w x:=⟨h.1.1,hl,h.2.2,by
 by_cases hx:x.s.l=[]
 ·exact .inl hx
 ·exact .inr fun g o e=>(h.1.2.2.2.1 _ e).resolve_right hx⟩
theorem WirP.out {w w':World} {l:List UInt8} (h:WirP w l .outgrown w'):False:=by
 unfold WirP at h;split at h
 ·obtain⟨_,_,h,_⟩:=h;cases h
 ·cases h.2
theorem WirP.pan {w w':World} {l:List UInt8} {ch:_} (h:WirP w l (.panicked ch) w'):False:=by
 unfold WirP at h;split at h
 ·obtain⟨_,_,h,_⟩:=h;cases h
 ·cases h.2
end
section
attribute [local go_sem↓] wlRdy ldRdy stRdy
attribute [local go_sem] zTc_size zTc_ext zTc_all zTc_all0 rdr_size rdr_all rdr_one zRdy_size zRdy_one
def TasOk (w:World) (L:List TbR):Prop:=∀x∈L,TaOk w x
theorem TasOk.mod0 {w w':World} {L:List TbR} (h:TasOk w L) (hm:Mod (fun _=>False) w w'):TasOk w' L:=fun x hx=>by
 obtain⟨⟨h1,h2,h3,h4,h5⟩,h6⟩:=h x hx;exact⟨⟨h1.mod0 hm,fun _ _=>trivial,h3,fun y hy=>(h4 y hy).imp_left (fun q=>Nat.lt_of_lt_of_le q hm.size),h5⟩,h6⟩
end
section
attribute [local go_sem] txr2 txr5 txr2' txr5' txr_hd zTc_size zTc_ext zTc_all zTc_all0
def RwhoP (w:World) (l:List UInt8) (e:Ending) (w':World):Prop:=Mod (fun _=>False) w w'∧match wholeP l with
 | .ok x=>∃r,e= .returned (.tuple #[.agg (txr r),i64n 0])∧TxLd w.heap.size w' r∧txP r=x∧TxB x
 | .error n=>e= .returned (.tuple #[.agg zTc,i64n n])
theorem rwhole_c {a:Option Addr} {l:List UInt8} {c:Nat} (w:World) (hl:SlAt uc 1 w a l) (hc:l.length≤c) (hn:a=none→c=0) (hln:l.length≤900000) (hin:∀x,a=some x→x.block<w.heap.size):
  Calls Tryz.prog 55 #[.slice a l.length c] w (RwhoP w l):=by
 have HG:=Hi (fun w1 (m:Mod (fun _=>False) w w1)=>rpget_c (c:=c) w1 (hl.mod0 m) hc hn hln (by intro x h;exact Nat.lt_of_lt_of_le (hin x h) m.size));have hG:=HG.out;obtain⟨ll,hll⟩:∃ll,l.length=ll:=⟨_,rfl⟩;rw[hll]at hG;have HG2:=Hi hG;have HL:=Hi hll;rw[hll];have hbt:=bTx0;have ha1:=alTx;clear hl hc hn hln hin hG HG hll;go_enter Tryz.func55,Tryz.ntmps55;go_upto_region 0 with fail;refine ZP0 [3,0] ?_;refine Za alTc fun p2 hp2=> ?_;refine Zv ?_;refine TD.nil (fun w1 hr=> ?_);obtain⟨gp2,kp2⟩:=hr.b p2;have HM1:=Hi hr.mod;clear hr;by_cases hbig:1232<ll
 ·have HE:Hid (wholeP l= .error 3):=Hi (by unfold wholeP;rw[if_pos (by rw[HL.out];exact hbig)]);go_upto_region 2 with fail;have Lkp2:=Ls kp2;refine ZP0 [0,5,0] ?_;refine Zu hbt ?_;refine Zi fun w2 hr=> ?_;replace kp2:=hr.q kp2;have HM8:=Hi (HM1.out.then0 hr.mod);clear hr;refine ZS ?_;refine ZM kp2 fun wn kp2 mS=> ?_;have HM9:=Hi (HM8.out.thenB mS (.inl gp2));clear mS;refine Ze ?_;refine TE.nil ?_;go_wp2_with fail;refine bodyPost_ret (results_ct rfl rfl (ldTcZ kp2)) rfl ?_;unfold RwhoP;rw[HE.out];exact⟨HM9.out,rfl⟩
 ·have hd1:=Df hbig;have hG:=HG2.out w1 HM1.out;go_upto_region 3 with fail;refine region_seq 10 rfl ?_;simp only[List.range,List.range.loop];refine Zq ?_;refine ZC hG ?hout (fun vn wn hR=> ?hret) (fun ch wn hR=> ?hpan)
  case hout=>
   intro w' h;unfold RpgetP at h;split at h
   ·obtain⟨_,_,h,_⟩:=h;cases h
   ·cases h.2
  case hpan=>
   exfalso;unfold RpgetP at hR;split at hR
   ·obtain⟨_,_,h,_⟩:=hR;cases h
   ·cases hR.2
  case hret=>
  obtain⟨hm,hr⟩:=hR;clear hG;have HM3:=Hi (HM1.out.trans hm);have HP2:=Hi (Ls kp2);replace kp2:=hm.at0 kp2;cases hres:pTx l with
  |error e0=>
   rw[hres]at hr;simp only at hr;cases hr;have he0:((e0:Int) !=0)=true:=by
    have h1:=NE.tx l;rw[NE,hres]at h1;simpa using fun e=>h1 (by rw[e])
   have HE:Hid (wholeP l= .error e0):=Hi (by unfold wholeP;rw[if_neg (by rw[HL.out];exact hbig),hres]);clear hm hres;(try simp only[zL]);obtain⟨w4,rfl⟩:∃w4:World,w4=wn:=⟨_,rfl⟩
   iterate 4 refine Zq ?_
   (refine sq_alloc (by simp only[zK];rfl) (by rfl) rfl alTx (fun p4 wn gp4 kp4 mp4=> ?n13);try simp only[zL]);refine ZT ?_;refine ZQ kp4 fun wn kp4 mS=> ?_
   iterate 2 refine Zq ?_
   refine sq_nil ?_;have HM5:Hid (Mod (fun _=>False) w wn):=Hi ((HM3.out.trans mp4).then mS (fun i hi e=>by have:=HM3.out.size;omega));have hp24:p2<w4.heap.size:=Ls kp2;have kp2':wn.heap[p2]? =some (.cells zTc 35 (0,0)):=mS.at (mp4.at0 kp2) (fun e=>by omega);have kp2:=kp2';clear mS mp4 kp4 kp2' hp24 gp4;obtain⟨w5,rfl⟩:∃w5:World,w5=wn:=⟨_,rfl⟩;go_upto_region 5 with fail;have Lkp2:=Ls kp2;refine ZP0 [0,0,5,0] ?_;refine Zu hbt ?_;refine Zv ?_;refine Zi fun w6 hr=> ?_;replace kp2:=hr.q kp2;have HM8:=Hi (HM5.out.then0 hr.mod);clear hr;refine ZS ?_;refine ZM kp2 fun wn kp2 mS=> ?_;have HM9:=Hi (HM8.out.thenB mS (.inl gp2));clear mS;refine Ze ?_;refine TE.nil ?_;go_wp2_with fail;refine bodyPost_ret (results_ct rfl rfl (ldTcZ kp2)) rfl ?_;unfold RwhoP;rw[HE.out];exact⟨HM9.out,rfl⟩
  |ok y=>
   obtain⟨x,k⟩:=y;rw[hres]at hr;obtain⟨r,hv0,hO,hrx⟩:=hr;cases hv0;have HB:=Hi (PO.tx x k hres).2;have HO:=Hi hO;have HRX:=Hi hrx;clear hm hO hrx;(try simp only[zL]);obtain⟨w4,rfl⟩:∃w4:World,w4=wn:=⟨_,rfl⟩
   iterate 4 refine Zq ?_
   (refine sq_alloc (by simp only[zK];rfl) (by rfl) rfl alTx (fun p4 wn gp4 kp4 mp4=> ?n26);try simp only[zL]);refine ZT ?_;refine ZQ kp4 fun wn kp4 mS=> ?_
   iterate 2 refine Zq ?_
   refine sq_nil ?_;replace kp4:wn.heap[p4]? =some (.cells (txr r) 35 (0,0)):=kp4;have m4:Mod (fun _=>False) w4 wn:=mp4.then mS (fun i hi e=>by omega);have HM5:=Hi (HM3.out.trans m4);have HO5:=Hi (HO.out.mod0 m4);have kp2':=m4.at0 kp2;clear kp2;have kp2:=kp2';clear mS mp4 kp2' gp4 m4;obtain⟨w5,rfl⟩:∃w5:World,w5=wn:=⟨_,rfl⟩;by_cases hk:k<ll
   ·have HE:Hid (wholeP l= .error 4):=Hi (by unfold wholeP;rw[if_neg (by rw[HL.out];exact hbig),hres];simp only;rw[if_pos (by rw[HL.out];exact hk)]);clear hres;go_upto_region 7 with fail;have Lkp2:=Ls kp2;refine ZP0 [0,5,0] ?_;refine Zu hbt ?_;refine Zi fun w6 hr=> ?_;replace kp2:=hr.q kp2;have HM8:=Hi (HM5.out.then0 hr.mod);clear hr;refine ZS ?_;refine ZM kp2 fun wn kp2 mS=> ?_;have HM9:=Hi (HM8.out.thenB mS (.inl gp2));clear mS;refine Ze ?_;refine TE.nil ?_;go_wp2_with fail;refine bodyPost_ret (results_ct rfl rfl (ldTcZ kp2)) rfl ?_;unfold RwhoP;rw[HE.out];exact⟨HM9.out,rfl⟩
   ·have HE:Hid (wholeP l= .ok x):=Hi (by unfold wholeP;rw[if_neg (by rw[HL.out];exact hbig),hres];simp only;rw[if_neg (by rw[HL.out];exact hk)]);have hd5:=Df hk;clear hres;go_upto_region 8 with fail;have Lkp2:=Ls kp2;have Lkp4:=Ls kp4;refine ZP0 [1,5,0] ?_;refine Zd ?_;refine Zi fun w6 hr=> ?_;replace kp2:=hr.q kp2;replace kp4:=hr.q kp4;have kp2old:=Hi kp2;have HM8:=Hi (HM5.out.then0 hr.mod);have HO6:=Hi (HO5.out.mod0 hr.mod);clear hr;refine ZS ?_;refine ZM kp2 fun wn kp2 mS=> ?_;have HM9:=Hi (HM8.out.thenB mS (.inl gp2));have HO9:=Hi ((HO6.out.mod mS (fun g C E hg hk hE hs=>by
     have e':g=p2:=hs;subst e';rw[kp2old.out]at hk;cases hk
     revert hE
     decide)).base HM1.out.size)
    clear mS;refine Ze ?_;refine TE.nil ?_;go_wp2_with fail;refine bodyPost_ret (results_ct rfl rfl (ldTxr kp2)) rfl ?_;unfold RwhoP;rw[HE.out];exact⟨HM9.out,r,rfl,HO9.out,HRX.out,HB.out⟩
end
section
attribute [local go_sem] txr2 txr5 txr2' txr5' txr_hd lor32 lor33 lor32' lor33' zLo_size lor_size lor_one
theorem rtotal_c (x:RdR) (w:World) (h:TxRd w x):Calls Tryz.prog 101 #[.agg (txr x)] w fun e w'=>e= .returned (.int .i64 ((totP (txP x):Nat):Int))∧Mod (fun _=>False) w w':=by
 rw[tot_eq];have HX:=Hi h;have hbK:x.ks.l.length≤1000000:=h.2.1.2;have hbL:x.lks.l.length≤1000000:=h.2.2.2.2.1;have hT:=loSum_le (l:=x.lks.l) (fun y hy=>⟨(h.2.2.2.2.2 y hy).1.2,(h.2.2.2.2.2 y hy).2.2⟩);have HT:=Hi hT;clear h hT;go_enter Tryz.func101,Tryz.ntmps101;go_upto_region 0 with fail;refine ZP0 [3,0] ?_;refine Zb fun p1 hp1=> ?_;refine Zv ?_;refine TD.nil (fun w1 hr=> ?_);obtain⟨gp1,kp1⟩:=hr.b p1;have M1:=Hi hr.mod;clear hr;go_wp2_with fail;go_loopw [3,4] (fun s3 s4 ws=>∃i t:Nat,i≤x.lks.l.length∧s4= .int .i64 (i:Int)∧s3= .int .i64 (t:Int)∧Hid (t=x.ks.l.length+loSum (x.lks.l.take i))∧Mod (fun _=>False) w1 ws) (fun _ s4 _=>x.lks.l.length-(intOf s4).toNat)
 case atStart=>exact⟨0,x.ks.l.length,by omega,rfl,rfl,Hi (by simp[loSum]),Mod.refl _ _⟩
 case round=>
  obtain⟨i,t,hi,rfl,rfl,HTT,hm⟩:=hrel;have kp1:=hm.at0 kp1;by_cases hlt:i<x.lks.l.length
  ·have hd:=Dt hlt;obtain⟨y,hy⟩:∃y,x.lks.l[i]? =some y:=⟨_,List.getElem?_eq_getElem (by omega)⟩;obtain⟨g,o,C,U,fr,hga,kg,he,hle⟩:=((HX.out.mod0 (M1.out.then0 hm)).2.2.2.1).block hy;have hy1:=(HX.out.2.2.2.2.2 y (List.mem_of_getElem? hy)).1.2;have hy2:=(HX.out.2.2.2.2.2 y (List.mem_of_getElem? hy)).2.2;have htb:t≤1000000+i*2000000:=by have:=HT.out i;have:=HTT.out;omega
   have HS:=Hi (loSum_snoc hy);obtain⟨a,ha⟩:∃a,y.w.l.length=a:=⟨_,rfl⟩;obtain⟨b,hb⟩:∃b,y.r.l.length=b:=⟨_,rfl⟩;rw[ha]at hy1;rw[hb]at hy2;have h32:C[o+i*34+32]? =some (.slice y.w.a a y.w.c):=by rw[←ha];exact cellC he (j:=32) (lor32 y)
   have h33:C[o+i*34+33]? =some (.slice y.r.a b y.r.c):=by rw[←hb];exact cellC he (j:=33) (lor33 y)
   have hw1:IntKind.i64.wrap ((t:Int)+(a:Int))=((t+a:Nat):Int):=by rw[IntKind.wrap_i64];omega
   obtain⟨s,hs⟩:∃s,t+a=s:=⟨_,rfl⟩;rw[hs]at hw1;have hw2:IntKind.i64.wrap ((s:Int)+(b:Int))=((s+b:Nat):Int):=by rw[IntKind.wrap_i64];omega
   clear hy;go_upto_region 5 with fail;have Lkp1:=Ls kp1;have Lkg:=Ls kg;refine ZP [0,0,0,1,0,0,0,1,0,0,0,0,1,0,0,0,1,0,0,0] ?_
   iterate 20 first|refine Zv ?_|refine Zd ?_
   refine TD.nil (fun w3 hr=> ?_);replace kp1:=hr.q kp1;replace kg:=hr.q kg;have hm3:=hm.then0 hr.mod;clear hr he hle kg;go_wp2_with fail;go_roundw
   case rel=>exact⟨i+1,s+b,by omega,by go_num,rfl,Hi (by have:=HTT.out;rw[HS.out];omega),hm3⟩
   case measure=>simp[intOf];omega
  ·have hd:=Df hlt;have HE:Hid (t=x.ks.l.length+loSum x.lks.l):=Hi (by
    have:=HTT.out;rw[List.take_of_length_le (by omega)]at this;exact this)
   go_wp2_with fail;go_ret;exact⟨by rw[HE.out];rfl,M1.out.then0 hm⟩
end
end Go.Proofs.YtiaehkkkcaeaiaaGreatDoor