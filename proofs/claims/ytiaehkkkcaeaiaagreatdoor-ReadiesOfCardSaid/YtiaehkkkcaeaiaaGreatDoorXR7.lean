/- The lemmas of the proof, part XO7: how the program and its data lie in memory, and what its functions do. -/
import Derived.Test.YtiaehkkkcaeaiaaGreatDoorXR6
import Derived.Lib.MinMax
import Derived.Lib.BitFns
import Derived.Lib.ItoaNum
import Derived.Lib.Strings
import Derived.Lib.Slices
import Derived.Lib.Small
import Derived.WalkMore
import Derived.OwnWalk
import Derived.Scope
import Derived.Lib.Bytes
import Derived.RangeFuncNested
import Derived.RangeFuncBox
import Derived.RangeFuncLeaves
import Derived.RangeFuncCalls
import Derived.Shelf.Abstract
import Derived.WalkKit
import Derived.OwnWalkIn
import Derived.TacticsInMore
import Derived.LoopNIn
import Derived.LoopIn
import Derived.Maps.AppendAt
import Derived.LaidEql
import Derived.Stop.Asserts
import Derived.RowKitTokens
import Derived.Lib.IfaceEq
set_option linter.unusedSimpArgs false
set_option linter.unusedVariables false
set_option linter.unusedSectionVars false

set_option maxRecDepth 100000
set_option maxHeartbeats 6400000
namespace Go.Proofs.YtiaehkkkcaeaiaaGreatDoor
open Go.RowKit
open Go.ChangeMaps (setBlock)
attribute [local go_sem↓] eqKey1 ldKey ldSg ldTc stKey stSg stTc wlKey wlTc
attribute [local go_sem] Value.cells cell_blk frozen_blk kc_ext kc_one kc_one0 kc_size one_bool one_int one_map one_ptr one_slice sgc_ext sgc_one' sgc_one0 sgc_size txr0 txr0' txr38 txr38' txr39 txr39' txr_all txr_one txr_one' txr_size zKey_size zTx_size
section
attribute [local go_sem↓] wlMsg ldMsg stMsg wlIn ldIn stIn
attribute [local go_sem] mgx_size mgx_ext mgx_one mgx_one0 mg0 mg1 mg2 mg3 mg4 mg37 mg38 mg37' mg38' mgx_hd mgx_hs mg0' mg4' inrB_size inrB_all inrB_one inr2B inr2B'
theorem ldBud (w:World) (b o:Nat):(Instr.loadAt 39 (.pointer (some ⟨b,o,none⟩))).run Tryz.prog w=
   match w.heap[b]? with
   |some (.cells cs _ _)=>if o+3≤cs.size then .ok (.agg (cs.extract o (o+3))) w else farL Tryz.prog w 39 b o
   |_=>farL Tryz.prog w 39 b o:=load_rule (d:=_) Tryz.underlying39 rfl (by kernel_rfl) w b o
theorem stBud (w:World) (b o:Nat) (xs:Array Value):(Instr.storeAt 39 (.pointer (some ⟨b,o,none⟩)) (.agg xs)).run Tryz.prog w=
   match w.heap[b]? with
   |some (.cells cs U (0,0))=>
    if o+3≤cs.size∧xs.size=3∧xs.all (·.oneCell')=true then .ok () (setBlock w b (.cells (if o=0∧3=cs.size then xs else wr cs o xs.toList) U (0,0)))else farS Tryz.prog w 39 b o (.agg xs)
   |_=>farS Tryz.prog w 39 b o (.agg xs):=store_rule (by kernel_rfl) w b o xs
theorem alBud (w:World):(Instr.alloc 39 true (.tuple #[])).run Tryz.prog w= .ok (.pointer (some ⟨w.heap.size,0,none⟩)) (w.alloc (.cells #[.int .u64 0,.int .u64 0,.int .i64 0] 39)):=
 run_alloc_row (z:= .agg #[.int .u64 0,.int .u64 0,.int .i64 0]) (fun w=>by kernel_rfl) w
theorem alSd (w:World):(Instr.alloc 122 true (.tuple #[])).run Tryz.prog w= .ok (.pointer (some ⟨w.heap.size,0,none⟩)) (w.alloc (.cells #[.int .u64 0,.int .u64 0] 122)):=
 run_alloc_row (z:= .agg #[.int .u64 0,.int .u64 0]) (fun w=>by kernel_rfl) w
theorem alIs (w:World):(Instr.alloc 123 true (.tuple #[])).run Tryz.prog w= .ok (.pointer (some ⟨w.heap.size,0,none⟩)) (w.alloc (.cells #[.bool false,.bool false] 123)):=
 run_alloc_row (z:= .agg #[.bool false,.bool false]) (fun w=>by kernel_rfl) w
attribute [local go_sem↓] ldBud stBud
theorem zInB_size:zIn.size=3:=rfl
attribute [local go_sem] zInB_size
theorem bBud0 (w:World):(Instr.build 39 #[(2,.int .i64 (-1))]).run Tryz.prog w= .ok (.agg #[.int .u64 0,.int .u64 0,.int .i64 (-1)]) w:=by kernel_rfl
def DaF (w:World) (y:InR):Prop:=SlAt uc 1 w y.d.a y.d.l∧y.d.l.length≤y.d.c∧(y.d.a=none→y.d.c=0)∧y.d.l.length≤140737488355328
theorem told_three (d:List UInt8):∃(k:Int) (z:UInt64),toldV d= .tuple #[.int .i64 k,u64v z]∧((toldP d=none∧k= -1)∨(toldP d=some (0,z)∧k=0)∨(toldP d=some (1,z)∧k=1)):=by
 unfold toldV toldP;by_cases h1:d.length=5∧d[0]? =some 2
 ·exact⟨0,UInt64.ofNat (leV (d.drop 1)),by rw[if_pos h1];rfl,.inr (.inl ⟨by rw[if_pos h1],rfl⟩)⟩
 ·by_cases h2:d.length=9∧d[0]? =some 3
  ·exact⟨1,UInt64.ofNat (leV (d.drop 1)),by rw[if_neg h1,if_pos h2];rfl,.inr (.inr ⟨by rw[if_neg h1,if_pos h2],rfl⟩)⟩
  ·exact⟨-1,0,by rw[if_neg h1,if_neg h2];rfl,.inl ⟨by rw[if_neg h1,if_neg h2],rfl⟩⟩
theorem budL_n {m:MsP}:∀ {l:List InP} {s:BuP} {j:Nat},(budL m s j l).n≤s.n+l.length
 |[],s,j=>by simp[budL]
 |x::l,s,j=>by
  have h1:=budL_n (m:=m) (l:=l) (s:=budStep m s j x) (j:=j+1);have h2:(budStep m s j x).n≤s.n+1:=by
   unfold budStep;split
   ·simp
   ·split
    ·simp
    ·split
     ·simp
     ·split<;>simp
     ·split<;>simp
  rw[budL,List.length_cons];omega
def bu0:BuP:=⟨0,none,none,none⟩
def budR (s:BuP):Array Value:= #[u64v s.units,u64v s.price,.int .i64 s.badI]
theorem bud_snoc {m:MsP} {L:List InR} {i:Nat} {y:InR} (hy:L[i]? =some y):budL m bu0 0 ((L.take (i+1)).map inP)=budStep m (budL m bu0 0 ((L.take i).map inP)) i (inP y):=by
 obtain⟨hi,_⟩:=List.getElem?_eq_some_iff.1 hy;rw[List.take_add_one,hy];show budL m bu0 0 ((L.take i++[y]).map inP)=_;rw[List.map_append,List.map_cons,List.map_nil,budL_snoc,List.length_map,List.length_take,Nat.zero_add,Nat.min_eq_left (by omega)]
def BdA (p:Nat) (C:Array Value):Land:=fun T w=>T p∧w.heap[p]? =some (.cells C 39 (0,0))
theorem goodBd (p:Nat) (C:Array Value):Good (BdA p C):=Good.at _ _
theorem bd_st {p:Nat} {C D:Array Value} {T:Nat→Prop} {w:World} (i:Nat) (z:UInt64) (h:BdA p C T w) (hi:i<C.size) (hD:C.setIfInBounds i (u64v z)=D):∃w',(Instr.storeAt 37 (.pointer (some ⟨p,i,none⟩)) (u64v z)).run Tryz.prog w= .ok () w'∧Mod T w w'∧BdA p D T w':=by
 subst hD;exact⟨_,run_store_one h.2 (by kernel_rfl) hi rfl,(mod_set w p _).mono (fun i _ e=>by rw[e];exact h.1),h.1,heap_setBlock w _ (Ls h.2)⟩
theorem bud_some {n:Nat} {b:Option Nat} {p:Option UInt64} (v:UInt64):min (v.toNat:Int) 1400000=((BuP.units ⟨n,b,some v,p⟩).toNat:Int):=by
 unfold BuP.units;simp only[zE];split
 ·omega
 ·rw[show((1400000:UInt64).toNat:Int)=1400000 from rfl];omega
theorem bud_none {n:Nat} {b:Option Nat} {p:Option UInt64} {v:UInt64} (h:UInt64.ofNat n*200000=v):min (v.toNat:Int) 1400000=((BuP.units ⟨n,b,none,p⟩).toNat:Int):=by
 unfold BuP.units;simp only[Option.getD_none,h];split
 ·omega
 ·rw[show((1400000:UInt64).toNat:Int)=1400000 from rfl];omega
theorem budgetOf_c (x:RdR) (w:World) (hB:BudW w) (hK:SlAt kc 32 w x.ks.a x.ks.l) (hb:x.ks.l.length≤1000000) (hI:SlAt inr 3 w x.ins.a x.ins.l) (hD:∀y∈x.ins.l,DaF w y) (hib:x.ins.l.length≤1000000):
  Calls Tryz.prog 27 #[.agg (msr x)] w fun e w'=>e= .returned (.agg (budR (budP (msgP x))))∧Mod (fun _=>False) w w':=by
 have hwc:∀(y:InR) (wq:World),SlAt kc 32 wq x.ks.a x.ks.l→Calls Tryz.prog 73 #[.agg (mgx x.v0 x.h0 x.h1 x.h2 x.ks.a x.ks.l.length x.ks.c x.rc x.ins.a x.ins.l.length x.ins.c x.lks.a x.lks.l.length x.lks.c),.agg (inr y)] wq fun e w'=>e= .returned (.bool (wordP (msgP x) (inP y)))∧Mod (fun _=>False) wq w':=fun y wq h=>word_c x y wq h hb;obtain⟨n,hn⟩:∃n,x.ins.l.length=n:=⟨_,rfl⟩;rw[hn]at hib;simp only[hn]at hwc;have HX:=Hi (Ai hB (Ai hK (Ai hb (Ai hI (Ai hD hn)))));have hB0:=bBud0;show Calls Tryz.prog 27 #[.agg (mgx x.v0 x.h0 x.h1 x.h2 x.ks.a x.ks.l.length x.ks.c x.rc x.ins.a x.ins.l.length x.ins.c x.lks.a x.lks.l.length x.lks.c)] w _;rw[hn];obtain⟨kl,hkl⟩:∃kl,x.ks.l.length=kl:=⟨_,rfl⟩;rw[hkl]at hb⊢;simp only[hkl]at hwc;have HWC:=Hi hwc;have HKL:=Hi hkl;clear hB hK hI hD hn hkl hwc;go_enter Tryz.func27,Tryz.ntmps27;go_upto_region 0 with fail;refine ZP0 [3,3] ?_;refine Zb fun p1 hp1=> ?_;refine Za alBud fun p2 hp2=> ?_;obtain⟨ne_p2_p1,hp2⟩:=Bx.set_none hp2;refine TD.nil (fun w1 hr=> ?_);obtain⟨gp1,kp1⟩:=hr.b p1 (by first|exact Bx.set_same _ _ _|(simp only[Bx.set_ne _ (Ne.symm ne_p2_p1),Bx.set_ne _ ne_p2_p1,Bx.set_same];rfl));obtain⟨gp2,kp2⟩:=hr.b p2 (by first|exact Bx.set_same _ _ _|(simp only[Bx.set_ne _ (Ne.symm ne_p2_p1),Bx.set_ne _ ne_p2_p1,Bx.set_same];rfl));have HM1:=Hi hr.mod;have HG:=Hi gp1;clear hr;go_upto_region 1 with fail;have Lkp1:=Ls kp1;have Lkp2:=Ls kp2;refine ZP0 [0,3,4] ?_;refine Zu hB0 ?_;refine Za alBud fun p3 hp3=> ?_;refine Zt ?_;refine TD.nil (fun w2 hr=> ?_);replace kp1:=hr.q kp1;replace kp2:=hr.q kp2;obtain⟨gp3,kp3⟩:=hr.b p3;have HM2:=Hi (HM1.out.then0 hr.mod);clear hr;go_upto_region 2 with fail;have Lkp1:=Ls kp1;have Lkp2:=Ls kp2;have Lkp3:=Ls kp3;refine ZP0 [3] ?_;refine Za alSd fun p4 hp4=> ?_;refine TD.nil (fun w3 hr=> ?_);replace kp1:=hr.q kp1;replace kp2:=hr.q kp2;replace kp3:=hr.q kp3;obtain⟨gp4,kp4⟩:=hr.b p4;have HM3:=Hi (HM2.out.then0 hr.mod);clear hr;go_upto_region 3 with fail;have hp4:=Ls kp4;have Lkp1:=Ls kp1;have Lkp2:=Ls kp2;have Lkp3:=Ls kp3;have Lkp4:=Ls kp4;refine ZP0 [3] ?_;refine Za alIs fun p5 hp5=> ?_;refine TD.nil (fun w4 hr=> ?_);replace kp1:=hr.q kp1;replace kp2:=hr.q kp2;replace kp3:=hr.q kp3;replace kp4:=hr.q kp4;obtain⟨gp5,kp5⟩:=hr.b p5;have HM4:=Hi (HM3.out.then0 hr.mod);have HG3:Hid (w.heap.size≤p1∧w.heap.size≤p2∧w.heap.size≤p3∧w.heap.size≤p4∧w.heap.size≤p5∧p1<p3∧p2<p3∧p3<p4∧p4<p5):=Hi (by
  have:=HM1.out.size;have:=HM2.out.size;have:=HM3.out.size;refine⟨?_,?_,?_,?_,?_,?_,?_,?_,?_⟩<;>omega)
 clear hr;go_upto_region 5 with fail;have Lkp1:=Ls kp1;have Lkp2:=Ls kp2;have Lkp3:=Ls kp3;have Lkp4:=Ls kp4;have Lkp5:=Ls kp5;refine ZP0 [0,1,0,0] ?_
 iterate 4 first|refine Zv ?_|refine Zd ?_
 refine TD.nil (fun w5 hr=> ?_);replace kp1:=hr.q kp1;replace kp2:=hr.q kp2;replace kp3:=hr.q kp3;replace kp4:=hr.q kp4;replace kp5:=hr.q kp5;have HM5:=Hi (HM4.out.then0 hr.mod);clear hr;go_wp2_with fail;go_loopw [6,15] (fun s6 s15 ws=>∃(i:Nat) (s:BuP),i≤n∧s15= .int .i64 (i:Int)∧s6= .int .u64 (s.n:Int)∧Hid (s=budL (msgP x) bu0 0 ((x.ins.l.take i).map inP))∧Hid (Mod (fun _=>False) w ws)∧
  ws.heap[p1]? =some (.cells (mgx x.v0 x.h0 x.h1 x.h2 x.ks.a kl x.ks.c x.rc x.ins.a n x.ins.c x.lks.a x.lks.l.length x.lks.c) 33 (0,0))∧ws.heap[p2]? =some (.cells #[.int .u64 0,.int .u64 0,.int .i64 0] 39 (0,0))∧
  ws.heap[p3]? =some (.cells #[.int .u64 0,.int .u64 0,.int .i64 s.badI] 39 (0,0))∧ws.heap[p4]? =some (.cells #[u64v (s.u.getD 0),u64v (s.p.getD 0)] 122 (0,0))∧ws.heap[p5]? =some (.cells #[.bool s.u.isSome,.bool s.p.isSome] 123 (0,0))) (fun _ s15 _=>n-(intOf s15).toNat)
 case atStart=>exact⟨0,bu0,Nat.zero_le _,rfl,rfl,Hi (by simp[budL]),HM5,kp1,kp2,kp3,kp4,kp5⟩
 case round=>
  clear kp1 kp2 kp3 kp4 kp5;obtain⟨i,s,hi,rfl,rfl,HS,HM,kp1,kp2,kp3,kp4,kp5⟩:=hrel;have hsn:s.n≤n:=by
   rw[HS.out];have h1:=budL_n (m:=msgP x) (l:=(x.ins.l.take i).map inP) (s:=bu0) (j:=0);have h2:((x.ins.l.take i).map inP).length≤n:=by
    rw[List.length_map,List.length_take];omega
   have h3:bu0.n=0:=rfl;omega
  by_cases hlt:i<n
  ·have hd:=Dt hlt;obtain⟨y,hy⟩:∃y,x.ins.l[i]? =some y:=⟨_,List.getElem?_eq_getElem (by have:=HX.out.2.2.2.2.2;omega)⟩;obtain⟨g,o,C,U,fr,hga,kg,he,hle⟩:=(HX.out.2.2.2.1.mod0 HM.out).block hy;have HY:=Hi (Ai (bud_snoc (m:=msgP x) hy) (HX.out.2.2.2.2.1 y (List.mem_of_getElem? hy)));obtain⟨nn,bd,u,p⟩:=s;simp only at kp3 kp4 kp5 hsn;clear hy;go_upto_region 7 with fail;have Lkp1:=Ls kp1;have Lkp2:=Ls kp2;have Lkp3:=Ls kp3;have Lkp4:=Ls kp4;have Lkp5:=Ls kp5;have Lkg:=Ls kg;refine ZP0 [0,0,1,3,0,4] ?_
   iterate 3 first|refine Zv ?_|refine Zd ?_
   refine Za alIn fun p8 hp8=> ?_;refine Zv ?_;refine Zt ?_;refine TD.nil (fun w6 hr=> ?_);replace kp1:=hr.q kp1;replace kp2:=hr.q kp2;replace kp3:=hr.q kp3;replace kp4:=hr.q kp4;replace kp5:=hr.q kp5;replace kg:=hr.q kg;obtain⟨gp8,kp8⟩:=hr.b p8;have HM6:=Hi (HM.out.then0 hr.mod);clear hr he hle kg hga;obtain⟨kk,zz,htv,hcase⟩:=told_three y.d.l;have HTV:=Hi (Ai htv hcase);clear htv hcase;go_upto_region 8 with fail;have Lkp1:=Ls kp1;have Lkp2:=Ls kp2;have Lkp3:=Ls kp3;have Lkp4:=Ls kp4;have Lkp5:=Ls kp5;have Lkp8:=Ls kp8;refine ZR0 (fun _ _ v=>v= .tuple #[.int .i64 kk,u64v zz]) [0,1,2,0,0,0,0,0] ?_;refine Zv ?_;refine Zd ?_;(refine Zc ?_ (s:=by intro wq hSq;exact(told_c wq (HY.out.2.1.mod0 (HM6.out.then0 hSq)) HY.out.2.2.1 HY.out.2.2.2.1 HY.out.2.2.2.2 (HX.out.1.mod0 (HM6.out.then0 hSq))).mono (fun e w' h=>⟨_,h.1,HTV.out.1,h.2⟩));rintro _ hC;subst hC;try simp only[zL])
   iterate 5 refine Zv ?_
   refine TD.nil (fun w7 hr=> ?_);replace kp1:=hr.q kp1;replace kp2:=hr.q kp2;replace kp3:=hr.q kp3;replace kp4:=hr.q kp4;replace kp5:=hr.q kp5;replace kp8:=hr.q kp8;have HM7:=Hi (HM6.out.then0 hr.mod);clear hr;obtain⟨wd,hwd⟩:∃wd,wordP (msgP x) (inP y)=wd:=⟨_,rfl⟩;have HWD:=Hi hwd;clear hwd;go_upto_region 10 with fail;have Lkp1:=Ls kp1;have Lkp2:=Ls kp2;have Lkp3:=Ls kp3;have Lkp4:=Ls kp4;have Lkp5:=Ls kp5;have Lkp8:=Ls kp8;refine ZR0 (fun _ _ v=>v= .bool wd) [1,1,2,0,0] ?_
   iterate 2 refine Zd ?_
   (refine Zc ?_ (s:=by intro wq hSq;exact(by have h:=HWC.out y wq (HX.out.2.1.mod0 (HM7.out.then0 hSq));rw[HWD.out]at h;exact h.mono (fun e w' h=>⟨_,h.1,rfl,h.2⟩)));rintro _ hC;subst hC;try simp only[zL])
   iterate 2 refine Zv ?_
   refine TD.nil (fun w8 hr=> ?_);replace kp1:=hr.q kp1;replace kp2:=hr.q kp2;replace kp3:=hr.q kp3;replace kp4:=hr.q kp4;replace kp5:=hr.q kp5;replace kp8:=hr.q kp8;have HM8:=Hi (HM7.out.then0 hr.mod);clear hr kp8;cases wd with
   |false=>
    have hw1:IntKind.u64.wrap ((nn:Int)+1)=((nn+1:Nat):Int):=by rw[IntKind.wrap_u64];omega
    have HSS:Hid ((⟨nn+1,bd,u,p⟩:BuP)=budL (msgP x) bu0 0 ((x.ins.l.take (i+1)).map inP)):=Hi (by
     rw[HY.out.1,←HS.out,budStep,HWD.out];rfl)
    go_upto_region 11 with fail;have Lkp1:=Ls kp1;have Lkp2:=Ls kp2;have Lkp3:=Ls kp3;have Lkp4:=Ls kp4;have Lkp5:=Ls kp5;refine ZP0 [0,0,0] ?_
    iterate 3 refine Zv ?_
    refine TD.nil (fun w9 hr=> ?_);replace kp1:=hr.q kp1;replace kp2:=hr.q kp2;replace kp3:=hr.q kp3;replace kp4:=hr.q kp4;replace kp5:=hr.q kp5;have HME:=Hi (HM8.out.then0 hr.mod);clear hr;go_wp2_with fail;go_roundw
    case rel=>exact⟨i+1,⟨nn+1,bd,u,p⟩,by omega,by go_num,rfl,HSS,HME,kp1,kp2,kp3,kp4,kp5⟩
    case measure=>simp[intOf];omega
   |true=>
    cases bd with
    |some j=>
     have hdj:decide ((j:Int)≥0)=true:=Dt (by omega);replace kp3:w8.heap[p3]? =some (.cells #[.int .u64 0,.int .u64 0,.int .i64 (j:Int)] 39 (0,0)):=kp3;have HSS:Hid ((⟨nn,some j,u,p⟩:BuP)=budL (msgP x) bu0 0 ((x.ins.l.take (i+1)).map inP)):=Hi (by
      rw[HY.out.1,←HS.out,budStep,HWD.out];rfl)
     go_upto_region 12 with fail;have Lkp1:=Ls kp1;have Lkp2:=Ls kp2;have Lkp3:=Ls kp3;have Lkp4:=Ls kp4;have Lkp5:=Ls kp5;refine ZP0 [0,1,0,0] ?_
     iterate 4 first|refine Zv ?_|refine Zd ?_
     refine TD.nil (fun w9 hr=> ?_);replace kp1:=hr.q kp1;replace kp2:=hr.q kp2;replace kp3:=hr.q kp3;replace kp4:=hr.q kp4;replace kp5:=hr.q kp5;have HME:=Hi (HM8.out.then0 hr.mod);clear hr;go_wp2_with fail;go_roundw
     case rel=>exact⟨i+1,⟨nn,some j,u,p⟩,by omega,by go_num,rfl,HSS,HME,kp1,kp2,kp3,kp4,kp5⟩
     case measure=>simp[intOf];omega
    |none=>
     replace kp3:w8.heap[p3]? =some (.cells #[.int .u64 0,.int .u64 0,.int .i64 (-1)] 39 (0,0)):=kp3;go_upto_region 12 with fail;have Lkp1:=Ls kp1;have Lkp2:=Ls kp2;have Lkp3:=Ls kp3;have Lkp4:=Ls kp4;have Lkp5:=Ls kp5;refine ZP0 [0,1,0,0] ?_
     iterate 4 first|refine Zv ?_|refine Zd ?_
     refine TD.nil (fun w9 hr=> ?_);replace kp1:=hr.q kp1;replace kp2:=hr.q kp2;replace kp3:=hr.q kp3;replace kp4:=hr.q kp4;replace kp5:=hr.q kp5;have HM9:=Hi (HM8.out.then0 hr.mod);clear hr;rcases HTV.out.2 with⟨ht,rfl⟩|⟨ht,rfl⟩|⟨ht,rfl⟩
     ·have HT:=Hi ht;clear ht;go_upto_region 13 with fail;have Lkp1:=Ls kp1;have Lkp2:=Ls kp2;have Lkp3:=Ls kp3;have Lkp4:=Ls kp4;have Lkp5:=Ls kp5;refine ZP0 [0,0,0,0,0,1,0,0] ?_
      iterate 3 refine Zv ?_
      iterate 2 refine Zo ?_
      refine Zp ?_
      iterate 2 refine Zv ?_
      refine TD.nil (fun w10 hr=> ?_);replace kp1:=hr.q kp1;replace kp2:=hr.q kp2;replace kp3:=hr.q kp3;replace kp4:=hr.q kp4;replace kp5:=hr.q kp5;have HM10:=Hi (HM9.out.then0 hr.mod);clear hr;have HSS:Hid ((⟨nn,some i,u,p⟩:BuP)=budL (msgP x) bu0 0 ((x.ins.l.take (i+1)).map inP)):=Hi (by
       rw[HY.out.1,←HS.out,budStep,HWD.out];simp only[inP,HT.out];rfl)
      go_upto_region 14 with fail;have Lkp1:=Ls kp1;have Lkp2:=Ls kp2;have Lkp3:=Ls kp3;have Lkp4:=Ls kp4;have Lkp5:=Ls kp5;refine ZP0 [0,0,5] ?_
      iterate 2 refine Zv ?_
      refine Zi fun wE hr=> ?_;replace kp1:=hr.mod.at0 kp1;replace kp2:=hr.mod.at0 kp2;replace kp3:=hr.mod.at0 kp3;replace kp4:=hr.mod.at0 kp4;replace kp5:=hr.mod.at0 kp5;have mE:=hr.mod;refine ZS ?_;refine ZN kp3 fun w11 kp3 mS=> ?_;(try simp only[Array.setIfInBounds,zL]at kp3);replace kp1:=mS.at_ne kp1 (by omega);replace kp2:=mS.at_ne kp2 (by omega);replace kp4:=mS.at_ne kp4 (by omega);replace kp5:=mS.at_ne kp5 (by omega);have HME:Hid (Mod (fun _=>False) w w11):=Hi ((HM10.out.then0 mE).then mS (fun j _ e=>by have:=HG3.out;omega));clear hr mE mS;go_wp2_with fail;go_roundw
      case rel=>exact⟨i+1,⟨nn,some i,u,p⟩,by omega,by go_num,rfl,HSS,HME,kp1,kp2,kp3,kp4,kp5⟩
      case measure=>simp[intOf];omega
     ·have HT:=Hi ht;clear ht;cases u with
      |some v=>
       replace kp5:w9.heap[p5]? =some (.cells #[.bool true,.bool p.isSome] 123 (0,0)):=kp5;go_upto_region 13 with fail;have Lkp1:=Ls kp1;have Lkp2:=Ls kp2;have Lkp3:=Ls kp3;have Lkp4:=Ls kp4;have Lkp5:=Ls kp5;refine ZP0 [0,0,0,0,0,1,0,0] ?_
       iterate 8 first|refine Zv ?_|refine Zd ?_
       refine TD.nil (fun w10 hr=> ?_);replace kp1:=hr.q kp1;replace kp2:=hr.q kp2;replace kp3:=hr.q kp3;replace kp4:=hr.q kp4;replace kp5:=hr.q kp5;have HM10:=Hi (HM9.out.then0 hr.mod);clear hr;have HSS:Hid ((⟨nn,some i,some v,p⟩:BuP)=budL (msgP x) bu0 0 ((x.ins.l.take (i+1)).map inP)):=Hi (by
        rw[HY.out.1,←HS.out,budStep,HWD.out];simp only[inP,HT.out];rfl)
       go_upto_region 14 with fail;have Lkp1:=Ls kp1;have Lkp2:=Ls kp2;have Lkp3:=Ls kp3;have Lkp4:=Ls kp4;have Lkp5:=Ls kp5;refine ZP0 [0,0,5] ?_
       iterate 2 refine Zv ?_
       refine Zi fun wE hr=> ?_;replace kp1:=hr.mod.at0 kp1;replace kp2:=hr.mod.at0 kp2;replace kp3:=hr.mod.at0 kp3;replace kp4:=hr.mod.at0 kp4;replace kp5:=hr.mod.at0 kp5;have mE:=hr.mod;refine ZS ?_;refine ZN kp3 fun w11 kp3 mS=> ?_;(try simp only[Array.setIfInBounds,zL]at kp3);replace kp1:=mS.at_ne kp1 (by omega);replace kp2:=mS.at_ne kp2 (by omega);replace kp4:=mS.at_ne kp4 (by omega);replace kp5:=mS.at_ne kp5 (by omega);have HME:Hid (Mod (fun _=>False) w w11):=Hi ((HM10.out.then0 mE).then mS (fun j _ e=>by have:=HG3.out;omega));clear hr mE mS;go_wp2_with fail;go_roundw
       case rel=>exact⟨i+1,⟨nn,some i,some v,p⟩,by omega,by go_num,rfl,HSS,HME,kp1,kp2,kp3,kp4,kp5⟩
       case measure=>simp[intOf];omega
      |none=>
       replace kp5:w9.heap[p5]? =some (.cells #[.bool false,.bool p.isSome] 123 (0,0)):=kp5;go_upto_region 13 with fail;have Lkp1:=Ls kp1;have Lkp2:=Ls kp2;have Lkp3:=Ls kp3;have Lkp4:=Ls kp4;have Lkp5:=Ls kp5;refine ZP0 [0,0,0,0,0,1,0,0] ?_
       iterate 8 first|refine Zv ?_|refine Zd ?_
       refine TD.nil (fun w10 hr=> ?_);replace kp1:=hr.q kp1;replace kp2:=hr.q kp2;replace kp3:=hr.q kp3;replace kp4:=hr.q kp4;replace kp5:=hr.q kp5;have HM10:=Hi (HM9.out.then0 hr.mod);clear hr;have HSS:Hid ((⟨nn,none,some zz,p⟩:BuP)=budL (msgP x) bu0 0 ((x.ins.l.take (i+1)).map inP)):=Hi (by
        rw[HY.out.1,←HS.out,budStep,HWD.out];simp only[inP,HT.out];rfl)
       go_upto_region 9 with fail;have Lkp1:=Ls kp1;have Lkp2:=Ls kp2;have Lkp3:=Ls kp3;have Lkp4:=Ls kp4;have Lkp5:=Ls kp5;refine ZP0 [0,0,0,0,5,0,6] ?_
       iterate 4 refine Zv ?_
       refine Zi fun w11 hr=> ?_;replace kp1:=hr.q kp1;replace kp2:=hr.q kp2;replace kp3:=hr.q kp3;replace kp4:=hr.q kp4;replace kp5:=hr.q kp5;have HM11:=Hi (HM10.out.then0 hr.mod);clear hr;refine ZS ?_;refine ZM kp4 fun wn kp4 mS=> ?_;(try simp only[Array.setIfInBounds,zL]at kp4);replace kp1:=mS.at_ne kp1 (by have:=HG3.out;omega);replace kp2:=mS.at_ne kp2 (by have:=HG3.out;omega);replace kp3:=mS.at_ne kp3 (by have:=HG3.out;omega);replace kp5:=mS.at_ne kp5 (by have:=HG3.out;omega);have HM12:Hid (Mod (fun _=>False) w wn):=Hi (HM11.out.then mS (fun j _ e=>by have:=HG3.out;omega));clear mS;obtain⟨w12,rfl⟩:∃w12:World,w12=wn:=⟨_,rfl⟩;refine Ze ?_;refine Zz ?_;refine ZS ?_;refine ZN kp5 fun wn kp5 mS=> ?_;(try simp only[Array.setIfInBounds,zL]at kp5);replace kp1:=mS.at_ne kp1 (by have:=HG3.out;omega);replace kp2:=mS.at_ne kp2 (by have:=HG3.out;omega);replace kp3:=mS.at_ne kp3 (by have:=HG3.out;omega);replace kp4:=mS.at_ne kp4 (by have:=HG3.out;omega);have HME:Hid (Mod (fun _=>False) w wn):=Hi (HM12.out.then mS (fun j _ e=>by have:=HG3.out;omega));clear mS;go_wp2_with fail;go_roundw
       case rel=>exact⟨i+1,⟨nn,none,some zz,p⟩,by omega,by go_num,rfl,HSS,HME,kp1,kp2,kp3,kp4,kp5⟩
       case measure=>simp[intOf];omega
     ·have HT:=Hi ht;clear ht;cases p with
      |some v=>
       replace kp5:w9.heap[p5]? =some (.cells #[.bool u.isSome,.bool true] 123 (0,0)):=kp5;go_upto_region 13 with fail;have Lkp1:=Ls kp1;have Lkp2:=Ls kp2;have Lkp3:=Ls kp3;have Lkp4:=Ls kp4;have Lkp5:=Ls kp5;refine ZP0 [0,0,0,0,0,1,0,0] ?_
       iterate 8 first|refine Zv ?_|refine Zd ?_
       refine TD.nil (fun w10 hr=> ?_);replace kp1:=hr.q kp1;replace kp2:=hr.q kp2;replace kp3:=hr.q kp3;replace kp4:=hr.q kp4;replace kp5:=hr.q kp5;have HM10:=Hi (HM9.out.then0 hr.mod);clear hr;have HSS:Hid ((⟨nn,some i,u,some v⟩:BuP)=budL (msgP x) bu0 0 ((x.ins.l.take (i+1)).map inP)):=Hi (by
        rw[HY.out.1,←HS.out,budStep,HWD.out];simp only[inP,HT.out];rfl)
       go_upto_region 14 with fail;have Lkp1:=Ls kp1;have Lkp2:=Ls kp2;have Lkp3:=Ls kp3;have Lkp4:=Ls kp4;have Lkp5:=Ls kp5;refine ZP0 [0,0,5] ?_
       iterate 2 refine Zv ?_
       refine Zi fun wE hr=> ?_;replace kp1:=hr.mod.at0 kp1;replace kp2:=hr.mod.at0 kp2;replace kp3:=hr.mod.at0 kp3;replace kp4:=hr.mod.at0 kp4;replace kp5:=hr.mod.at0 kp5;have mE:=hr.mod;refine ZS ?_;refine ZN kp3 fun w11 kp3 mS=> ?_;(try simp only[Array.setIfInBounds,zL]at kp3);replace kp1:=mS.at_ne kp1 (by omega);replace kp2:=mS.at_ne kp2 (by omega);replace kp4:=mS.at_ne kp4 (by omega);replace kp5:=mS.at_ne kp5 (by omega);have HME:Hid (Mod (fun _=>False) w w11):=Hi ((HM10.out.then0 mE).then mS (fun j _ e=>by have:=HG3.out;omega));clear hr mE mS;go_wp2_with fail;go_roundw
       case rel=>exact⟨i+1,⟨nn,some i,u,some v⟩,by omega,by go_num,rfl,HSS,HME,kp1,kp2,kp3,kp4,kp5⟩
       case measure=>simp[intOf];omega
      |none=>
       replace kp5:w9.heap[p5]? =some (.cells #[.bool u.isSome,.bool false] 123 (0,0)):=kp5;go_upto_region 13 with fail;have Lkp1:=Ls kp1;have Lkp2:=Ls kp2;have Lkp3:=Ls kp3;have Lkp4:=Ls kp4;have Lkp5:=Ls kp5;refine ZP0 [0,0,0,0,0,1,0,0] ?_
       iterate 8 first|refine Zv ?_|refine Zd ?_
       refine TD.nil (fun w10 hr=> ?_);replace kp1:=hr.q kp1;replace kp2:=hr.q kp2;replace kp3:=hr.q kp3;replace kp4:=hr.q kp4;replace kp5:=hr.q kp5;have HM10:=Hi (HM9.out.then0 hr.mod);clear hr;have HSS:Hid ((⟨nn,none,u,some zz⟩:BuP)=budL (msgP x) bu0 0 ((x.ins.l.take (i+1)).map inP)):=Hi (by
        rw[HY.out.1,←HS.out,budStep,HWD.out];simp only[inP,HT.out];rfl)
       go_upto_region 9 with fail;have Lkp1:=Ls kp1;have Lkp2:=Ls kp2;have Lkp3:=Ls kp3;have Lkp4:=Ls kp4;have Lkp5:=Ls kp5;refine ZP0 [0,0,0,0,5,0,6] ?_
       iterate 4 refine Zv ?_
       refine Zi fun w11 hr=> ?_;replace kp1:=hr.q kp1;replace kp2:=hr.q kp2;replace kp3:=hr.q kp3;replace kp4:=hr.q kp4;replace kp5:=hr.q kp5;have HM11:=Hi (HM10.out.then0 hr.mod);clear hr;refine ZS ?_;refine ZM kp4 fun wn kp4 mS=> ?_;(try simp only[Array.setIfInBounds,zL]at kp4);replace kp1:=mS.at_ne kp1 (by have:=HG3.out;omega);replace kp2:=mS.at_ne kp2 (by have:=HG3.out;omega);replace kp3:=mS.at_ne kp3 (by have:=HG3.out;omega);replace kp5:=mS.at_ne kp5 (by have:=HG3.out;omega);have HM12:Hid (Mod (fun _=>False) w wn):=Hi (HM11.out.then mS (fun j _ e=>by have:=HG3.out;omega));clear mS;obtain⟨w12,rfl⟩:∃w12:World,w12=wn:=⟨_,rfl⟩;refine Ze ?_;refine Zz ?_;refine ZS ?_;refine ZN kp5 fun wn kp5 mS=> ?_;(try simp only[Array.setIfInBounds,zL]at kp5);replace kp1:=mS.at_ne kp1 (by have:=HG3.out;omega);replace kp2:=mS.at_ne kp2 (by have:=HG3.out;omega);replace kp3:=mS.at_ne kp3 (by have:=HG3.out;omega);replace kp4:=mS.at_ne kp4 (by have:=HG3.out;omega);have HME:Hid (Mod (fun _=>False) w wn):=Hi (HM12.out.then mS (fun j _ e=>by have:=HG3.out;omega));clear mS;go_wp2_with fail;go_roundw
       case rel=>exact⟨i+1,⟨nn,none,u,some zz⟩,by omega,by go_num,rfl,HSS,HME,kp1,kp2,kp3,kp4,kp5⟩
       case measure=>simp[intOf];omega
  ·have hd:=Df hlt;obtain rfl:i=n:=by omega
   have HBP:Hid (budP (msgP x)=s):=Hi (by
    rw[HS.out];have:x.ins.l.take i=x.ins.l:=List.take_of_length_le (by have:=HX.out.2.2.2.2.2;omega);rw[this];rfl)
   have HSN:Hid (s.n≤i∧i≤1000000):=Hi ⟨hsn,hib⟩;obtain⟨nn,bd,u,p⟩:=s;simp only at kp3 kp4 kp5 hsn;cases u with
   |some v=>
    replace kp5:wr.heap[p5]? =some (.cells #[.bool true,.bool p.isSome] 123 (0,0)):=kp5;replace kp4:wr.heap[p4]? =some (.cells #[u64v v,u64v (p.getD 0)] 122 (0,0)):=kp4;go_upto_region 16 with fail;have Lkp1:=Ls kp1;have Lkp2:=Ls kp2;have Lkp3:=Ls kp3;have Lkp4:=Ls kp4;have Lkp5:=Ls kp5;refine ZP0 [0,1,0] ?_
    iterate 3 first|refine Zv ?_|refine Zd ?_
    refine TD.nil (fun w9 hr=> ?_);replace kp1:=hr.q kp1;replace kp2:=hr.q kp2;replace kp3:=hr.q kp3;replace kp4:=hr.q kp4;replace kp5:=hr.q kp5;have HM9:=Hi (HM.out.then0 hr.mod);clear hr;obtain⟨cu,hcu⟩:∃cu,BuP.units ⟨nn,bd,(some v),p⟩=cu:=⟨_,rfl⟩;have hmin:min (v.toNat:Int) 1400000=(cu.toNat:Int):=by
     rw[←hcu];exact bud_some v
    have HC:=Hi hcu;clear hcu;go_upto_region 18 with fail;have Lkp2:=Ls kp2;have Lkp4:=Ls kp4;refine wp_gpass (T0:=fun i=>i=p3) (K:=BdA p3 #[.int .u64 0,.int .u64 0,.int .i64 (BuP.badI ⟨nn,bd,(some v),p⟩)]) (κ:=fun i=>[0,0,0,0,0,0,6,0,6].getD i 0) (υ:=fun _=>[]) [0,1,2,3,4,5,6,7,8] (by kernel_rfl) (by kernel_rfl) (goodBd p3 #[.int .u64 0,.int .u64 0,.int .i64 (BuP.badI ⟨nn,bd,(some v),p⟩)]).cl (⟨rfl,kp3⟩) (fun i h=>by rw[h];exact Ls kp3) ?_;have gK:=goodBd p3 #[.int .u64 0,.int .u64 0,.int .i64 (BuP.badI ⟨nn,bd,(some v),p⟩)];refine Zg ?_;(refine TG.load (v:= ?v111) (p:= ?p111) (by simp only[zK];rfl) rfl (by rfl) rfl ?hx111 (fun wq hSq=> ?y111) ?n111;(case hx111=>simp only[zM];try rfl);(case y111=>(have kp2q:=hSq.at kp2 (by intro hT;first|exact hT|exact absurd hT (by assumption)|omega|(simp only at hT;omega));have kp4q:=hSq.at kp4 (by intro hT;first|exact hT|exact absurd hT (by assumption)|omega|(simp only at hT;omega));go_simp;(try with_reducible rfl)));try simp only[zL])
    iterate 2 refine Zg ?_
    (refine TG.load (v:= ?v114) (p:= ?p114) (by simp only[zK];rfl) rfl (by rfl) rfl ?hx114 (fun wq hSq=> ?y114) ?n114;(case hx114=>simp only[zM];try rfl);(case y114=>(have kp2q:=hSq.at kp2 (by intro hT;first|exact hT|exact absurd hT (by assumption)|omega|(simp only at hT;omega));have kp4q:=hSq.at kp4 (by intro hT;first|exact hT|exact absurd hT (by assumption)|omega|(simp only at hT;omega));go_simp;(try with_reducible rfl)));try simp only[zL]);refine Zg ?_;(refine TG.storeU (X:= ?X116) (Y:= ?Y116) (BdA p3 #[u64v cu,.int .u64 0,.int .i64 (BuP.badI ⟨nn,bd,(some v),p⟩)]) (goodBd p3 #[u64v cu,.int .u64 0,.int .i64 (BuP.badI ⟨nn,bd,(some v),p⟩)]) (by simp only[zK];rfl) rfl (by rfl) rfl rfl ?hx116 ?hz116 (fun T wq hSq kq=> ?y116) (fun _=> ?n116);(case hx116=>simp only[zM];try rfl);(case hz116=>simp only[zM];try rfl);(case y116=>(exact bd_st (C:= #[.int .u64 0,.int .u64 0,.int .i64 (BuP.badI ⟨nn,bd,(some v),p⟩)]) 0 cu kq (by simp) rfl));replace gK:=(goodBd p3 #[u64v cu,.int .u64 0,.int .i64 (BuP.badI ⟨nn,bd,(some v),p⟩)]);try simp only[zL]);refine Zg ?_;(refine TG.storeU (X:= ?X118) (Y:= ?Y118) (BdA p3 #[u64v cu,u64v (p.getD 0),.int .i64 (BuP.badI ⟨nn,bd,(some v),p⟩)]) (goodBd p3 #[u64v cu,u64v (p.getD 0),.int .i64 (BuP.badI ⟨nn,bd,(some v),p⟩)]) (by simp only[zK];rfl) rfl (by rfl) rfl rfl ?hx118 ?hz118 (fun T wq hSq kq=> ?y118) (fun _=> ?n118);(case hx118=>simp only[zM];try rfl);(case hz118=>simp only[zM];try rfl);(case y118=>(exact bd_st (C:= #[u64v cu,.int .u64 0,.int .i64 (BuP.badI ⟨nn,bd,(some v),p⟩)]) 1 (p.getD 0) kq (by simp) rfl));replace gK:=(goodBd p3 #[u64v cu,u64v (p.getD 0),.int .i64 (BuP.badI ⟨nn,bd,(some v),p⟩)]);try simp only[zL]);refine TG.nil (fun w12 ⟨TR,hr⟩=> ?_);replace kp2:=hr.mod.at kp2 (by intro hT;first|exact hT|exact absurd hT (by assumption)|omega|(simp only at hT;omega));replace kp4:=hr.mod.at kp4 (by intro hT;first|exact hT|exact absurd hT (by assumption)|omega|(simp only at hT;omega));clear gK;replace kp3:=hr.k.2;have HM12:Hid (Mod (fun _=>False) w w12):=Hi (HM9.out.then hr.mod (fun j hj e=>by have:=HG3.out;omega));clear hr;go_upto_region 19 with fail;have Lkp2:=Ls kp2;have Lkp3:=Ls kp3;refine ZP0 [1,5] ?_;refine Zd ?_;refine Zi fun wE hr=> ?_;replace kp2:=hr.mod.at0 kp2;replace kp3:=hr.mod.at0 kp3;have mE:=hr.mod;refine ZS ?_;refine ZN kp2 fun w13 kp2 mS=> ?_;(try simp only[Array.setIfInBounds,zL]at kp2);replace kp3:=mS.at_ne kp3 (by omega);have HM13:Hid (Mod (fun _=>False) w w13):=Hi ((HM12.out.then0 mE).then mS (fun j _ e=>by have:=HG3.out;omega));clear hr mE mS;go_wp2_with fail;refine bodyPost_ret (results_cell1 (v:= .agg (budR (budP (msgP x)))) rfl rfl ?_) rfl ⟨rfl,HM13.out⟩;rw[HBP.out];have hkb:w13.heap[p2]? =some (.cells (budR ⟨nn,bd,(some v),p⟩) 39 (0,0)):=by
     unfold budR;rw[HC.out];exact kp2
    rw[ldBud];simp[hkb,budR]
   |none=>
    replace kp5:wr.heap[p5]? =some (.cells #[.bool false,.bool p.isSome] 123 (0,0)):=kp5;replace kp4:wr.heap[p4]? =some (.cells #[u64v 0,u64v (p.getD 0)] 122 (0,0)):=kp4;obtain⟨v,hv⟩:∃v,UInt64.ofNat nn*200000=v:=⟨_,rfl⟩;have hvw:IntKind.u64.wrap ((nn:Int)*200000)=(v.toNat:Int):=by
     have h1:=HSN.out;have h3:nn≤i:=h1.1;rw[←hv,UInt64.toNat_mul,UInt64.toNat_ofNat',IntKind.wrap_u64,show(200000:UInt64).toNat=200000 from rfl];omega
    have HV:=Hi hv;clear hv;go_upto_region 16 with fail;have Lkp1:=Ls kp1;have Lkp2:=Ls kp2;have Lkp3:=Ls kp3;have Lkp4:=Ls kp4;have Lkp5:=Ls kp5;refine ZP0 [0,1,0] ?_
    iterate 3 first|refine Zv ?_|refine Zd ?_
    refine TD.nil (fun w8 hr=> ?_);replace kp1:=hr.q kp1;replace kp2:=hr.q kp2;replace kp3:=hr.q kp3;replace kp4:=hr.q kp4;replace kp5:=hr.q kp5;have HM8:=Hi (HM.out.then0 hr.mod);clear hr;go_upto_region 17 with fail;have Lkp1:=Ls kp1;have Lkp2:=Ls kp2;have Lkp3:=Ls kp3;have Lkp4:=Ls kp4;have Lkp5:=Ls kp5;refine ZP0 [0,0,0,5] ?_
    iterate 3 refine Zv ?_
    refine Zi fun wE hr=> ?_;replace kp1:=hr.mod.at0 kp1;replace kp2:=hr.mod.at0 kp2;replace kp3:=hr.mod.at0 kp3;replace kp4:=hr.mod.at0 kp4;replace kp5:=hr.mod.at0 kp5;have mE:=hr.mod;refine ZS ?_;refine ZN kp4 fun w9 kp4 mS=> ?_;(try simp only[Array.setIfInBounds,zL]at kp4);replace kp1:=mS.at_ne kp1 (by omega);replace kp2:=mS.at_ne kp2 (by omega);replace kp3:=mS.at_ne kp3 (by omega);replace kp5:=mS.at_ne kp5 (by omega);have HM9:Hid (Mod (fun _=>False) w w9):=Hi ((HM8.out.then0 mE).then mS (fun j _ e=>by have:=HG3.out;omega));clear hr mE mS;obtain⟨cu,hcu⟩:∃cu,BuP.units ⟨nn,bd,none,p⟩=cu:=⟨_,rfl⟩;have hmin:min (v.toNat:Int) 1400000=(cu.toNat:Int):=by
     rw[←hcu];exact bud_none HV.out
    have HC:=Hi hcu;clear hcu;go_upto_region 18 with fail;have Lkp2:=Ls kp2;have Lkp4:=Ls kp4;refine wp_gpass (T0:=fun i=>i=p3) (K:=BdA p3 #[.int .u64 0,.int .u64 0,.int .i64 (BuP.badI ⟨nn,bd,none,p⟩)]) (κ:=fun i=>[0,0,0,0,0,0,6,0,6].getD i 0) (υ:=fun _=>[]) [0,1,2,3,4,5,6,7,8] (by kernel_rfl) (by kernel_rfl) (goodBd p3 #[.int .u64 0,.int .u64 0,.int .i64 (BuP.badI ⟨nn,bd,none,p⟩)]).cl (⟨rfl,kp3⟩) (fun i h=>by rw[h];exact Ls kp3) ?_;have gK:=goodBd p3 #[.int .u64 0,.int .u64 0,.int .i64 (BuP.badI ⟨nn,bd,none,p⟩)];refine Zg ?_;(refine TG.load (v:= ?v129) (p:= ?p129) (by simp only[zK];rfl) rfl (by rfl) rfl ?hx129 (fun wq hSq=> ?y129) ?n129;(case hx129=>simp only[zM];try rfl);(case y129=>(have kp2q:=hSq.at kp2 (by intro hT;first|exact hT|exact absurd hT (by assumption)|omega|(simp only at hT;omega));have kp4q:=hSq.at kp4 (by intro hT;first|exact hT|exact absurd hT (by assumption)|omega|(simp only at hT;omega));go_simp;(try with_reducible rfl)));try simp only[zL])
    iterate 2 refine Zg ?_
    (refine TG.load (v:= ?v132) (p:= ?p132) (by simp only[zK];rfl) rfl (by rfl) rfl ?hx132 (fun wq hSq=> ?y132) ?n132;(case hx132=>simp only[zM];try rfl);(case y132=>(have kp2q:=hSq.at kp2 (by intro hT;first|exact hT|exact absurd hT (by assumption)|omega|(simp only at hT;omega));have kp4q:=hSq.at kp4 (by intro hT;first|exact hT|exact absurd hT (by assumption)|omega|(simp only at hT;omega));go_simp;(try with_reducible rfl)));try simp only[zL]);refine Zg ?_;(refine TG.storeU (X:= ?X134) (Y:= ?Y134) (BdA p3 #[u64v cu,.int .u64 0,.int .i64 (BuP.badI ⟨nn,bd,none,p⟩)]) (goodBd p3 #[u64v cu,.int .u64 0,.int .i64 (BuP.badI ⟨nn,bd,none,p⟩)]) (by simp only[zK];rfl) rfl (by rfl) rfl rfl ?hx134 ?hz134 (fun T wq hSq kq=> ?y134) (fun _=> ?n134);(case hx134=>simp only[zM];try rfl);(case hz134=>simp only[zM];try rfl);(case y134=>(exact bd_st (C:= #[.int .u64 0,.int .u64 0,.int .i64 (BuP.badI ⟨nn,bd,none,p⟩)]) 0 cu kq (by simp) rfl));replace gK:=(goodBd p3 #[u64v cu,.int .u64 0,.int .i64 (BuP.badI ⟨nn,bd,none,p⟩)]);try simp only[zL]);refine Zg ?_;(refine TG.storeU (X:= ?X136) (Y:= ?Y136) (BdA p3 #[u64v cu,u64v (p.getD 0),.int .i64 (BuP.badI ⟨nn,bd,none,p⟩)]) (goodBd p3 #[u64v cu,u64v (p.getD 0),.int .i64 (BuP.badI ⟨nn,bd,none,p⟩)]) (by simp only[zK];rfl) rfl (by rfl) rfl rfl ?hx136 ?hz136 (fun T wq hSq kq=> ?y136) (fun _=> ?n136);(case hx136=>simp only[zM];try rfl);(case hz136=>simp only[zM];try rfl);(case y136=>(exact bd_st (C:= #[u64v cu,.int .u64 0,.int .i64 (BuP.badI ⟨nn,bd,none,p⟩)]) 1 (p.getD 0) kq (by simp) rfl));replace gK:=(goodBd p3 #[u64v cu,u64v (p.getD 0),.int .i64 (BuP.badI ⟨nn,bd,none,p⟩)]);try simp only[zL]);refine TG.nil (fun w12 ⟨TR,hr⟩=> ?_);replace kp2:=hr.mod.at kp2 (by intro hT;first|exact hT|exact absurd hT (by assumption)|omega|(simp only at hT;omega));replace kp4:=hr.mod.at kp4 (by intro hT;first|exact hT|exact absurd hT (by assumption)|omega|(simp only at hT;omega));clear gK;replace kp3:=hr.k.2;have HM12:Hid (Mod (fun _=>False) w w12):=Hi (HM9.out.then hr.mod (fun j hj e=>by have:=HG3.out;omega));clear hr;go_upto_region 19 with fail;have Lkp2:=Ls kp2;have Lkp3:=Ls kp3;refine ZP0 [1,5] ?_;refine Zd ?_;refine Zi fun wE hr=> ?_;replace kp2:=hr.mod.at0 kp2;replace kp3:=hr.mod.at0 kp3;have mE:=hr.mod;refine ZS ?_;refine ZN kp2 fun w13 kp2 mS=> ?_;(try simp only[Array.setIfInBounds,zL]at kp2);replace kp3:=mS.at_ne kp3 (by omega);have HM13:Hid (Mod (fun _=>False) w w13):=Hi ((HM12.out.then0 mE).then mS (fun j _ e=>by have:=HG3.out;omega));clear hr mE mS;go_wp2_with fail;refine bodyPost_ret (results_cell1 (v:= .agg (budR (budP (msgP x)))) rfl rfl ?_) rfl ⟨rfl,HM13.out⟩;rw[HBP.out];have hkb:w13.heap[p2]? =some (.cells (budR ⟨nn,bd,none,p⟩) 39 (0,0)):=by
     unfold budR;rw[HC.out];exact kp2
    rw[ldBud];simp[hkb,budR]
end
theorem kn_mulB {q a b Y B:Nat} (hY:Y=a*B+b):q*Y=q*a*B+q*b:=by rw[hY,Nat.mul_add,Nat.mul_assoc]
theorem kn_overB {q r u a b d Y B:Nat} (hu:q*a+r=u) (hY:Y=a*B+b) (h:r*B+d<q*b):u*B+d<q*Y:=by
 rw[kn_mulB hY,←hu,Nat.add_mul];omega
theorem kn_inB {q r u a b d Y B:Nat} (hu:q*a+r=u) (hY:Y=a*B+b) (h:q*b≤r*B+d):q*Y≤u*B+d:=by
 rw[kn_mulB hY,←hu,Nat.add_mul];omega
theorem kn_twoB {u d1 d0 Y B:Nat} (hY:0<Y):((u*B+d1)*B+d0)/Y=(u*B+d1)/Y*B+((u*B+d1) % Y*B+d0)/Y∧((u*B+d1)*B+d0) % Y=((u*B+d1) % Y*B+d0) % Y:=by
 have h:=Nat.div_add_mod (u*B+d1) Y;obtain⟨N,hN⟩:∃N,u*B+d1=N:=⟨_,rfl⟩;rw[hN]at h⊢;have hx:N*B+d0=Y*(N/Y*B)+(N % Y*B+d0):=by
  rw[←Nat.mul_assoc,←Nat.add_assoc,←Nat.add_mul,h]
 rw[hx,Nat.mul_add_div hY,Nat.mul_add_mod];exact⟨rfl,rfl⟩
theorem kn_mul {q a b Y:Nat} (hY:Y=a*4294967296+b):q*Y=q*a*4294967296+q*b:=kn_mulB hY
theorem kn_over {q r u a b d Y:Nat} (hu:q*a+r=u) (hY:Y=a*4294967296+b) (h:r*4294967296+d<q*b):u*4294967296+d<q*Y:=kn_overB hu hY h
theorem kn_in {q r u a b d Y:Nat} (hu:q*a+r=u) (hY:Y=a*4294967296+b) (h:q*b≤r*4294967296+d):q*Y≤u*4294967296+d:=kn_inB hu hY h
structure KnI (u a b d Y q r:Nat):Prop where
 sum:q*a+r=u
 le:∃Q,Q=(u*4294967296+d)/Y∧Q≤q
 top:q≤4294967297
theorem KnI.start {u a b d Y:Nat} (hY:Y=a*4294967296+b) (ha:2147483648≤a) (hb:b<4294967296) (hd:d<4294967296) (hu:u<Y):KnI u a b d Y (u/a) (u-u/a*a)∧u-u/a*a<a:=by
 have ha0:0<a:=by omega
 have hY0:0<Y:=by omega
 obtain⟨q,hq⟩:∃q,u/a=q:=⟨_,rfl⟩;have h1:q*a≤u:=by rw[←hq];exact Nat.div_mul_le_self u a
 have h2:u<(q+1)*a:=by
  have:=Nat.lt_mul_div_succ u ha0;rw[Nat.mul_comm,hq]at this;exact this
 have h3:q<4294967298:=by
  rw[←hq,Nat.div_lt_iff_lt_mul ha0];omega
 rw[hq];refine⟨⟨by omega,⟨_,rfl,?_⟩,by omega⟩,?_⟩
 ·have:(u*4294967296+d)/Y<q+1:=by
   rw[Nat.div_lt_iff_lt_mul hY0,kn_mul hY];omega
  exact Nat.le_of_lt_succ this
 ·rw[Nat.add_mul,Nat.one_mul]at h2;omega
theorem KnI.q_lt {u a b d Y:Nat} (hY:Y=a*4294967296+b) (hu:u<Y) (hd:d<4294967296):(u*4294967296+d)/Y<4294967296:=by
 rw[Nat.div_lt_iff_lt_mul (by omega)];omega
theorem KnI.step {u a b d Y q r:Nat} (h:KnI u a b d Y q r) (hY:Y=a*4294967296+b) (hu:u<Y) (hd:d<4294967296) (hc:4294967296≤q∨r*4294967296+d<q*b):KnI u a b d Y (q-1) (r+a)∧1≤q∧q-1≤4294967296:=by
 have hY0:0<Y:=by omega
 obtain⟨Q,hQ,hle⟩:=h.le;have hq:Q<q:=by
  rcases hc with hc|hc
  ·rw[hQ];exact Nat.lt_of_lt_of_le (KnI.q_lt (b:=b) hY hu hd) hc
  ·rw[hQ];exact(Nat.div_lt_iff_lt_mul hY0).2 (kn_over h.sum hY hc)
 have ht:=h.top;refine⟨⟨?_,⟨Q,hQ,by omega⟩,by omega⟩,by omega,by omega⟩;have hs:=h.sum;obtain⟨p,rfl⟩:∃p,q=p+1:=⟨q-1,by omega⟩;rw[Nat.add_mul,Nat.one_mul]at hs;rw[Nat.add_sub_cancel];omega
theorem KnI.done {u a b d Y q r:Nat} (h:KnI u a b d Y q r) (hY:Y=a*4294967296+b) (hu:u<Y) (hc:q*b≤r*4294967296+d):q=(u*4294967296+d)/Y:=by
 have hY0:0<Y:=by omega
 have h1:q≤(u*4294967296+d)/Y:=(Nat.le_div_iff_mul_le hY0).2 (kn_in h.sum hY hc);obtain⟨Q,hQ,hle⟩:=h.le;rw[←hQ]at h1⊢;omega
theorem KnI.stop {u a b d Y q r:Nat} (h:KnI u a b d Y q r) (hY:Y=a*4294967296+b) (hu:u<Y) (hb:b<4294967296) (hq:q≤4294967296) (hr:4294967296≤r):q=(u*4294967296+d)/Y:=by
 refine h.done hY hu ?_;have h1:q*b≤4294967296*b:=Nat.mul_le_mul_right _ hq;omega
theorem KnI.fits {u a b d Y q r:Nat} (h:KnI u a b d Y q r) (hb:b<4294967296):q*b<18446744073709551616:=by
 have h1:q*b≤4294967297*b:=Nat.mul_le_mul_right _ h.top;omega
theorem kn_two {u d1 d0 Y:Nat} (hY:0<Y):((u*4294967296+d1)*4294967296+d0)/Y=(u*4294967296+d1)/Y*4294967296+((u*4294967296+d1) % Y*4294967296+d0)/Y∧((u*4294967296+d1)*4294967296+d0) % Y=((u*4294967296+d1) % Y*4294967296+d0) % Y:=kn_twoB hY
theorem dv_sumB {hi lo p B:Nat} (hB:0<B):((hi*p+lo*p/(B*B))*B+lo*p % (B*B)/B)*B+lo*p % (B*B) % B=(hi*(B*B)+lo)*p:=by
 have h1:=Nat.div_add_mod (lo*p) (B*B);have h2:=Nat.div_add_mod (lo*p % (B*B)) B;have h3:((hi*p+lo*p/(B*B))*B+lo*p % (B*B)/B)*B+lo*p % (B*B) % B=hi*p*(B*B)+(B*B*(lo*p/(B*B))+(B*(lo*p % (B*B)/B)+lo*p % (B*B) % B)):=by
  rw[Nat.add_mul,Nat.add_mul,Nat.add_mul,Nat.mul_assoc,Nat.mul_assoc (lo*p/(B*B)) B B,Nat.mul_comm (lo*p/(B*B)) (B*B),Nat.mul_comm (lo*p % (B*B)/B) B];omega
 rw[h3,h2,h1,Nat.add_mul (hi*(B*B))];congr 1;rw[Nat.mul_assoc hi p,Nat.mul_comm p,←Nat.mul_assoc hi]
theorem dv_ltB {hi lo y p C:Nat} (h:hi<y) (hl:lo<C) (hp:0<p):hi*p+lo*p/C<y*p:=by
 have h1:lo*p/C<p:=by
  rw[Nat.div_lt_iff_lt_mul (by omega),Nat.mul_comm p C];exact Nat.mul_lt_mul_of_pos_right hl hp
 have h2:(hi+1)*p≤y*p:=Nat.mul_le_mul_right _ h;rw[Nat.add_mul,Nat.one_mul]at h2;omega
theorem dv_law {hi lo y p:Nat} (hy:0<y) (hp:0<p):
  (hi*18446744073709551616+lo)/y=((hi*p+lo*p/18446744073709551616)*4294967296+lo*p % 18446744073709551616/4294967296)/(y*p)*4294967296+(((hi*p+lo*p/18446744073709551616)*4294967296+lo*p % 18446744073709551616/4294967296) % (y*p)*4294967296+lo*p % 18446744073709551616 % 4294967296)/(y*p)∧
  (hi*18446744073709551616+lo) % y=(((hi*p+lo*p/18446744073709551616)*4294967296+lo*p % 18446744073709551616/4294967296) % (y*p)*4294967296+lo*p % 18446744073709551616 % 4294967296) % (y*p)/p:=by
 have h0:=kn_two (u:=hi*p+lo*p/18446744073709551616) (d1:=lo*p % 18446744073709551616/4294967296) (d0:=lo*p % 18446744073709551616 % 4294967296) (Y:=y*p) (Nat.mul_pos hy hp);have h1:=dv_sumB (hi:=hi) (lo:=lo) (p:=p) (B:=4294967296) (by decide);rw[show(4294967296*4294967296:Nat)=18446744073709551616 from rfl]at h1;rw[h1,Nat.mul_div_mul_right _ _ hp,Nat.mul_mod_mul_right]at h0;refine⟨h0.1,?_⟩;rw[←h0.2,Nat.mul_div_cancel _ hp]
theorem dv_p {y:Nat} (h0:y≠0) (hy:y<18446744073709551616):∃s p:Nat,64-Lib.bitLen y=s∧Lib.bitLen y≤64∧s≤63∧2^s=p∧p*2^(64-s)=18446744073709551616∧0<p∧y*p<18446744073709551616∧9223372036854775808≤y*p:=by
 obtain⟨h1,h2,h3⟩:=Lib.bitLenAux_bounds 64 y hy h0;have h4:Lib.bitLen y≤64:=Lib.bitLen_le y 64 (by omega) hy;have e:Lib.bitLenAux 64 y=Lib.bitLen y:=rfl;rw[e]at h1 h2 h3;obtain⟨L,hL⟩:∃L,Lib.bitLen y=L:=⟨_,rfl⟩;rw[hL]at h1 h2 h3 h4⊢;refine⟨64-L,2^(64-L),rfl,h4,by omega,rfl,?_,Nat.two_pow_pos _,?_,?_⟩
 ·rw[←Nat.pow_add,show 64-L+(64-(64-L))=64 by omega]
 ·have h5:y*2^(64-L)<2^L*2^(64-L):=Nat.mul_lt_mul_of_pos_right h3 (Nat.two_pow_pos _);rw[←Nat.pow_add,show L+(64-L)=64 by omega]at h5;exact h5
 ·have h5:2^(L-1)*2^(64-L)≤y*2^(64-L):=Nat.mul_le_mul_right _ h2;rw[←Nat.pow_add,show L-1+(64-L)=63 by omega]at h5;exact h5
theorem dv_or {hi lo s p:Nat} (hp:2^s=p) (hq:p*2^(64-s)=18446744073709551616) (hl:lo<18446744073709551616):(hi*p|||lo/2^(64-s))=hi*p+lo*p/18446744073709551616:=by
 have hp0:0<p:=by rw[←hp];exact Nat.two_pow_pos _
 have h1:lo*p/18446744073709551616=lo/2^(64-s):=by
  rw[←hq,Nat.mul_comm p,Nat.mul_div_mul_right _ _ hp0]
 have h2:lo/2^(64-s)<2^s:=by
  rw[Nat.div_lt_iff_lt_mul (Nat.two_pow_pos _),hp,hq];exact hl
 have h3:=Nat.two_pow_add_eq_or_of_lt h2 hi;rw[hp,Nat.mul_comm p]at h3;rw[h1,h3]
theorem l8_get (i:Nat) (h:i<Lib.len8tab.size):(Lib.len8tab[i]'h).toNat=Lib.bitLen i∧Lib.bitLen i≤8:=by
 have h1:i<256:=by rw[Lib.len8tab_size]at h;exact h
 have h2:=Lib.len8_of (i:Int) (by omega) (by omega);have h3:=Lib.bitLen_le8' (i:Int) (by omega) (by omega);simp only[Int.toNat_natCast]at h2 h3;refine⟨?_,h3⟩;have h4:Lib.len8 (i:Int)=((Lib.len8tab[i]'h).toNat:Int):=by
  simp only[Lib.len8,Int.toNat_natCast,ByteArray.getElem?_lt' _ _ h,zE]
 omega
theorem lfin {m:Int} {n B X V:Nat} (hm:m=(n:Int)) (l1:V=B) (l2:B≤8) (hn:n≤56) (s:X=n+B):wrap64 (m+wrap64 (V:Int))=(X:Int):=by
 subst hm l1 s;simp only[wrap64];omega
theorem lfin0 {B V:Nat} (l1:V=B) (l2:B≤8):wrap64 (wrap64 (V:Int))=(B:Int):=by
 subst l1;simp only[wrap64];omega
theorem len64_c (x:Int) (w:World) (h0:0≤x) (h1:x≤18446744073709551615):
  Calls Tryz.prog 143 #[.int .u64 x] w fun e w'=>e= .returned (.int .i64 (Lib.bitLen x.toNat))∧w'=w:=by
 have hz:=Lib.len8tab_size;go_enter Tryz.func143,Tryz.ntmps143
 go_wp2
 all_goals first
  |(exfalso;omega)
  |(go_ret;refine⟨congrArg Ending.returned (congrArg (Value.int IntKind.i64) ?_),rfl⟩)
 all_goals first
  |(have s:=Lib.bitLen_shift56 x.toNat (by omega) (by omega);have e:(x/4294967296/65536/256).toNat=x.toNat/72057594037927936:=(by omega);have l:=l8_get (x/4294967296/65536/256).toNat (by omega);exact lfin (m:=56) (n:=56) rfl (l.1.trans (congrArg Lib.bitLen e)) (by rw[←e];exact l.2) (by decide) s)
  |(have s:=Lib.bitLen_shift48 x.toNat (by omega) (by omega);have e:(x/4294967296/65536).toNat=x.toNat/281474976710656:=(by omega);have l:=l8_get (x/4294967296/65536).toNat (by omega);exact lfin (m:=48) (n:=48) rfl (l.1.trans (congrArg Lib.bitLen e)) (by rw[←e];exact l.2) (by decide) s)
  |(have s:=Lib.bitLen_shift40 x.toNat (by omega) (by omega);have e:(x/4294967296/256).toNat=x.toNat/1099511627776:=(by omega);have l:=l8_get (x/4294967296/256).toNat (by omega);exact lfin (m:=40) (n:=40) rfl (l.1.trans (congrArg Lib.bitLen e)) (by rw[←e];exact l.2) (by decide) s)
  |(have s:=Lib.bitLen_shift32 x.toNat (by omega) (by omega);have e:(x/4294967296).toNat=x.toNat/4294967296:=(by omega);have l:=l8_get (x/4294967296).toNat (by omega);exact lfin (m:=32) (n:=32) rfl (l.1.trans (congrArg Lib.bitLen e)) (by rw[←e];exact l.2) (by decide) s)
  |(have s:=Lib.bitLen_shift24 x.toNat (by omega) (by omega);have e:(x/65536/256).toNat=x.toNat/16777216:=(by omega);have l:=l8_get (x/65536/256).toNat (by omega);exact lfin (m:=24) (n:=24) rfl (l.1.trans (congrArg Lib.bitLen e)) (by rw[←e];exact l.2) (by decide) s)
  |(have s:=Lib.bitLen_shift16 x.toNat (by omega) (by omega);have e:(x/65536).toNat=x.toNat/65536:=(by omega);have l:=l8_get (x/65536).toNat (by omega);exact lfin (m:=16) (n:=16) rfl (l.1.trans (congrArg Lib.bitLen e)) (by rw[←e];exact l.2) (by decide) s)
  |(have s:=Lib.bitLen_shift8 x.toNat (by omega) (by omega);have e:(x/256).toNat=x.toNat/256:=(by omega);have l:=l8_get (x/256).toNat (by omega);exact lfin (m:=8) (n:=8) rfl (l.1.trans (congrArg Lib.bitLen e)) (by rw[←e];exact l.2) (by decide) s)
  |(have l:=l8_get x.toNat (by omega);exact lfin0 l.1 l.2)
theorem lz64_c (x:Nat) (w:World) (h1:x<18446744073709551616):
  Calls Tryz.prog 134 #[.int .u64 (x:Int)] w fun e w'=>e= .returned (.int .i64 ((64:Int)-(Lib.bitLen x:Int)))∧w'=w:=by
 have hb:Lib.bitLen x≤64:=Lib.bitLen_le x 64 (by omega) h1;have H:=fun w=>len64_c (x:Int) w (by omega) (by omega);simp only[Int.toNat_natCast]at H;generalize Lib.bitLen x=L at *;have HH:=Hi H;clear H;go_enter Tryz.func134,Tryz.ntmps134;go_wp2_with fail;go_at_call 143;refine(HH.out _).mono ?_;rintro e w2 ⟨rfl,rfl⟩;go_wp2_with fail;go_ret;refine⟨congrArg Ending.returned (congrArg (Value.int IntKind.i64) ?_),rfl⟩;omega
structure DvF (hi lo y s p Y a b u g d1 d0:Nat):Prop where
 pw:2^s=p
 pq:p*2^(64-s)=18446744073709551616
 Yy:Y=y*p
 Yl:Y<18446744073709551616
 Yg:9223372036854775808≤Y
 aY:a=Y/4294967296
 bY:b=Y % 4294967296
 uu:u=hi*p+lo*p/18446744073709551616
 ul:u<Y
 gg:g=lo*p % 18446744073709551616
 d1g:d1=g/4294967296
 d0g:d0=g % 4294967296
theorem DvF.of {hi lo y:Nat} (hh:hi<y) (hy:y<18446744073709551616) (hl:lo<18446744073709551616):∃s p Y a b u g d1 d0:Nat,64-Lib.bitLen y=s∧Lib.bitLen y≤64∧s≤63∧DvF hi lo y s p Y a b u g d1 d0:=by
 obtain⟨s,p,h1,h2,h3,h4,h5,h6,h7,h8⟩:=dv_p (y:=y) (by omega) hy;exact⟨s,p,y*p,_,_,_,_,_,_,h1,h2,h3,h4,h5,rfl,h7,h8,rfl,rfl,rfl,dv_ltB hh hl h6,rfl,rfl,rfl⟩
theorem div64_c (hi lo y:Nat) (w:World) (hy:y<18446744073709551616) (hl:lo<18446744073709551616) (hh:hi<y) (h0:hi≠0):
  Calls Tryz.prog 121 #[.int .u64 (hi:Int),.int .u64 (lo:Int),.int .u64 (y:Int)] w fun e w'=>e= .returned (.tuple #[.int .u64 (((hi*18446744073709551616+lo)/y:Nat):Int),.int .u64 (((hi*18446744073709551616+lo) % y:Nat):Int)])∧Mod (fun _=>False) w w':=by
 obtain⟨s,p,Y,a,b,u,g,d1,d0,hs,hL,hs3,F⟩:=DvF.of hh hy hl;have H:=fun w=>lz64_c y w hy;have hLs:(64:Int)-(Lib.bitLen y:Int)=(s:Int):=by omega
 rw[hLs]at H;have HH:=Hi H;have HF:=Hi F;have hy0:¬(y=0):=by omega
 have hyI:((y:Int)==0)=false:=by simpa using hy0
 have hle:decide ((y:Int)≤(hi:Int))=false:=Df (by omega);have hh0:((hi:Int)==0)=false:=by simpa using h0
 have hws:IntKind.u64.wrap (s:Int)=(s:Int):=by rw[IntKind.wrap_u64];omega
 clear H hs hL hLs;go_enter Tryz.func121,Tryz.ntmps121;go_wp2_with fail;go_at_call 134;refine(HH.out _).mono ?_;rintro e w2 ⟨rfl,rfl⟩;have hmn:min s 64=s:=by omega
 have hpI:(2:Int)^s=(p:Int):=by rw[←F.pw];simp
 have hY:IntKind.u64.wrap ((y:Int)*(p:Int))=(Y:Int):=by
  rw[Mul64.mulN,←F.Yy];exact Mul64.wrapN _ F.Yl
 have haY:(Y:Int)/4294967296=(a:Int):=by rw[Mul64.divN,←F.aY]
 have hbY:bits .and .u64 (Y:Int) 4294967295=(b:Int):=by rw[Mul64.maskN _ F.Yl,←F.bY]
 obtain⟨hp,hhp⟩:∃hp,hi*p=hp:=⟨_,rfl⟩;obtain⟨lq,hlq⟩:∃lq,lo/2^(64-s)=lq:=⟨_,rfl⟩;have hor:(hp|||lq)=u:=by rw[←hhp,←hlq,F.uu];exact dv_or F.pw F.pq hl
 have hpl:hp≤u:=by rw[F.uu,hhp];exact Nat.le_add_right _ _
 have hlql:lq<18446744073709551616:=by rw[←hlq];exact Nat.lt_of_le_of_lt (Nat.div_le_self _ _) hl
 have hul:u<18446744073709551616:=Nat.lt_trans F.ul F.Yl;have hhpI:IntKind.u64.wrap ((hi:Int)*(p:Int))=(hp:Int):=by
  rw[Mul64.mulN,hhp];exact Mul64.wrapN _ (by omega)
 have hlqI:(lo:Int)/2^(64-s)=(lq:Int):=by rw[←hlq];simp
 have huI:bits .or .u64 (hp:Int) (lq:Int)=(u:Int):=by
  rw[bits_or_u64_nat hp lq (by omega) hlql,hor]
 have hgI:IntKind.u64.wrap ((lo:Int)*(p:Int))=(g:Int):=by rw[Mul64.mulN,Mul64.wrapM,←F.gg]
 have hgl:g<18446744073709551616:=by rw[F.gg];omega
 have hd1I:(g:Int)/4294967296=(d1:Int):=by rw[Mul64.divN,←F.d1g]
 have hd0I:bits .and .u64 (g:Int) 4294967295=(d0:Int):=by rw[Mul64.maskN _ hgl,←F.d0g]
 have hd1l:d1<4294967296:=by rw[F.d1g];omega
 have hd0l:d0<4294967296:=by rw[F.d0g];omega
 have hal:2147483648≤a:=by have:=F.aY;have:=F.Yg;omega
 have hal2:a<4294967296:=by have:=F.aY;have:=F.Yl;omega
 have hbl:b<4294967296:=by have:=F.bY;omega
 have hYab:Y=a*4294967296+b:=by have:=F.bY;have:=F.aY;omega
 have ha0:¬(a=0):=by omega
 have hK:=KnI.start hYab hal hbl hd1l F.ul;obtain⟨q0,hq0⟩:∃q0,u/a=q0:=⟨_,rfl⟩;obtain⟨m0,hm0⟩:∃m0,q0*a=m0:=⟨_,rfl⟩;obtain⟨r0,hr0⟩:∃r0,u-m0=r0:=⟨_,rfl⟩;rw[hq0,hm0,hr0]at hK;have hm0l:m0≤u:=by rw[←hm0,←hq0];exact Nat.div_mul_le_self u a
 have hq0I:(u:Int)/(a:Int)=(q0:Int):=by rw[←hq0];simp
 have hq0w:IntKind.u64.wrap (q0:Int)=(q0:Int):=by
  rw[←hq0];exact Mul64.wrapN _ (Nat.lt_of_le_of_lt (Nat.div_le_self u a) hul)
 have hm0I:IntKind.u64.wrap ((q0:Int)*(a:Int))=(m0:Int):=by
  rw[Mul64.mulN,hm0];exact Mul64.wrapN _ (by omega)
 have hr0I:IntKind.u64.wrap ((u:Int)-(m0:Int))=(r0:Int):=by rw[IntKind.wrap_u64];omega
 have HP:=Hi (Ai hal (Ai hal2 (Ai hbl (Ai hYab (Ai hd1l (Ai hd0l hul))))));have HK:=Hi (Ai hK.1 (show r0<4294967296 by have:=hK.2;omega));clear hK hm0l hr0 hm0 hq0 hal hal2 hbl hYab hgl hul hlql hpl hor hlq hhp F;go_upto_region 16 with fail;go_wp2_with fail;clear hY haY hbY hhpI hlqI huI hgI hd1I hd0I hq0I hq0w hm0I hr0I hpI;go_loopw [15,16] (fun s15 s16 ws=>∃q r:Nat,s15= .int .u64 (q:Int)∧s16= .int .u64 (r:Int)∧Hid (KnI u a b d1 Y q r∧r<4294967296)∧Mod (fun _=>False) w2 ws) (fun s15 _ _=>(intOf s15).toNat)
 case atStart=>exact⟨_,_,rfl,rfl,HK,(Mod.refl _ _)⟩
 case round=>
  obtain⟨q,r,rfl,rfl,HI,hm⟩:=hrel;by_cases hbig:4294967296≤q
  ·obtain⟨hst,hq1,hq2⟩:=HI.out.1.step HP.out.2.2.2.1 HF.out.ul HP.out.2.2.2.2.1 (.inl hbig);have hd:=Dt hbig;have hd2:decide ((4294967296:Int)≤(q:Int))=true:=Dt (by omega);have HBIG:=Hi hbig;clear hbig;obtain⟨qq,hqq⟩:∃qq,q-1=qq:=⟨_,rfl⟩;obtain⟨rr,hrr⟩:∃rr,r+a=rr:=⟨_,rfl⟩;rw[hqq,hrr]at hst;rw[hqq]at hq2;have hw1:IntKind.u64.wrap ((q:Int)-1)=(qq:Int):=by
    have:=HI.out.1.top;rw[IntKind.wrap_u64];omega
   have hw2:IntKind.u64.wrap ((r:Int)+(a:Int))=(rr:Int):=by
    have:=HI.out.2;have:=HP.out.2.1;rw[IntKind.wrap_u64];omega
   have HST:=Hi (Ai hst (Ai hq2 (Ai hq1 hqq)));clear hst hq2 hq1 hqq hrr;by_cases hover:4294967296≤rr
   ·have hv:=Dt hover;have hv2:decide ((4294967296:Int)≤(rr:Int))=true:=Dt (by omega);have HQ:Hid (qq=(u*4294967296+d1)/Y):=Hi (HST.out.1.stop HP.out.2.2.2.1 HF.out.ul HP.out.2.2.1 HST.out.2.1 hover);clear hover;have HQA:=HQ;clear HQ;obtain⟨v,hv⟩:∃v,(u*4294967296+d1) % Y=v:=⟨_,rfl⟩;have hvl:v<Y:=by rw[←hv];exact Nat.mod_lt _ (by have:=HF.out.Yg;omega)
    have hYl:=HF.out.Yl;obtain⟨x1,hx1⟩:∃x,u*4294967296 % 18446744073709551616=x:=⟨_,rfl⟩;obtain⟨x2,hx2⟩:∃x,(x1+d1) % 18446744073709551616=x:=⟨_,rfl⟩;obtain⟨x3,hx3⟩:∃x,qq*Y % 18446744073709551616=x:=⟨_,rfl⟩;have hdm:=Nat.div_add_mod (u*4294967296+d1) Y;rw[←HQA.out,hv,Nat.mul_comm Y]at hdm;obtain⟨qy,hqy⟩:∃qy,qq*Y=qy:=⟨_,rfl⟩;rw[hqy]at hdm hx3;have hu:=HP.out.2.2.2.2.2.2;have hx1I:IntKind.u64.wrap ((u:Int)*4294967296)=(x1:Int):=by rw[IntKind.wrap_u64];omega
    have hx2I:IntKind.u64.wrap ((x1:Int)+(d1:Int))=(x2:Int):=by rw[IntKind.wrap_u64];omega
    have hx3I:IntKind.u64.wrap ((qq:Int)*(Y:Int))=(x3:Int):=by rw[Mul64.mulN,hqy,Mul64.wrapM,hx3]
    have hx4I:IntKind.u64.wrap ((x2:Int)-(x3:Int))=(v:Int):=by rw[IntKind.wrap_u64];omega
    have HVL:=Hi (Ai hvl (Ai hv hqy));have hK:=KnI.start HP.out.2.2.2.1 HP.out.1 HP.out.2.2.1 HP.out.2.2.2.2.2.1 hvl;obtain⟨q0,hq0⟩:∃q0,v/a=q0:=⟨_,rfl⟩;obtain⟨m0,hm0⟩:∃m0,q0*a=m0:=⟨_,rfl⟩;obtain⟨r0,hr0⟩:∃r0,v-m0=r0:=⟨_,rfl⟩;rw[hq0,hm0,hr0]at hK;have hm0l:m0≤v:=by rw[←hm0,←hq0];exact Nat.div_mul_le_self v a
    have hq0I:(v:Int)/(a:Int)=(q0:Int):=by rw[←hq0];simp
    have hq0w:IntKind.u64.wrap (q0:Int)=(q0:Int):=by
     rw[←hq0];exact Mul64.wrapN _ (Nat.lt_of_le_of_lt (Nat.div_le_self v a) (by omega))
    have hm0I:IntKind.u64.wrap ((q0:Int)*(a:Int))=(m0:Int):=by
     rw[Mul64.mulN,hm0];exact Mul64.wrapN _ (by omega)
    have hr0I:IntKind.u64.wrap ((v:Int)-(m0:Int))=(r0:Int):=by rw[IntKind.wrap_u64];omega
    have HK2:=Hi (Ai hK.1 (show r0<4294967296 by have:=hK.2;have:=HP.out.2.1;omega));clear hK hm0l hr0 hm0 hq0 hvl hv hqy hdm hYl hu hx1 hx2 hx3;go_upto_region 23 with fail;go_wp2_with fail;clear hx1I hx2I hx3I hx4I hq0I hq0w hm0I hr0I;obtain⟨Q1,hQ1⟩:∃Q1,Q1=qq:=⟨_,rfl⟩;rw[←hQ1]at HQA HVL⊢;clear hQ1;go_loopw [18,16] (fun s18 s16 ws=>∃q r:Nat,s18= .int .u64 (q:Int)∧s16= .int .u64 (r:Int)∧Hid (KnI v a b d0 Y q r∧r<4294967296)∧Mod (fun _=>False) w2 ws) (fun s18 _ _=>(intOf s18).toNat)
    case atStart=>exact⟨_,_,rfl,rfl,HK2,hm⟩
    case round=>
     obtain⟨q,r,rfl,rfl,HI,hm⟩:=hrel;by_cases hbig:4294967296≤q
     ·obtain⟨hst,hq1,hq2⟩:=HI.out.1.step HP.out.2.2.2.1 HVL.out.1 HP.out.2.2.2.2.2.1 (.inl hbig);have hd:=Dt hbig;have hd2:decide ((4294967296:Int)≤(q:Int))=true:=Dt (by omega);have HBIG:=Hi hbig;clear hbig;obtain⟨qq,hqq⟩:∃qq,q-1=qq:=⟨_,rfl⟩;obtain⟨rr,hrr⟩:∃rr,r+a=rr:=⟨_,rfl⟩;rw[hqq,hrr]at hst;rw[hqq]at hq2;have hw1:IntKind.u64.wrap ((q:Int)-1)=(qq:Int):=by
       have:=HI.out.1.top;rw[IntKind.wrap_u64];omega
      have hw2:IntKind.u64.wrap ((r:Int)+(a:Int))=(rr:Int):=by
       have:=HI.out.2;have:=HP.out.2.1;rw[IntKind.wrap_u64];omega
      have HST:=Hi (Ai hst (Ai hq2 (Ai hq1 hqq)));clear hst hq2 hq1 hqq hrr;by_cases hover:4294967296≤rr
      ·have hv:=Dt hover;have hv2:decide ((4294967296:Int)≤(rr:Int))=true:=Dt (by omega);have HQ:Hid (qq=(v*4294967296+d0)/Y):=Hi (HST.out.1.stop HP.out.2.2.2.1 HVL.out.1 HP.out.2.2.1 HST.out.2.1 hover);clear hover;have HQB:=HQ;clear HQ;obtain⟨z,hz⟩:∃z,(v*4294967296+d0) % Y=z:=⟨_,rfl⟩;have hzl:z<Y:=by rw[←hz];exact Nat.mod_lt _ (by have:=HF.out.Yg;omega)
       have hYl:=HF.out.Yl;have hvl:=HVL.out.1;obtain⟨x1,hx1⟩:∃x,v*4294967296 % 18446744073709551616=x:=⟨_,rfl⟩;obtain⟨x2,hx2⟩:∃x,(x1+d0) % 18446744073709551616=x:=⟨_,rfl⟩;obtain⟨qy,hqy⟩:∃qy,qq*Y=qy:=⟨_,rfl⟩;obtain⟨x3,hx3⟩:∃x,qy % 18446744073709551616=x:=⟨_,rfl⟩;have hdm:=Nat.div_add_mod (v*4294967296+d0) Y;rw[←HQB.out,hz,Nat.mul_comm Y,hqy]at hdm;have hx1I:IntKind.u64.wrap ((v:Int)*4294967296)=(x1:Int):=by rw[IntKind.wrap_u64];omega
       have hx2I:IntKind.u64.wrap ((x1:Int)+(d0:Int))=(x2:Int):=by rw[IntKind.wrap_u64];omega
       have hx3I:IntKind.u64.wrap ((qq:Int)*(Y:Int))=(x3:Int):=by rw[Mul64.mulN,hqy,Mul64.wrapM,hx3]
       have hx4I:IntKind.u64.wrap ((x2:Int)-(x3:Int))=(z:Int):=by rw[IntKind.wrap_u64];omega
       have hQl:Q1<4294967296:=by rw[HQA.out];exact KnI.q_lt HP.out.2.2.2.1 HF.out.ul HP.out.2.2.2.2.1
       have hql:qq<4294967296:=by rw[HQB.out];exact KnI.q_lt HP.out.2.2.2.1 HVL.out.1 HP.out.2.2.2.2.2.1
       obtain⟨n1,hn1⟩:∃n,Q1*4294967296=n:=⟨_,rfl⟩;obtain⟨n2,hn2⟩:∃n,n1+qq=n:=⟨_,rfl⟩;have hn1I:IntKind.u64.wrap ((Q1:Int)*4294967296)=(n1:Int):=by rw[IntKind.wrap_u64];omega
       have hn2I:IntKind.u64.wrap ((n1:Int)+(qq:Int))=(n2:Int):=by rw[IntKind.wrap_u64];omega
       obtain⟨t,ht⟩:∃t,z/p=t:=⟨_,rfl⟩;have htI:(z:Int)/(p:Int)=(t:Int):=by rw[←ht];simp
       have hpI:(2:Int)^s=(p:Int):=by rw[←HF.out.pw];simp
       have hp0:0<p:=by rw[←HF.out.pw];exact Nat.two_pow_pos _
       have hfin:=dv_law (hi:=hi) (lo:=lo) (show 0<y by omega) hp0;rw[←HF.out.uu,←HF.out.gg,←HF.out.d1g,←HF.out.d0g,←HF.out.Yy,←HQA.out,HVL.out.2.1,←HQB.out,hz,ht,hn1,hn2]at hfin;have HFIN:=Hi hfin;clear hfin ht hn2 hn1 hQl hql hdm hx3 hqy hx2 hx1 hzl hYl hvl hz hp0;go_wp2_with fail
       go_ret2
       rw[HFIN.out.1,HFIN.out.2];exact⟨rfl,hm⟩
      ·have hv:=Df hover;have hv2:decide ((4294967296:Int)≤(rr:Int))=false:=Df (by omega);have HV:=Hi (show rr<4294967296 by omega);clear hover;go_wp2_with fail;go_roundw
       case rel=>exact⟨qq,rr,rfl,rfl,Hi ⟨HST.out.1,HV.out⟩,hm⟩
       case measure=>have:=HST.out.2.2;simp[intOf];omega
     ·have hd:=Df hbig;have hd2:decide ((4294967296:Int)≤(q:Int))=false:=Df (by omega);obtain⟨qb,hqb⟩:∃qb,q*b=qb:=⟨_,rfl⟩;obtain⟨rb,hrb⟩:∃rb,r*4294967296=rb:=⟨_,rfl⟩;have hqbl:qb<18446744073709551616:=by rw[←hqb];exact HI.out.1.fits HP.out.2.2.1
      have hrl:=HI.out.2;have hw3:IntKind.u64.wrap ((q:Int)*(b:Int))=(qb:Int):=by
       rw[Mul64.mulN,hqb];exact Mul64.wrapN _ hqbl
      have hw4:IntKind.u64.wrap (4294967296*(r:Int))=(rb:Int):=by rw[IntKind.wrap_u64];omega
      have hdl:=HP.out.2.2.2.2.2.1;have hw5:IntKind.u64.wrap ((rb:Int)+(d0:Int))=((rb+d0:Nat):Int):=by rw[IntKind.wrap_u64];omega
      obtain⟨rx,hrx⟩:∃rx,rb+d0=rx:=⟨_,rfl⟩;rw[hrx]at hw5;by_cases hmore:rx<qb
      ·obtain⟨hst,hq1,hq2⟩:=HI.out.1.step HP.out.2.2.2.1 HVL.out.1 HP.out.2.2.2.2.2.1 (.inr (by rw[hqb,hrb,hrx];exact hmore));have hm1:=Dt hmore;have hm2:decide ((rx:Int)<(qb:Int))=true:=Dt (by omega);have HBIG:=Hi hbig;clear hbig hmore hqb hrb hrx hqbl hdl hrl;obtain⟨qq,hqq⟩:∃qq,q-1=qq:=⟨_,rfl⟩;obtain⟨rr,hrr⟩:∃rr,r+a=rr:=⟨_,rfl⟩;rw[hqq,hrr]at hst;rw[hqq]at hq2;have hw1:IntKind.u64.wrap ((q:Int)-1)=(qq:Int):=by
        have:=HI.out.1.top;rw[IntKind.wrap_u64];omega
       have hw2:IntKind.u64.wrap ((r:Int)+(a:Int))=(rr:Int):=by
        have:=HI.out.2;have:=HP.out.2.1;rw[IntKind.wrap_u64];omega
       have HST:=Hi (Ai hst (Ai hq2 (Ai hq1 hqq)));clear hst hq2 hq1 hqq hrr;by_cases hover:4294967296≤rr
       ·have hv:=Dt hover;have hv2:decide ((4294967296:Int)≤(rr:Int))=true:=Dt (by omega);have HQ:Hid (qq=(v*4294967296+d0)/Y):=Hi (HST.out.1.stop HP.out.2.2.2.1 HVL.out.1 HP.out.2.2.1 HST.out.2.1 hover);clear hover;have HQB:=HQ;clear HQ;obtain⟨z,hz⟩:∃z,(v*4294967296+d0) % Y=z:=⟨_,rfl⟩;have hzl:z<Y:=by rw[←hz];exact Nat.mod_lt _ (by have:=HF.out.Yg;omega)
        have hYl:=HF.out.Yl;have hvl:=HVL.out.1;obtain⟨x1,hx1⟩:∃x,v*4294967296 % 18446744073709551616=x:=⟨_,rfl⟩;obtain⟨x2,hx2⟩:∃x,(x1+d0) % 18446744073709551616=x:=⟨_,rfl⟩;obtain⟨qy,hqy⟩:∃qy,qq*Y=qy:=⟨_,rfl⟩;obtain⟨x3,hx3⟩:∃x,qy % 18446744073709551616=x:=⟨_,rfl⟩;have hdm:=Nat.div_add_mod (v*4294967296+d0) Y;rw[←HQB.out,hz,Nat.mul_comm Y,hqy]at hdm;have hx1I:IntKind.u64.wrap ((v:Int)*4294967296)=(x1:Int):=by rw[IntKind.wrap_u64];omega
        have hx2I:IntKind.u64.wrap ((x1:Int)+(d0:Int))=(x2:Int):=by rw[IntKind.wrap_u64];omega
        have hx3I:IntKind.u64.wrap ((qq:Int)*(Y:Int))=(x3:Int):=by rw[Mul64.mulN,hqy,Mul64.wrapM,hx3]
        have hx4I:IntKind.u64.wrap ((x2:Int)-(x3:Int))=(z:Int):=by rw[IntKind.wrap_u64];omega
        have hQl:Q1<4294967296:=by rw[HQA.out];exact KnI.q_lt HP.out.2.2.2.1 HF.out.ul HP.out.2.2.2.2.1
        have hql:qq<4294967296:=by rw[HQB.out];exact KnI.q_lt HP.out.2.2.2.1 HVL.out.1 HP.out.2.2.2.2.2.1
        obtain⟨n1,hn1⟩:∃n,Q1*4294967296=n:=⟨_,rfl⟩;obtain⟨n2,hn2⟩:∃n,n1+qq=n:=⟨_,rfl⟩;have hn1I:IntKind.u64.wrap ((Q1:Int)*4294967296)=(n1:Int):=by rw[IntKind.wrap_u64];omega
        have hn2I:IntKind.u64.wrap ((n1:Int)+(qq:Int))=(n2:Int):=by rw[IntKind.wrap_u64];omega
        obtain⟨t,ht⟩:∃t,z/p=t:=⟨_,rfl⟩;have htI:(z:Int)/(p:Int)=(t:Int):=by rw[←ht];simp
        have hpI:(2:Int)^s=(p:Int):=by rw[←HF.out.pw];simp
        have hp0:0<p:=by rw[←HF.out.pw];exact Nat.two_pow_pos _
        have hfin:=dv_law (hi:=hi) (lo:=lo) (show 0<y by omega) hp0;rw[←HF.out.uu,←HF.out.gg,←HF.out.d1g,←HF.out.d0g,←HF.out.Yy,←HQA.out,HVL.out.2.1,←HQB.out,hz,ht,hn1,hn2]at hfin;have HFIN:=Hi hfin;clear hfin ht hn2 hn1 hQl hql hdm hx3 hqy hx2 hx1 hzl hYl hvl hz hp0;go_wp2_with fail
        go_ret2
        rw[HFIN.out.1,HFIN.out.2];exact⟨rfl,hm⟩
       ·have hv:=Df hover;have hv2:decide ((4294967296:Int)≤(rr:Int))=false:=Df (by omega);have HV:=Hi (show rr<4294967296 by omega);clear hover;go_wp2_with fail;go_roundw
        case rel=>exact⟨qq,rr,rfl,rfl,Hi ⟨HST.out.1,HV.out⟩,hm⟩
        case measure=>have:=HST.out.2.2;simp[intOf];omega
      ·have hm1:=Df hmore;have hm2:decide ((rx:Int)<(qb:Int))=false:=Df (by omega);have HQ:Hid (q=(v*4294967296+d0)/Y):=Hi (HI.out.1.done HP.out.2.2.2.1 HVL.out.1 (by rw[hqb,hrb,hrx];omega));clear hbig hmore hqb hrb hrx hqbl hdl hrl;have HQB:=HQ;clear HQ;obtain⟨z,hz⟩:∃z,(v*4294967296+d0) % Y=z:=⟨_,rfl⟩;have hzl:z<Y:=by rw[←hz];exact Nat.mod_lt _ (by have:=HF.out.Yg;omega)
       have hYl:=HF.out.Yl;have hvl:=HVL.out.1;obtain⟨x1,hx1⟩:∃x,v*4294967296 % 18446744073709551616=x:=⟨_,rfl⟩;obtain⟨x2,hx2⟩:∃x,(x1+d0) % 18446744073709551616=x:=⟨_,rfl⟩;obtain⟨qy,hqy⟩:∃qy,q*Y=qy:=⟨_,rfl⟩;obtain⟨x3,hx3⟩:∃x,qy % 18446744073709551616=x:=⟨_,rfl⟩;have hdm:=Nat.div_add_mod (v*4294967296+d0) Y;rw[←HQB.out,hz,Nat.mul_comm Y,hqy]at hdm;have hx1I:IntKind.u64.wrap ((v:Int)*4294967296)=(x1:Int):=by rw[IntKind.wrap_u64];omega
       have hx2I:IntKind.u64.wrap ((x1:Int)+(d0:Int))=(x2:Int):=by rw[IntKind.wrap_u64];omega
       have hx3I:IntKind.u64.wrap ((q:Int)*(Y:Int))=(x3:Int):=by rw[Mul64.mulN,hqy,Mul64.wrapM,hx3]
       have hx4I:IntKind.u64.wrap ((x2:Int)-(x3:Int))=(z:Int):=by rw[IntKind.wrap_u64];omega
       have hQl:Q1<4294967296:=by rw[HQA.out];exact KnI.q_lt HP.out.2.2.2.1 HF.out.ul HP.out.2.2.2.2.1
       have hql:q<4294967296:=by rw[HQB.out];exact KnI.q_lt HP.out.2.2.2.1 HVL.out.1 HP.out.2.2.2.2.2.1
       obtain⟨n1,hn1⟩:∃n,Q1*4294967296=n:=⟨_,rfl⟩;obtain⟨n2,hn2⟩:∃n,n1+q=n:=⟨_,rfl⟩;have hn1I:IntKind.u64.wrap ((Q1:Int)*4294967296)=(n1:Int):=by rw[IntKind.wrap_u64];omega
       have hn2I:IntKind.u64.wrap ((n1:Int)+(q:Int))=(n2:Int):=by rw[IntKind.wrap_u64];omega
       obtain⟨t,ht⟩:∃t,z/p=t:=⟨_,rfl⟩;have htI:(z:Int)/(p:Int)=(t:Int):=by rw[←ht];simp
       have hpI:(2:Int)^s=(p:Int):=by rw[←HF.out.pw];simp
       have hp0:0<p:=by rw[←HF.out.pw];exact Nat.two_pow_pos _
       have hfin:=dv_law (hi:=hi) (lo:=lo) (show 0<y by omega) hp0;rw[←HF.out.uu,←HF.out.gg,←HF.out.d1g,←HF.out.d0g,←HF.out.Yy,←HQA.out,HVL.out.2.1,←HQB.out,hz,ht,hn1,hn2]at hfin;have HFIN:=Hi hfin;clear hfin ht hn2 hn1 hQl hql hdm hx3 hqy hx2 hx1 hzl hYl hvl hz hp0;go_wp2_with fail
       go_ret2
       rw[HFIN.out.1,HFIN.out.2];exact⟨rfl,hm⟩
   ·have hv:=Df hover;have hv2:decide ((4294967296:Int)≤(rr:Int))=false:=Df (by omega);have HV:=Hi (show rr<4294967296 by omega);clear hover;go_wp2_with fail;go_roundw
    case rel=>exact⟨qq,rr,rfl,rfl,Hi ⟨HST.out.1,HV.out⟩,hm⟩
    case measure=>have:=HST.out.2.2;simp[intOf];omega
  ·have hd:=Df hbig;have hd2:decide ((4294967296:Int)≤(q:Int))=false:=Df (by omega);obtain⟨qb,hqb⟩:∃qb,q*b=qb:=⟨_,rfl⟩;obtain⟨rb,hrb⟩:∃rb,r*4294967296=rb:=⟨_,rfl⟩;have hqbl:qb<18446744073709551616:=by rw[←hqb];exact HI.out.1.fits HP.out.2.2.1
   have hrl:=HI.out.2;have hw3:IntKind.u64.wrap ((q:Int)*(b:Int))=(qb:Int):=by
    rw[Mul64.mulN,hqb];exact Mul64.wrapN _ hqbl
   have hw4:IntKind.u64.wrap (4294967296*(r:Int))=(rb:Int):=by rw[IntKind.wrap_u64];omega
   have hdl:=HP.out.2.2.2.2.1;have hw5:IntKind.u64.wrap ((rb:Int)+(d1:Int))=((rb+d1:Nat):Int):=by rw[IntKind.wrap_u64];omega
   obtain⟨rx,hrx⟩:∃rx,rb+d1=rx:=⟨_,rfl⟩;rw[hrx]at hw5;by_cases hmore:rx<qb
   ·obtain⟨hst,hq1,hq2⟩:=HI.out.1.step HP.out.2.2.2.1 HF.out.ul HP.out.2.2.2.2.1 (.inr (by rw[hqb,hrb,hrx];exact hmore));have hm1:=Dt hmore;have hm2:decide ((rx:Int)<(qb:Int))=true:=Dt (by omega);have HBIG:=Hi hbig;clear hbig hmore hqb hrb hrx hqbl hdl hrl;obtain⟨qq,hqq⟩:∃qq,q-1=qq:=⟨_,rfl⟩;obtain⟨rr,hrr⟩:∃rr,r+a=rr:=⟨_,rfl⟩;rw[hqq,hrr]at hst;rw[hqq]at hq2;have hw1:IntKind.u64.wrap ((q:Int)-1)=(qq:Int):=by
     have:=HI.out.1.top;rw[IntKind.wrap_u64];omega
    have hw2:IntKind.u64.wrap ((r:Int)+(a:Int))=(rr:Int):=by
     have:=HI.out.2;have:=HP.out.2.1;rw[IntKind.wrap_u64];omega
    have HST:=Hi (Ai hst (Ai hq2 (Ai hq1 hqq)));clear hst hq2 hq1 hqq hrr;by_cases hover:4294967296≤rr
    ·have hv:=Dt hover;have hv2:decide ((4294967296:Int)≤(rr:Int))=true:=Dt (by omega);have HQ:Hid (qq=(u*4294967296+d1)/Y):=Hi (HST.out.1.stop HP.out.2.2.2.1 HF.out.ul HP.out.2.2.1 HST.out.2.1 hover);clear hover;have HQA:=HQ;clear HQ;obtain⟨v,hv⟩:∃v,(u*4294967296+d1) % Y=v:=⟨_,rfl⟩;have hvl:v<Y:=by rw[←hv];exact Nat.mod_lt _ (by have:=HF.out.Yg;omega)
     have hYl:=HF.out.Yl;obtain⟨x1,hx1⟩:∃x,u*4294967296 % 18446744073709551616=x:=⟨_,rfl⟩;obtain⟨x2,hx2⟩:∃x,(x1+d1) % 18446744073709551616=x:=⟨_,rfl⟩;obtain⟨x3,hx3⟩:∃x,qq*Y % 18446744073709551616=x:=⟨_,rfl⟩;have hdm:=Nat.div_add_mod (u*4294967296+d1) Y;rw[←HQA.out,hv,Nat.mul_comm Y]at hdm;obtain⟨qy,hqy⟩:∃qy,qq*Y=qy:=⟨_,rfl⟩;rw[hqy]at hdm hx3;have hu:=HP.out.2.2.2.2.2.2;have hx1I:IntKind.u64.wrap ((u:Int)*4294967296)=(x1:Int):=by rw[IntKind.wrap_u64];omega
     have hx2I:IntKind.u64.wrap ((x1:Int)+(d1:Int))=(x2:Int):=by rw[IntKind.wrap_u64];omega
     have hx3I:IntKind.u64.wrap ((qq:Int)*(Y:Int))=(x3:Int):=by rw[Mul64.mulN,hqy,Mul64.wrapM,hx3]
     have hx4I:IntKind.u64.wrap ((x2:Int)-(x3:Int))=(v:Int):=by rw[IntKind.wrap_u64];omega
     have HVL:=Hi (Ai hvl (Ai hv hqy));have hK:=KnI.start HP.out.2.2.2.1 HP.out.1 HP.out.2.2.1 HP.out.2.2.2.2.2.1 hvl;obtain⟨q0,hq0⟩:∃q0,v/a=q0:=⟨_,rfl⟩;obtain⟨m0,hm0⟩:∃m0,q0*a=m0:=⟨_,rfl⟩;obtain⟨r0,hr0⟩:∃r0,v-m0=r0:=⟨_,rfl⟩;rw[hq0,hm0,hr0]at hK;have hm0l:m0≤v:=by rw[←hm0,←hq0];exact Nat.div_mul_le_self v a
     have hq0I:(v:Int)/(a:Int)=(q0:Int):=by rw[←hq0];simp
     have hq0w:IntKind.u64.wrap (q0:Int)=(q0:Int):=by
      rw[←hq0];exact Mul64.wrapN _ (Nat.lt_of_le_of_lt (Nat.div_le_self v a) (by omega))
     have hm0I:IntKind.u64.wrap ((q0:Int)*(a:Int))=(m0:Int):=by
      rw[Mul64.mulN,hm0];exact Mul64.wrapN _ (by omega)
     have hr0I:IntKind.u64.wrap ((v:Int)-(m0:Int))=(r0:Int):=by rw[IntKind.wrap_u64];omega
     have HK2:=Hi (Ai hK.1 (show r0<4294967296 by have:=hK.2;have:=HP.out.2.1;omega));clear hK hm0l hr0 hm0 hq0 hvl hv hqy hdm hYl hu hx1 hx2 hx3;go_upto_region 23 with fail;go_wp2_with fail;clear hx1I hx2I hx3I hx4I hq0I hq0w hm0I hr0I;obtain⟨Q1,hQ1⟩:∃Q1,Q1=qq:=⟨_,rfl⟩;rw[←hQ1]at HQA HVL⊢;clear hQ1;go_loopw [18,16] (fun s18 s16 ws=>∃q r:Nat,s18= .int .u64 (q:Int)∧s16= .int .u64 (r:Int)∧Hid (KnI v a b d0 Y q r∧r<4294967296)∧Mod (fun _=>False) w2 ws) (fun s18 _ _=>(intOf s18).toNat)
     case atStart=>exact⟨_,_,rfl,rfl,HK2,hm⟩
     case round=>
      obtain⟨q,r,rfl,rfl,HI,hm⟩:=hrel;by_cases hbig:4294967296≤q
      ·obtain⟨hst,hq1,hq2⟩:=HI.out.1.step HP.out.2.2.2.1 HVL.out.1 HP.out.2.2.2.2.2.1 (.inl hbig);have hd:=Dt hbig;have hd2:decide ((4294967296:Int)≤(q:Int))=true:=Dt (by omega);have HBIG:=Hi hbig;clear hbig;obtain⟨qq,hqq⟩:∃qq,q-1=qq:=⟨_,rfl⟩;obtain⟨rr,hrr⟩:∃rr,r+a=rr:=⟨_,rfl⟩;rw[hqq,hrr]at hst;rw[hqq]at hq2;have hw1:IntKind.u64.wrap ((q:Int)-1)=(qq:Int):=by
        have:=HI.out.1.top;rw[IntKind.wrap_u64];omega
       have hw2:IntKind.u64.wrap ((r:Int)+(a:Int))=(rr:Int):=by
        have:=HI.out.2;have:=HP.out.2.1;rw[IntKind.wrap_u64];omega
       have HST:=Hi (Ai hst (Ai hq2 (Ai hq1 hqq)));clear hst hq2 hq1 hqq hrr;by_cases hover:4294967296≤rr
       ·have hv:=Dt hover;have hv2:decide ((4294967296:Int)≤(rr:Int))=true:=Dt (by omega);have HQ:Hid (qq=(v*4294967296+d0)/Y):=Hi (HST.out.1.stop HP.out.2.2.2.1 HVL.out.1 HP.out.2.2.1 HST.out.2.1 hover);clear hover;have HQB:=HQ;clear HQ;obtain⟨z,hz⟩:∃z,(v*4294967296+d0) % Y=z:=⟨_,rfl⟩;have hzl:z<Y:=by rw[←hz];exact Nat.mod_lt _ (by have:=HF.out.Yg;omega)
        have hYl:=HF.out.Yl;have hvl:=HVL.out.1;obtain⟨x1,hx1⟩:∃x,v*4294967296 % 18446744073709551616=x:=⟨_,rfl⟩;obtain⟨x2,hx2⟩:∃x,(x1+d0) % 18446744073709551616=x:=⟨_,rfl⟩;obtain⟨qy,hqy⟩:∃qy,qq*Y=qy:=⟨_,rfl⟩;obtain⟨x3,hx3⟩:∃x,qy % 18446744073709551616=x:=⟨_,rfl⟩;have hdm:=Nat.div_add_mod (v*4294967296+d0) Y;rw[←HQB.out,hz,Nat.mul_comm Y,hqy]at hdm;have hx1I:IntKind.u64.wrap ((v:Int)*4294967296)=(x1:Int):=by rw[IntKind.wrap_u64];omega
        have hx2I:IntKind.u64.wrap ((x1:Int)+(d0:Int))=(x2:Int):=by rw[IntKind.wrap_u64];omega
        have hx3I:IntKind.u64.wrap ((qq:Int)*(Y:Int))=(x3:Int):=by rw[Mul64.mulN,hqy,Mul64.wrapM,hx3]
        have hx4I:IntKind.u64.wrap ((x2:Int)-(x3:Int))=(z:Int):=by rw[IntKind.wrap_u64];omega
        have hQl:Q1<4294967296:=by rw[HQA.out];exact KnI.q_lt HP.out.2.2.2.1 HF.out.ul HP.out.2.2.2.2.1
        have hql:qq<4294967296:=by rw[HQB.out];exact KnI.q_lt HP.out.2.2.2.1 HVL.out.1 HP.out.2.2.2.2.2.1
        obtain⟨n1,hn1⟩:∃n,Q1*4294967296=n:=⟨_,rfl⟩;obtain⟨n2,hn2⟩:∃n,n1+qq=n:=⟨_,rfl⟩;have hn1I:IntKind.u64.wrap ((Q1:Int)*4294967296)=(n1:Int):=by rw[IntKind.wrap_u64];omega
        have hn2I:IntKind.u64.wrap ((n1:Int)+(qq:Int))=(n2:Int):=by rw[IntKind.wrap_u64];omega
        obtain⟨t,ht⟩:∃t,z/p=t:=⟨_,rfl⟩;have htI:(z:Int)/(p:Int)=(t:Int):=by rw[←ht];simp
        have hpI:(2:Int)^s=(p:Int):=by rw[←HF.out.pw];simp
        have hp0:0<p:=by rw[←HF.out.pw];exact Nat.two_pow_pos _
        have hfin:=dv_law (hi:=hi) (lo:=lo) (show 0<y by omega) hp0;rw[←HF.out.uu,←HF.out.gg,←HF.out.d1g,←HF.out.d0g,←HF.out.Yy,←HQA.out,HVL.out.2.1,←HQB.out,hz,ht,hn1,hn2]at hfin;have HFIN:=Hi hfin;clear hfin ht hn2 hn1 hQl hql hdm hx3 hqy hx2 hx1 hzl hYl hvl hz hp0;go_wp2_with fail
        go_ret2
        rw[HFIN.out.1,HFIN.out.2];exact⟨rfl,hm⟩
       ·have hv:=Df hover;have hv2:decide ((4294967296:Int)≤(rr:Int))=false:=Df (by omega);have HV:=Hi (show rr<4294967296 by omega);clear hover;go_wp2_with fail;go_roundw
        case rel=>exact⟨qq,rr,rfl,rfl,Hi ⟨HST.out.1,HV.out⟩,hm⟩
        case measure=>have:=HST.out.2.2;simp[intOf];omega
      ·have hd:=Df hbig;have hd2:decide ((4294967296:Int)≤(q:Int))=false:=Df (by omega);obtain⟨qb,hqb⟩:∃qb,q*b=qb:=⟨_,rfl⟩;obtain⟨rb,hrb⟩:∃rb,r*4294967296=rb:=⟨_,rfl⟩;have hqbl:qb<18446744073709551616:=by rw[←hqb];exact HI.out.1.fits HP.out.2.2.1
       have hrl:=HI.out.2;have hw3:IntKind.u64.wrap ((q:Int)*(b:Int))=(qb:Int):=by
        rw[Mul64.mulN,hqb];exact Mul64.wrapN _ hqbl
       have hw4:IntKind.u64.wrap (4294967296*(r:Int))=(rb:Int):=by rw[IntKind.wrap_u64];omega
       have hdl:=HP.out.2.2.2.2.2.1;have hw5:IntKind.u64.wrap ((rb:Int)+(d0:Int))=((rb+d0:Nat):Int):=by rw[IntKind.wrap_u64];omega
       obtain⟨rx,hrx⟩:∃rx,rb+d0=rx:=⟨_,rfl⟩;rw[hrx]at hw5;by_cases hmore:rx<qb
       ·obtain⟨hst,hq1,hq2⟩:=HI.out.1.step HP.out.2.2.2.1 HVL.out.1 HP.out.2.2.2.2.2.1 (.inr (by rw[hqb,hrb,hrx];exact hmore));have hm1:=Dt hmore;have hm2:decide ((rx:Int)<(qb:Int))=true:=Dt (by omega);have HBIG:=Hi hbig;clear hbig hmore hqb hrb hrx hqbl hdl hrl;obtain⟨qq,hqq⟩:∃qq,q-1=qq:=⟨_,rfl⟩;obtain⟨rr,hrr⟩:∃rr,r+a=rr:=⟨_,rfl⟩;rw[hqq,hrr]at hst;rw[hqq]at hq2;have hw1:IntKind.u64.wrap ((q:Int)-1)=(qq:Int):=by
         have:=HI.out.1.top;rw[IntKind.wrap_u64];omega
        have hw2:IntKind.u64.wrap ((r:Int)+(a:Int))=(rr:Int):=by
         have:=HI.out.2;have:=HP.out.2.1;rw[IntKind.wrap_u64];omega
        have HST:=Hi (Ai hst (Ai hq2 (Ai hq1 hqq)));clear hst hq2 hq1 hqq hrr;by_cases hover:4294967296≤rr
        ·have hv:=Dt hover;have hv2:decide ((4294967296:Int)≤(rr:Int))=true:=Dt (by omega);have HQ:Hid (qq=(v*4294967296+d0)/Y):=Hi (HST.out.1.stop HP.out.2.2.2.1 HVL.out.1 HP.out.2.2.1 HST.out.2.1 hover);clear hover;have HQB:=HQ;clear HQ;obtain⟨z,hz⟩:∃z,(v*4294967296+d0) % Y=z:=⟨_,rfl⟩;have hzl:z<Y:=by rw[←hz];exact Nat.mod_lt _ (by have:=HF.out.Yg;omega)
         have hYl:=HF.out.Yl;have hvl:=HVL.out.1;obtain⟨x1,hx1⟩:∃x,v*4294967296 % 18446744073709551616=x:=⟨_,rfl⟩;obtain⟨x2,hx2⟩:∃x,(x1+d0) % 18446744073709551616=x:=⟨_,rfl⟩;obtain⟨qy,hqy⟩:∃qy,qq*Y=qy:=⟨_,rfl⟩;obtain⟨x3,hx3⟩:∃x,qy % 18446744073709551616=x:=⟨_,rfl⟩;have hdm:=Nat.div_add_mod (v*4294967296+d0) Y;rw[←HQB.out,hz,Nat.mul_comm Y,hqy]at hdm;have hx1I:IntKind.u64.wrap ((v:Int)*4294967296)=(x1:Int):=by rw[IntKind.wrap_u64];omega
         have hx2I:IntKind.u64.wrap ((x1:Int)+(d0:Int))=(x2:Int):=by rw[IntKind.wrap_u64];omega
         have hx3I:IntKind.u64.wrap ((qq:Int)*(Y:Int))=(x3:Int):=by rw[Mul64.mulN,hqy,Mul64.wrapM,hx3]
         have hx4I:IntKind.u64.wrap ((x2:Int)-(x3:Int))=(z:Int):=by rw[IntKind.wrap_u64];omega
         have hQl:Q1<4294967296:=by rw[HQA.out];exact KnI.q_lt HP.out.2.2.2.1 HF.out.ul HP.out.2.2.2.2.1
         have hql:qq<4294967296:=by rw[HQB.out];exact KnI.q_lt HP.out.2.2.2.1 HVL.out.1 HP.out.2.2.2.2.2.1
         obtain⟨n1,hn1⟩:∃n,Q1*4294967296=n:=⟨_,rfl⟩;obtain⟨n2,hn2⟩:∃n,n1+qq=n:=⟨_,rfl⟩;have hn1I:IntKind.u64.wrap ((Q1:Int)*4294967296)=(n1:Int):=by rw[IntKind.wrap_u64];omega
         have hn2I:IntKind.u64.wrap ((n1:Int)+(qq:Int))=(n2:Int):=by rw[IntKind.wrap_u64];omega
         obtain⟨t,ht⟩:∃t,z/p=t:=⟨_,rfl⟩;have htI:(z:Int)/(p:Int)=(t:Int):=by rw[←ht];simp
         have hpI:(2:Int)^s=(p:Int):=by rw[←HF.out.pw];simp
         have hp0:0<p:=by rw[←HF.out.pw];exact Nat.two_pow_pos _
         have hfin:=dv_law (hi:=hi) (lo:=lo) (show 0<y by omega) hp0;rw[←HF.out.uu,←HF.out.gg,←HF.out.d1g,←HF.out.d0g,←HF.out.Yy,←HQA.out,HVL.out.2.1,←HQB.out,hz,ht,hn1,hn2]at hfin;have HFIN:=Hi hfin;clear hfin ht hn2 hn1 hQl hql hdm hx3 hqy hx2 hx1 hzl hYl hvl hz hp0;go_wp2_with fail
         go_ret2
         rw[HFIN.out.1,HFIN.out.2];exact⟨rfl,hm⟩
        ·have hv:=Df hover;have hv2:decide ((4294967296:Int)≤(rr:Int))=false:=Df (by omega);have HV:=Hi (show rr<4294967296 by omega);clear hover;go_wp2_with fail;go_roundw
         case rel=>exact⟨qq,rr,rfl,rfl,Hi ⟨HST.out.1,HV.out⟩,hm⟩
         case measure=>have:=HST.out.2.2;simp[intOf];omega
       ·have hm1:=Df hmore;have hm2:decide ((rx:Int)<(qb:Int))=false:=Df (by omega);have HQ:Hid (q=(v*4294967296+d0)/Y):=Hi (HI.out.1.done HP.out.2.2.2.1 HVL.out.1 (by rw[hqb,hrb,hrx];omega));clear hbig hmore hqb hrb hrx hqbl hdl hrl;have HQB:=HQ;clear HQ;obtain⟨z,hz⟩:∃z,(v*4294967296+d0) % Y=z:=⟨_,rfl⟩;have hzl:z<Y:=by rw[←hz];exact Nat.mod_lt _ (by have:=HF.out.Yg;omega)
        have hYl:=HF.out.Yl;have hvl:=HVL.out.1;obtain⟨x1,hx1⟩:∃x,v*4294967296 % 18446744073709551616=x:=⟨_,rfl⟩;obtain⟨x2,hx2⟩:∃x,(x1+d0) % 18446744073709551616=x:=⟨_,rfl⟩;obtain⟨qy,hqy⟩:∃qy,q*Y=qy:=⟨_,rfl⟩;obtain⟨x3,hx3⟩:∃x,qy % 18446744073709551616=x:=⟨_,rfl⟩;have hdm:=Nat.div_add_mod (v*4294967296+d0) Y;rw[←HQB.out,hz,Nat.mul_comm Y,hqy]at hdm;have hx1I:IntKind.u64.wrap ((v:Int)*4294967296)=(x1:Int):=by rw[IntKind.wrap_u64];omega
        have hx2I:IntKind.u64.wrap ((x1:Int)+(d0:Int))=(x2:Int):=by rw[IntKind.wrap_u64];omega
        have hx3I:IntKind.u64.wrap ((q:Int)*(Y:Int))=(x3:Int):=by rw[Mul64.mulN,hqy,Mul64.wrapM,hx3]
        have hx4I:IntKind.u64.wrap ((x2:Int)-(x3:Int))=(z:Int):=by rw[IntKind.wrap_u64];omega
        have hQl:Q1<4294967296:=by rw[HQA.out];exact KnI.q_lt HP.out.2.2.2.1 HF.out.ul HP.out.2.2.2.2.1
        have hql:q<4294967296:=by rw[HQB.out];exact KnI.q_lt HP.out.2.2.2.1 HVL.out.1 HP.out.2.2.2.2.2.1
        obtain⟨n1,hn1⟩:∃n,Q1*4294967296=n:=⟨_,rfl⟩;obtain⟨n2,hn2⟩:∃n,n1+q=n:=⟨_,rfl⟩;have hn1I:IntKind.u64.wrap ((Q1:Int)*4294967296)=(n1:Int):=by rw[IntKind.wrap_u64];omega
        have hn2I:IntKind.u64.wrap ((n1:Int)+(q:Int))=(n2:Int):=by rw[IntKind.wrap_u64];omega
        obtain⟨t,ht⟩:∃t,z/p=t:=⟨_,rfl⟩;have htI:(z:Int)/(p:Int)=(t:Int):=by rw[←ht];simp
        have hpI:(2:Int)^s=(p:Int):=by rw[←HF.out.pw];simp
        have hp0:0<p:=by rw[←HF.out.pw];exact Nat.two_pow_pos _
        have hfin:=dv_law (hi:=hi) (lo:=lo) (show 0<y by omega) hp0;rw[←HF.out.uu,←HF.out.gg,←HF.out.d1g,←HF.out.d0g,←HF.out.Yy,←HQA.out,HVL.out.2.1,←HQB.out,hz,ht,hn1,hn2]at hfin;have HFIN:=Hi hfin;clear hfin ht hn2 hn1 hQl hql hdm hx3 hqy hx2 hx1 hzl hYl hvl hz hp0;go_wp2_with fail
        go_ret2
        rw[HFIN.out.1,HFIN.out.2];exact⟨rfl,hm⟩
    ·have hv:=Df hover;have hv2:decide ((4294967296:Int)≤(rr:Int))=false:=Df (by omega);have HV:=Hi (show rr<4294967296 by omega);clear hover;go_wp2_with fail;go_roundw
     case rel=>exact⟨qq,rr,rfl,rfl,Hi ⟨HST.out.1,HV.out⟩,hm⟩
     case measure=>have:=HST.out.2.2;simp[intOf];omega
   ·have hm1:=Df hmore;have hm2:decide ((rx:Int)<(qb:Int))=false:=Df (by omega);have HQ:Hid (q=(u*4294967296+d1)/Y):=Hi (HI.out.1.done HP.out.2.2.2.1 HF.out.ul (by rw[hqb,hrb,hrx];omega));clear hbig hmore hqb hrb hrx hqbl hdl hrl;have HQA:=HQ;clear HQ;obtain⟨v,hv⟩:∃v,(u*4294967296+d1) % Y=v:=⟨_,rfl⟩;have hvl:v<Y:=by rw[←hv];exact Nat.mod_lt _ (by have:=HF.out.Yg;omega)
    have hYl:=HF.out.Yl;obtain⟨x1,hx1⟩:∃x,u*4294967296 % 18446744073709551616=x:=⟨_,rfl⟩;obtain⟨x2,hx2⟩:∃x,(x1+d1) % 18446744073709551616=x:=⟨_,rfl⟩;obtain⟨x3,hx3⟩:∃x,q*Y % 18446744073709551616=x:=⟨_,rfl⟩;have hdm:=Nat.div_add_mod (u*4294967296+d1) Y;rw[←HQA.out,hv,Nat.mul_comm Y]at hdm;obtain⟨qy,hqy⟩:∃qy,q*Y=qy:=⟨_,rfl⟩;rw[hqy]at hdm hx3;have hu:=HP.out.2.2.2.2.2.2;have hx1I:IntKind.u64.wrap ((u:Int)*4294967296)=(x1:Int):=by rw[IntKind.wrap_u64];omega
    have hx2I:IntKind.u64.wrap ((x1:Int)+(d1:Int))=(x2:Int):=by rw[IntKind.wrap_u64];omega
    have hx3I:IntKind.u64.wrap ((q:Int)*(Y:Int))=(x3:Int):=by rw[Mul64.mulN,hqy,Mul64.wrapM,hx3]
    have hx4I:IntKind.u64.wrap ((x2:Int)-(x3:Int))=(v:Int):=by rw[IntKind.wrap_u64];omega
    have HVL:=Hi (Ai hvl (Ai hv hqy));have hK:=KnI.start HP.out.2.2.2.1 HP.out.1 HP.out.2.2.1 HP.out.2.2.2.2.2.1 hvl;obtain⟨q0,hq0⟩:∃q0,v/a=q0:=⟨_,rfl⟩;obtain⟨m0,hm0⟩:∃m0,q0*a=m0:=⟨_,rfl⟩;obtain⟨r0,hr0⟩:∃r0,v-m0=r0:=⟨_,rfl⟩;rw[hq0,hm0,hr0]at hK;have hm0l:m0≤v:=by rw[←hm0,←hq0];exact Nat.div_mul_le_self v a
    have hq0I:(v:Int)/(a:Int)=(q0:Int):=by rw[←hq0];simp
    have hq0w:IntKind.u64.wrap (q0:Int)=(q0:Int):=by
     rw[←hq0];exact Mul64.wrapN _ (Nat.lt_of_le_of_lt (Nat.div_le_self v a) (by omega))
    have hm0I:IntKind.u64.wrap ((q0:Int)*(a:Int))=(m0:Int):=by
     rw[Mul64.mulN,hm0];exact Mul64.wrapN _ (by omega)
    have hr0I:IntKind.u64.wrap ((v:Int)-(m0:Int))=(r0:Int):=by rw[IntKind.wrap_u64];omega
    have HK2:=Hi (Ai hK.1 (show r0<4294967296 by have:=hK.2;have:=HP.out.2.1;omega));clear hK hm0l hr0 hm0 hq0 hvl hv hqy hdm hYl hu hx1 hx2 hx3;go_upto_region 23 with fail;go_wp2_with fail;clear hx1I hx2I hx3I hx4I hq0I hq0w hm0I hr0I;obtain⟨Q1,hQ1⟩:∃Q1,Q1=q:=⟨_,rfl⟩;rw[←hQ1]at HQA HVL⊢;clear hQ1;go_loopw [18,16] (fun s18 s16 ws=>∃q r:Nat,s18= .int .u64 (q:Int)∧s16= .int .u64 (r:Int)∧Hid (KnI v a b d0 Y q r∧r<4294967296)∧Mod (fun _=>False) w2 ws) (fun s18 _ _=>(intOf s18).toNat)
    case atStart=>exact⟨_,_,rfl,rfl,HK2,hm⟩
    case round=>
     obtain⟨q,r,rfl,rfl,HI,hm⟩:=hrel;by_cases hbig:4294967296≤q
     ·obtain⟨hst,hq1,hq2⟩:=HI.out.1.step HP.out.2.2.2.1 HVL.out.1 HP.out.2.2.2.2.2.1 (.inl hbig);have hd:=Dt hbig;have hd2:decide ((4294967296:Int)≤(q:Int))=true:=Dt (by omega);have HBIG:=Hi hbig;clear hbig;obtain⟨qq,hqq⟩:∃qq,q-1=qq:=⟨_,rfl⟩;obtain⟨rr,hrr⟩:∃rr,r+a=rr:=⟨_,rfl⟩;rw[hqq,hrr]at hst;rw[hqq]at hq2;have hw1:IntKind.u64.wrap ((q:Int)-1)=(qq:Int):=by
       have:=HI.out.1.top;rw[IntKind.wrap_u64];omega
      have hw2:IntKind.u64.wrap ((r:Int)+(a:Int))=(rr:Int):=by
       have:=HI.out.2;have:=HP.out.2.1;rw[IntKind.wrap_u64];omega
      have HST:=Hi (Ai hst (Ai hq2 (Ai hq1 hqq)));clear hst hq2 hq1 hqq hrr;by_cases hover:4294967296≤rr
      ·have hv:=Dt hover;have hv2:decide ((4294967296:Int)≤(rr:Int))=true:=Dt (by omega);have HQ:Hid (qq=(v*4294967296+d0)/Y):=Hi (HST.out.1.stop HP.out.2.2.2.1 HVL.out.1 HP.out.2.2.1 HST.out.2.1 hover);clear hover;have HQB:=HQ;clear HQ;obtain⟨z,hz⟩:∃z,(v*4294967296+d0) % Y=z:=⟨_,rfl⟩;have hzl:z<Y:=by rw[←hz];exact Nat.mod_lt _ (by have:=HF.out.Yg;omega)
       have hYl:=HF.out.Yl;have hvl:=HVL.out.1;obtain⟨x1,hx1⟩:∃x,v*4294967296 % 18446744073709551616=x:=⟨_,rfl⟩;obtain⟨x2,hx2⟩:∃x,(x1+d0) % 18446744073709551616=x:=⟨_,rfl⟩;obtain⟨qy,hqy⟩:∃qy,qq*Y=qy:=⟨_,rfl⟩;obtain⟨x3,hx3⟩:∃x,qy % 18446744073709551616=x:=⟨_,rfl⟩;have hdm:=Nat.div_add_mod (v*4294967296+d0) Y;rw[←HQB.out,hz,Nat.mul_comm Y,hqy]at hdm;have hx1I:IntKind.u64.wrap ((v:Int)*4294967296)=(x1:Int):=by rw[IntKind.wrap_u64];omega
       have hx2I:IntKind.u64.wrap ((x1:Int)+(d0:Int))=(x2:Int):=by rw[IntKind.wrap_u64];omega
       have hx3I:IntKind.u64.wrap ((qq:Int)*(Y:Int))=(x3:Int):=by rw[Mul64.mulN,hqy,Mul64.wrapM,hx3]
       have hx4I:IntKind.u64.wrap ((x2:Int)-(x3:Int))=(z:Int):=by rw[IntKind.wrap_u64];omega
       have hQl:Q1<4294967296:=by rw[HQA.out];exact KnI.q_lt HP.out.2.2.2.1 HF.out.ul HP.out.2.2.2.2.1
       have hql:qq<4294967296:=by rw[HQB.out];exact KnI.q_lt HP.out.2.2.2.1 HVL.out.1 HP.out.2.2.2.2.2.1
       obtain⟨n1,hn1⟩:∃n,Q1*4294967296=n:=⟨_,rfl⟩;obtain⟨n2,hn2⟩:∃n,n1+qq=n:=⟨_,rfl⟩;have hn1I:IntKind.u64.wrap ((Q1:Int)*4294967296)=(n1:Int):=by rw[IntKind.wrap_u64];omega
       have hn2I:IntKind.u64.wrap ((n1:Int)+(qq:Int))=(n2:Int):=by rw[IntKind.wrap_u64];omega
       obtain⟨t,ht⟩:∃t,z/p=t:=⟨_,rfl⟩;have htI:(z:Int)/(p:Int)=(t:Int):=by rw[←ht];simp
       have hpI:(2:Int)^s=(p:Int):=by rw[←HF.out.pw];simp
       have hp0:0<p:=by rw[←HF.out.pw];exact Nat.two_pow_pos _
       have hfin:=dv_law (hi:=hi) (lo:=lo) (show 0<y by omega) hp0;rw[←HF.out.uu,←HF.out.gg,←HF.out.d1g,←HF.out.d0g,←HF.out.Yy,←HQA.out,HVL.out.2.1,←HQB.out,hz,ht,hn1,hn2]at hfin;have HFIN:=Hi hfin;clear hfin ht hn2 hn1 hQl hql hdm hx3 hqy hx2 hx1 hzl hYl hvl hz hp0;go_wp2_with fail
       go_ret2
       rw[HFIN.out.1,HFIN.out.2];exact⟨rfl,hm⟩
      ·have hv:=Df hover;have hv2:decide ((4294967296:Int)≤(rr:Int))=false:=Df (by omega);have HV:=Hi (show rr<4294967296 by omega);clear hover;go_wp2_with fail;go_roundw
       case rel=>exact⟨qq,rr,rfl,rfl,Hi ⟨HST.out.1,HV.out⟩,hm⟩
       case measure=>have:=HST.out.2.2;simp[intOf];omega
     ·have hd:=Df hbig;have hd2:decide ((4294967296:Int)≤(q:Int))=false:=Df (by omega);obtain⟨qb,hqb⟩:∃qb,q*b=qb:=⟨_,rfl⟩;obtain⟨rb,hrb⟩:∃rb,r*4294967296=rb:=⟨_,rfl⟩;have hqbl:qb<18446744073709551616:=by rw[←hqb];exact HI.out.1.fits HP.out.2.2.1
      have hrl:=HI.out.2;have hw3:IntKind.u64.wrap ((q:Int)*(b:Int))=(qb:Int):=by
       rw[Mul64.mulN,hqb];exact Mul64.wrapN _ hqbl
      have hw4:IntKind.u64.wrap (4294967296*(r:Int))=(rb:Int):=by rw[IntKind.wrap_u64];omega
      have hdl:=HP.out.2.2.2.2.2.1;have hw5:IntKind.u64.wrap ((rb:Int)+(d0:Int))=((rb+d0:Nat):Int):=by rw[IntKind.wrap_u64];omega
      obtain⟨rx,hrx⟩:∃rx,rb+d0=rx:=⟨_,rfl⟩;rw[hrx]at hw5;by_cases hmore:rx<qb
      ·obtain⟨hst,hq1,hq2⟩:=HI.out.1.step HP.out.2.2.2.1 HVL.out.1 HP.out.2.2.2.2.2.1 (.inr (by rw[hqb,hrb,hrx];exact hmore));have hm1:=Dt hmore;have hm2:decide ((rx:Int)<(qb:Int))=true:=Dt (by omega);have HBIG:=Hi hbig;clear hbig hmore hqb hrb hrx hqbl hdl hrl;obtain⟨qq,hqq⟩:∃qq,q-1=qq:=⟨_,rfl⟩;obtain⟨rr,hrr⟩:∃rr,r+a=rr:=⟨_,rfl⟩;rw[hqq,hrr]at hst;rw[hqq]at hq2;have hw1:IntKind.u64.wrap ((q:Int)-1)=(qq:Int):=by
        have:=HI.out.1.top;rw[IntKind.wrap_u64];omega
       have hw2:IntKind.u64.wrap ((r:Int)+(a:Int))=(rr:Int):=by
        have:=HI.out.2;have:=HP.out.2.1;rw[IntKind.wrap_u64];omega
       have HST:=Hi (Ai hst (Ai hq2 (Ai hq1 hqq)));clear hst hq2 hq1 hqq hrr;by_cases hover:4294967296≤rr
       ·have hv:=Dt hover;have hv2:decide ((4294967296:Int)≤(rr:Int))=true:=Dt (by omega);have HQ:Hid (qq=(v*4294967296+d0)/Y):=Hi (HST.out.1.stop HP.out.2.2.2.1 HVL.out.1 HP.out.2.2.1 HST.out.2.1 hover);clear hover;have HQB:=HQ;clear HQ;obtain⟨z,hz⟩:∃z,(v*4294967296+d0) % Y=z:=⟨_,rfl⟩;have hzl:z<Y:=by rw[←hz];exact Nat.mod_lt _ (by have:=HF.out.Yg;omega)
        have hYl:=HF.out.Yl;have hvl:=HVL.out.1;obtain⟨x1,hx1⟩:∃x,v*4294967296 % 18446744073709551616=x:=⟨_,rfl⟩;obtain⟨x2,hx2⟩:∃x,(x1+d0) % 18446744073709551616=x:=⟨_,rfl⟩;obtain⟨qy,hqy⟩:∃qy,qq*Y=qy:=⟨_,rfl⟩;obtain⟨x3,hx3⟩:∃x,qy % 18446744073709551616=x:=⟨_,rfl⟩;have hdm:=Nat.div_add_mod (v*4294967296+d0) Y;rw[←HQB.out,hz,Nat.mul_comm Y,hqy]at hdm;have hx1I:IntKind.u64.wrap ((v:Int)*4294967296)=(x1:Int):=by rw[IntKind.wrap_u64];omega
        have hx2I:IntKind.u64.wrap ((x1:Int)+(d0:Int))=(x2:Int):=by rw[IntKind.wrap_u64];omega
        have hx3I:IntKind.u64.wrap ((qq:Int)*(Y:Int))=(x3:Int):=by rw[Mul64.mulN,hqy,Mul64.wrapM,hx3]
        have hx4I:IntKind.u64.wrap ((x2:Int)-(x3:Int))=(z:Int):=by rw[IntKind.wrap_u64];omega
        have hQl:Q1<4294967296:=by rw[HQA.out];exact KnI.q_lt HP.out.2.2.2.1 HF.out.ul HP.out.2.2.2.2.1
        have hql:qq<4294967296:=by rw[HQB.out];exact KnI.q_lt HP.out.2.2.2.1 HVL.out.1 HP.out.2.2.2.2.2.1
        obtain⟨n1,hn1⟩:∃n,Q1*4294967296=n:=⟨_,rfl⟩;obtain⟨n2,hn2⟩:∃n,n1+qq=n:=⟨_,rfl⟩;have hn1I:IntKind.u64.wrap ((Q1:Int)*4294967296)=(n1:Int):=by rw[IntKind.wrap_u64];omega
        have hn2I:IntKind.u64.wrap ((n1:Int)+(qq:Int))=(n2:Int):=by rw[IntKind.wrap_u64];omega
        obtain⟨t,ht⟩:∃t,z/p=t:=⟨_,rfl⟩;have htI:(z:Int)/(p:Int)=(t:Int):=by rw[←ht];simp
        have hpI:(2:Int)^s=(p:Int):=by rw[←HF.out.pw];simp
        have hp0:0<p:=by rw[←HF.out.pw];exact Nat.two_pow_pos _
        have hfin:=dv_law (hi:=hi) (lo:=lo) (show 0<y by omega) hp0;rw[←HF.out.uu,←HF.out.gg,←HF.out.d1g,←HF.out.d0g,←HF.out.Yy,←HQA.out,HVL.out.2.1,←HQB.out,hz,ht,hn1,hn2]at hfin;have HFIN:=Hi hfin;clear hfin ht hn2 hn1 hQl hql hdm hx3 hqy hx2 hx1 hzl hYl hvl hz hp0;go_wp2_with fail
        go_ret2
        rw[HFIN.out.1,HFIN.out.2];exact⟨rfl,hm⟩
       ·have hv:=Df hover;have hv2:decide ((4294967296:Int)≤(rr:Int))=false:=Df (by omega);have HV:=Hi (show rr<4294967296 by omega);clear hover;go_wp2_with fail;go_roundw
        case rel=>exact⟨qq,rr,rfl,rfl,Hi ⟨HST.out.1,HV.out⟩,hm⟩
        case measure=>have:=HST.out.2.2;simp[intOf];omega
      ·have hm1:=Df hmore;have hm2:decide ((rx:Int)<(qb:Int))=false:=Df (by omega);have HQ:Hid (q=(v*4294967296+d0)/Y):=Hi (HI.out.1.done HP.out.2.2.2.1 HVL.out.1 (by rw[hqb,hrb,hrx];omega));clear hbig hmore hqb hrb hrx hqbl hdl hrl;have HQB:=HQ;clear HQ;obtain⟨z,hz⟩:∃z,(v*4294967296+d0) % Y=z:=⟨_,rfl⟩;have hzl:z<Y:=by rw[←hz];exact Nat.mod_lt _ (by have:=HF.out.Yg;omega)
       have hYl:=HF.out.Yl;have hvl:=HVL.out.1;obtain⟨x1,hx1⟩:∃x,v*4294967296 % 18446744073709551616=x:=⟨_,rfl⟩;obtain⟨x2,hx2⟩:∃x,(x1+d0) % 18446744073709551616=x:=⟨_,rfl⟩;obtain⟨qy,hqy⟩:∃qy,q*Y=qy:=⟨_,rfl⟩;obtain⟨x3,hx3⟩:∃x,qy % 18446744073709551616=x:=⟨_,rfl⟩;have hdm:=Nat.div_add_mod (v*4294967296+d0) Y;rw[←HQB.out,hz,Nat.mul_comm Y,hqy]at hdm;have hx1I:IntKind.u64.wrap ((v:Int)*4294967296)=(x1:Int):=by rw[IntKind.wrap_u64];omega
       have hx2I:IntKind.u64.wrap ((x1:Int)+(d0:Int))=(x2:Int):=by rw[IntKind.wrap_u64];omega
       have hx3I:IntKind.u64.wrap ((q:Int)*(Y:Int))=(x3:Int):=by rw[Mul64.mulN,hqy,Mul64.wrapM,hx3]
       have hx4I:IntKind.u64.wrap ((x2:Int)-(x3:Int))=(z:Int):=by rw[IntKind.wrap_u64];omega
       have hQl:Q1<4294967296:=by rw[HQA.out];exact KnI.q_lt HP.out.2.2.2.1 HF.out.ul HP.out.2.2.2.2.1
       have hql:q<4294967296:=by rw[HQB.out];exact KnI.q_lt HP.out.2.2.2.1 HVL.out.1 HP.out.2.2.2.2.2.1
       obtain⟨n1,hn1⟩:∃n,Q1*4294967296=n:=⟨_,rfl⟩;obtain⟨n2,hn2⟩:∃n,n1+q=n:=⟨_,rfl⟩;have hn1I:IntKind.u64.wrap ((Q1:Int)*4294967296)=(n1:Int):=by rw[IntKind.wrap_u64];omega
       have hn2I:IntKind.u64.wrap ((n1:Int)+(q:Int))=(n2:Int):=by rw[IntKind.wrap_u64];omega
       obtain⟨t,ht⟩:∃t,z/p=t:=⟨_,rfl⟩;have htI:(z:Int)/(p:Int)=(t:Int):=by rw[←ht];simp
       have hpI:(2:Int)^s=(p:Int):=by rw[←HF.out.pw];simp
       have hp0:0<p:=by rw[←HF.out.pw];exact Nat.two_pow_pos _
       have hfin:=dv_law (hi:=hi) (lo:=lo) (show 0<y by omega) hp0;rw[←HF.out.uu,←HF.out.gg,←HF.out.d1g,←HF.out.d0g,←HF.out.Yy,←HQA.out,HVL.out.2.1,←HQB.out,hz,ht,hn1,hn2]at hfin;have HFIN:=Hi hfin;clear hfin ht hn2 hn1 hQl hql hdm hx3 hqy hx2 hx1 hzl hYl hvl hz hp0;go_wp2_with fail
       go_ret2
       rw[HFIN.out.1,HFIN.out.2];exact⟨rfl,hm⟩
theorem div0_c (lo y:Nat) (w:World) (hy:y<18446744073709551616) (hl:lo<18446744073709551616) (h0:0<y):
  Calls Tryz.prog 121 #[.int .u64 0,.int .u64 (lo:Int),.int .u64 (y:Int)] w fun e w'=>e= .returned (.tuple #[.int .u64 ((lo/y:Nat):Int),.int .u64 ((lo % y:Nat):Int)])∧Mod (fun _=>False) w w':=by
 obtain⟨q,hq⟩:∃q,lo/y=q:=⟨_,rfl⟩;obtain⟨r,hr⟩:∃r,lo % y=r:=⟨_,rfl⟩;have hql:q<18446744073709551616:=by rw[←hq];exact Nat.lt_of_le_of_lt (Nat.div_le_self _ _) hl
 have hrl:r<18446744073709551616:=by rw[←hr];exact Nat.lt_of_le_of_lt (Nat.mod_le _ _) hl
 have hqI:(lo:Int)/(y:Int)=(q:Int):=by rw[←hq];simp
 have hrI:(lo:Int).tmod (y:Int)=(r:Int):=by rw[←hr,Int.tmod_eq_emod_of_nonneg (by omega)];simp
 have hqw:IntKind.u64.wrap (q:Int)=(q:Int):=Mul64.wrapN _ hql;have hrw:IntKind.u64.wrap (r:Int)=(r:Int):=Mul64.wrapN _ hrl;have hyn:¬(y=0):=by omega
 have hle:decide ((y:Int)≤0)=false:=Df (by omega);have hye:((y:Int)==0)=false:=by simpa using hyn
 rw[hq,hr];clear hq hr;go_enter Tryz.func121,Tryz.ntmps121;go_upto_region 6 with fail;refine ZP [0,0,0,0,0,0,0,0] ?_
 iterate 8 refine Zv ?_
 refine TD.nil (fun w1 hr=> ?_);have m1:=hr.mod;go_wp2_with fail
 go_ret2
 exact⟨rfl,m1⟩
theorem bW2 (a:UInt64) (w:World):(Instr.buildSlice 158 2 #[(0,u64v a),(1,.int .u64 1)]).run Tryz.prog w= .ok (.slice (some ⟨w.heap.size,0,none⟩) 2 2) (w.alloc (.cells #[u64v a,u64v 1] 37)):=by kernel_rfl
theorem timG_over {a b d:UInt64} {up:Bool} (h:d.toNat≤a.toNat*b.toNat/18446744073709551616):timG a b d up=18446744073709551615:=if_pos h
theorem timG_up {a b d:UInt64} {up:Bool} (h:¬d.toNat≤a.toNat*b.toNat/18446744073709551616) (h2:up=true∧0<a.toNat*b.toNat % d.toNat):timG a b d up=sat (UInt64.ofNat (a.toNat*b.toNat/d.toNat)) 1:=by unfold timG;rw[if_neg h,if_pos h2]
theorem timG_in {a b d:UInt64} {up:Bool} (h:¬d.toNat≤a.toNat*b.toNat/18446744073709551616) (h2:¬(up=true∧0<a.toNat*b.toNat % d.toNat)):timG a b d up=UInt64.ofNat (a.toNat*b.toNat/d.toNat):=by unfold timG;rw[if_neg h,if_neg h2]
theorem timG_q {x d:Nat} (h:¬d≤x/18446744073709551616):x/d<18446744073709551616∧0<d:=by
 have h0:0<d:=by omega
 refine⟨?_,h0⟩;rw[Nat.div_lt_iff_lt_mul h0];have:=Nat.div_add_mod x 18446744073709551616;have:=Nat.mod_lt x (show 0<18446744073709551616 by decide);have h1:(x/18446744073709551616+1)*18446744073709551616≤d*18446744073709551616:=Nat.mul_le_mul_right _ (by omega);rw[Nat.add_mul,Nat.mul_comm d]at h1;omega
theorem times_c (a b d:UInt64) (up:Bool) (w:World):Calls Tryz.prog 80 #[u64v a,u64v b,u64v d,.bool up] w fun e w'=>e= .returned (u64v (timG a b d up))∧Mod (fun _=>False) w w':=by
 have hT:=mul_c a b;obtain⟨hi,hhi⟩:∃hi,a.toNat*b.toNat/18446744073709551616=hi:=⟨_,rfl⟩;obtain⟨lo,hlo⟩:∃lo,a.toNat*b.toNat % 18446744073709551616=lo:=⟨_,rfl⟩;have hsum:hi*18446744073709551616+lo=a.toNat*b.toNat:=by
  rw[←hhi,←hlo,Nat.mul_comm];exact Nat.div_add_mod _ _
 have hll:lo<18446744073709551616:=by rw[←hlo];exact Nat.mod_lt _ (by decide)
 rw[hhi,hlo]at hT;have HT:=Hi hT;by_cases hc:d.toNat≤hi
 ·have HE:Hid (timG a b d up=18446744073709551615):=Hi (timG_over (by rw[hhi];exact hc));have hc1:decide ((d.toNat:Int)≤(hi:Int))=true:=Dt (by omega);have hc2:=Dt hc;clear hT hc hhi hlo hsum hll;go_enter Tryz.func80,Tryz.ntmps80;go_wp2_with fail;go_at_call 120;refine(HT.out _).mono ?_;rintro e w2 ⟨rfl,rfl⟩;go_wp2_with fail;go_ret;exact⟨by rw[HE.out];rfl,Mod.refl _ _⟩
 ·have HN:Hid (¬d.toNat≤a.toNat*b.toNat/18446744073709551616):=Hi (by rw[hhi];exact hc);have hq:=(timG_q HN.out).1;have hd0:=(timG_q HN.out).2;have hdl:=d.toNat_lt;have hc1:decide ((d.toNat:Int)≤(hi:Int))=false:=Df (by omega);have hc2:=Df hc;obtain⟨q,hqq⟩:∃q,a.toNat*b.toNat/d.toNat=q:=⟨_,rfl⟩;obtain⟨r,hrr⟩:∃r,a.toNat*b.toNat % d.toNat=r:=⟨_,rfl⟩;rw[hqq]at hq;obtain⟨z,hz⟩:∃z,UInt64.ofNat q=z:=⟨_,rfl⟩;have hzq:(z.toNat:Int)=(q:Int):=by rw[←hz,UInt64.toNat_ofNat',Nat.mod_eq_of_lt hq]
  have HQ:=Hi (Ai hz (Ai hqq hrr));have HD:Hid (∀w,Calls Tryz.prog 121 #[.int .u64 (hi:Int),.int .u64 (lo:Int),u64v d] w fun e w'=>e= .returned (.tuple #[u64v z,.int .u64 (r:Int)])∧Mod (fun _=>False) w w'):=Hi (fun w=>by
   by_cases h0:hi=0
   ·have h:=div0_c lo d.toNat w hdl hll hd0;rw[h0,Nat.zero_mul,Nat.zero_add]at hsum;rw[hsum,hqq,hrr,←hzq,←hsum]at h;rw[h0];exact h
   ·have h:=div64_c hi lo d.toNat w hdl hll (by omega) h0;rw[hsum,hqq,hrr,←hzq]at h;exact h)
  clear hT hc hhi hlo hsum hll hq hd0 hdl hqq hrr hz hzq;have hbl:=bW2;go_enter Tryz.func80,Tryz.ntmps80;go_wp2_with fail;go_at_call 120;refine(HT.out _).mono ?_;rintro e w2 ⟨rfl,rfl⟩;go_wp2_with fail;go_at_call 121;refine(HD.out _).mono ?_;rintro e w3 ⟨rfl,m3⟩;have HM:=Hi m3;clear m3;go_upto_region 5 with fail;cases up with
  |true=>
   by_cases hr0:0<r
   ·have hr1:decide ((r:Int)>0)=true:=Dt (by omega);have hr2:decide ((0:Int)<(r:Int))=true:=Dt (by omega);have hr3:=Dt hr0;have HE:Hid (timG a b d true=sat z 1):=Hi (by rw[timG_up HN.out ⟨rfl,by rw[HQ.out.2.2];exact hr0⟩,HQ.out.2.1,HQ.out.1]);clear hr0;go_upto_region 6 with fail;refine wp_gpass0 (T0:=fun _=>False) (K:=fun _ _=>True) (κ:=fun i=>[0,3,6,0].getD i 0) (υ:=fun i=>[[],[],[35],[]].getD i []) [0,1,2,3] (by kernel_rfl) (by kernel_rfl) (Good.true).cl (trivial) (fun _ h=>h.elim) ?_;have gK:=Good.true;refine Zg ?_;(refine TG.bslice (by simp only[zK];rfl) rfl (by rfl) rfl rfl ?hx10 (hbl z) (fun p35 hp35 _=> ?n10);(case hx10=>(simp only[List.map_toArray,List.map_cons,List.map_nil,zM];(try rfl)));try simp only[zL]);(refine ZG (fun v=>v=u64v (sat z 1)) gK ?_ (s:=fun T wq kq ltq hSq ub=>by have kp35:=ub.box (p:=p35) (by first|exact Bx.set_same _ _ _|(simp only[Bx.set_same];rfl)) (by first|decide|exact List.mem_singleton.2 rfl|simp);dsimp only[Value.cells]at kp35;have nUp35:=(ub p35 _ (by first|exact Bx.set_same _ _ _|(simp only[Bx.set_same];rfl)) (by first|decide|exact List.mem_singleton.2 rfl|simp)).1;exact(wsum_c p35 z 1 wq kp35).mono (fun e w' h=>⟨_,h.1,rfl,h.2⟩));rintro v11 hC;subst hC;try simp only[zL]);refine Zg ?_;refine TG.nil (fun w5 ⟨TR,hr⟩=> ?_);obtain⟨gp35,nTp35,kp35⟩:=hr.b p35;clear gK;have m5:=HM.out.then0 hr.mod;clear hr;go_wp2_with fail;go_ret;exact⟨by rw[HE.out];rfl,m5⟩
   ·have hr1:decide ((r:Int)>0)=false:=Df (by omega);have hr2:decide ((0:Int)<(r:Int))=false:=Df (by omega);have hr3:=Df hr0;have HE:Hid (timG a b d true=z):=Hi (by rw[timG_in HN.out (fun h=>hr0 (by rw[←HQ.out.2.2];exact h.2)),HQ.out.2.1,HQ.out.1]);clear hr0;go_wp2_with fail;go_ret;exact⟨by rw[HE.out];rfl,HM.out⟩
  |false=>
   have HE:Hid (timG a b d false=z):=Hi (by rw[timG_in HN.out (fun h=>by cases h.1),HQ.out.2.1,HQ.out.1]);go_wp2_with fail;go_ret;exact⟨by rw[HE.out];rfl,HM.out⟩
section
theorem ldPay (w:World) (b o:Nat):(Instr.loadAt 130 (.pointer (some ⟨b,o,none⟩))).run Tryz.prog w=
   match w.heap[b]? with
   |some (.cells cs _ _)=>if o+4≤cs.size then .ok (.agg (cs.extract o (o+4))) w else farL Tryz.prog w 130 b o
   |_=>farL Tryz.prog w 130 b o:=load_rule (d:=_) Tryz.underlying130 rfl (by kernel_rfl) w b o
theorem stPay (w:World) (b o:Nat) (xs:Array Value):(Instr.storeAt 130 (.pointer (some ⟨b,o,none⟩)) (.agg xs)).run Tryz.prog w=
   match w.heap[b]? with
   |some (.cells cs U (0,0))=>
    if o+4≤cs.size∧xs.size=4∧xs.all (·.oneCell')=true then .ok () (setBlock w b (.cells (if o=0∧4=cs.size then xs else wr cs o xs.toList) U (0,0)))else farS Tryz.prog w 130 b o (.agg xs)
   |_=>farS Tryz.prog w 130 b o (.agg xs):=store_rule (by kernel_rfl) w b o xs
theorem wlPay (dst:Option Tmp) (x:Operand) (ty:TypeId) (pos:String) (after:Array Edge) (g:Option (Nat×Bool)) (a:Act) (w:World) (K:Act→World→Prop) (Q:Exit→Act→World→Prop):
  Oper.wp Tryz.prog {dst:=dst,op:= .load 130 x,type:=ty,pos:=pos,after:=after,guard:=g} a w K Q=
   (match a.eval x with
   | .pointer (some ⟨b,o,none⟩)=>
    (match w.heap[b]? with
    |some (.cells cs _ _)=>if o+4≤cs.size then K (a.put dst (.agg (cs.extract o (o+4)))) w else farW Tryz.prog {dst:=dst,op:= .load 130 x,type:=ty,pos:=pos,after:=after,guard:=g} a w K Q
    |_=>farW Tryz.prog {dst:=dst,op:= .load 130 x,type:=ty,pos:=pos,after:=after,guard:=g} a w K Q)
   |_=>farW Tryz.prog {dst:=dst,op:= .load 130 x,type:=ty,pos:=pos,after:=after,guard:=g} a w K Q):=wp_load_rule (d:=_) Tryz.underlying130 rfl (by kernel_rfl) dst x ty pos after g a w K Q
theorem alPay (w:World):(Instr.alloc 130 true (.tuple #[])).run Tryz.prog w= .ok (.pointer (some ⟨w.heap.size,0,none⟩)) (w.alloc (.cells #[.int .i64 0,.int .u64 0,.int .u64 0,.int .i64 0] 130)):=
 run_alloc_row (z:= .agg #[.int .i64 0,.int .u64 0,.int .u64 0,.int .i64 0]) (fun w=>by kernel_rfl) w
attribute [local go_sem↓] wlPay ldPay stPay
def payR (n:Nat) (u p:UInt64) (bad:Int):Array Value:= #[.int .i64 (n:Int),u64v u,u64v p,.int .i64 bad]
theorem payR_size (n:Nat) (u p:UInt64) (bad:Int):(payR n u p bad).size=4:=rfl
theorem payR_all (n:Nat) (u p:UInt64) (bad:Int):(payR n u p bad).extract 0 4=payR n u p bad:=rfl
theorem payR_one (n:Nat) (u p:UInt64) (bad:Int):(payR n u p bad).all (·.oneCell') 0 4=true:=by simp[payR,Value.oneCell']
theorem payR0 (n:Nat) (u p:UInt64) (bad:Int):(payR n u p bad)[0]? =some (.int .i64 (n:Int)):=rfl
theorem payR1 (n:Nat) (u p:UInt64) (bad:Int):(payR n u p bad)[1]? =some (u64v u):=rfl
theorem payR2 (n:Nat) (u p:UInt64) (bad:Int):(payR n u p bad)[2]? =some (u64v p):=rfl
theorem payR0' (n:Nat) (u p:UInt64) (bad:Int) (h:0<(payR n u p bad).size):(payR n u p bad)[0]= .int .i64 (n:Int):=rfl
theorem payR1' (n:Nat) (u p:UInt64) (bad:Int) (h:1<(payR n u p bad).size):(payR n u p bad)[1]=u64v u:=rfl
theorem payR2' (n:Nat) (u p:UInt64) (bad:Int) (h:2<(payR n u p bad).size):(payR n u p bad)[2]=u64v p:=rfl
attribute [local go_sem] payR_size payR_all payR_one payR0 payR1 payR2 payR0' payR1' payR2'
theorem base_c (n:Nat) (hn:n<1000000) (u p:UInt64) (bad:Int) (w:World):Calls Tryz.prog 75 #[.agg (payR n u p bad)] w fun e w'=>e= .returned (u64v (tim (UInt64.ofNat n) 5000))∧Mod (fun _=>False) w w':=by
 have hm:max 0 (n:Int)=(n:Int):=by omega
 have hw:IntKind.u64.wrap (n:Int)=((UInt64.ofNat n).toNat:Int):=by rw[Mul64.wrapN n (by omega),UInt64.toNat_ofNat',Nat.mod_eq_of_lt (by omega)]
 have HT:=Hi (fun w=>times1_c (UInt64.ofNat n) 5000 w);obtain⟨z,hz⟩:∃z,UInt64.ofNat n=z:=⟨_,rfl⟩;rw[hz]at hw HT⊢;clear hz;go_enter Tryz.func75,Tryz.ntmps75;go_upto_region 0 with fail;refine ZP0 [3,0] ?_;refine Zb fun p1 hp1=> ?_;refine Zv ?_;refine TD.nil (fun w1 hr=> ?_);obtain⟨gp1,kp1⟩:=hr.b p1;have m1:=hr.mod;clear hr;go_wp2_with fail;go_at_call 80;refine(HT.out _).mono ?_;rintro e w2 ⟨rfl,m2⟩;go_wp2_with fail;go_ret;exact⟨rfl,m1.then0 m2⟩
theorem half_u (z:UInt64):((z/2).toNat:Int)=IntKind.u64.wrap ((z.toNat:Int)/2):=by
 have:=z.toNat_lt;rw[UInt64.toNat_div,IntKind.wrap_u64,show(2:UInt64).toNat=2 from rfl];omega
theorem kept_c (n:Nat) (hn:n<1000000) (u p:UInt64) (bad:Int) (w:World):Calls Tryz.prog 81 #[.agg (payR n u p bad)] w fun e w'=>e= .returned (u64v (tim (UInt64.ofNat n) 5000/2))∧Mod (fun _=>False) w w':=by
 have HB:=Hi (fun w=>base_c n hn u p bad w);obtain⟨z,hz⟩:∃z,tim (UInt64.ofNat n) 5000=z:=⟨_,rfl⟩;rw[hz]at HB⊢;have hh:=half_u z;have HH:=Hi hh;clear hz hh;go_enter Tryz.func81,Tryz.ntmps81;go_upto_region 0 with fail;refine ZP0 [3,0] ?_;refine Zb fun p1 hp1=> ?_;refine Zv ?_;refine TD.nil (fun w1 hr=> ?_);obtain⟨gp1,kp1⟩:=hr.b p1;have m1:=hr.mod;clear hr;go_wp2_with fail;go_at_call 75;refine(HB.out _).mono ?_;rintro e w2 ⟨rfl,m2⟩;go_wp2_with fail;go_ret;refine⟨?_,m1.then0 m2⟩;show Ending.returned (.int .u64 _)=Ending.returned (.int .u64 _);rw[HH.out]
theorem offer_c (n:Nat) (u p:UInt64) (bad:Int) (w:World):Calls Tryz.prog 76 #[.agg (payR n u p bad)] w fun e w'=>e= .returned (u64v (timG p u 1000000 true))∧Mod (fun _=>False) w w':=by
 have HT:=Hi (fun w=>times_c p u 1000000 true w);go_enter Tryz.func76,Tryz.ntmps76;go_upto_region 0 with fail;refine ZP0 [3,0] ?_;refine Zb fun p1 hp1=> ?_;refine Zv ?_;refine TD.nil (fun w1 hr=> ?_);obtain⟨gp1,kp1⟩:=hr.b p1;have m1:=hr.mod;clear hr;go_wp2_with fail;go_at_call 80;refine(HT.out _).mono ?_;rintro e w2 ⟨rfl,m2⟩;go_wp2_with fail;go_ret;exact⟨rfl,m1.then0 m2⟩
theorem bs2 (a b:UInt64) (w:World):(Instr.buildSlice 158 2 #[(0,u64v a),(1,u64v b)]).run Tryz.prog w= .ok (.slice (some ⟨w.heap.size,0,none⟩) 2 2) (w.alloc (.cells #[u64v a,u64v b] 37)):=by kernel_rfl
abbrev payF (f:Nat) (r:Array Value):Value:= .func (.func f) #[.agg r] #[]
theorem bothB_c (n:Nat) (hn:n<1000000) (u p:UInt64) (bad:Int) (w:World):Calls Tryz.prog 74 #[payF 75 (payR n u p bad),payF 76 (payR n u p bad)] w fun e w'=>e= .returned (u64v (sat (tim (UInt64.ofNat n) 5000) (timG p u 1000000 true)))∧Mod (fun _=>False) w w':=by
 have HB:=Hi (fun w=>base_c n hn u p bad w);have HO:=Hi (fun w=>offer_c n u p bad w);obtain⟨z,hz⟩:∃z,(tim (UInt64.ofNat n) 5000)=z:=⟨_,rfl⟩;obtain⟨y,hy⟩:∃y,timG p u 1000000 true=y:=⟨_,rfl⟩;rw[hz]at HB⊢;rw[hy]at HO⊢;have hbs:=bs2 z y;clear hz hy;go_enter Tryz.func74,Tryz.ntmps74;go_wp2_with fail;refine(HB.out _).mono ?_;rintro e w2 ⟨rfl,m2⟩;go_wp2_with fail;refine(HO.out _).mono ?_;rintro e w3 ⟨rfl,m3⟩;go_wp2_with fail;go_at_call 78;refine(wsum_c w3.heap.size z y _ (heap_alloc_new _ _)).mono ?_;rintro e w4 ⟨rfl,m4⟩;go_wp2_with fail;go_ret;exact⟨rfl,(m2.then0 m3).then0 (((Mod.refl (fun _=>False) w3).alloc _).then0 m4)⟩
theorem bothK_c (n:Nat) (hn:n<1000000) (u p:UInt64) (bad:Int) (w:World):Calls Tryz.prog 74 #[payF 81 (payR n u p bad),payF 76 (payR n u p bad)] w fun e w'=>e= .returned (u64v (sat (tim (UInt64.ofNat n) 5000/2) (timG p u 1000000 true)))∧Mod (fun _=>False) w w':=by
 have HB:=Hi (fun w=>kept_c n hn u p bad w);have HO:=Hi (fun w=>offer_c n u p bad w);obtain⟨z,hz⟩:∃z,(tim (UInt64.ofNat n) 5000/2)=z:=⟨_,rfl⟩;obtain⟨y,hy⟩:∃y,timG p u 1000000 true=y:=⟨_,rfl⟩;rw[hz]at HB⊢;rw[hy]at HO⊢;have hbs:=bs2 z y;clear hz hy;go_enter Tryz.func74,Tryz.ntmps74;go_wp2_with fail;refine(HB.out _).mono ?_;rintro e w2 ⟨rfl,m2⟩;go_wp2_with fail;refine(HO.out _).mono ?_;rintro e w3 ⟨rfl,m3⟩;go_wp2_with fail;go_at_call 78;refine(wsum_c w3.heap.size z y _ (heap_alloc_new _ _)).mono ?_;rintro e w4 ⟨rfl,m4⟩;go_wp2_with fail;go_ret;exact⟨rfl,(m2.then0 m3).then0 (((Mod.refl (fun _=>False) w3).alloc _).then0 m4)⟩
theorem ldBgd (w:World) (b o:Nat):(Instr.loadAt 39 (.pointer (some ⟨b,o,none⟩))).run Tryz.prog w=
   match w.heap[b]? with
   |some (.cells cs _ _)=>if o+3≤cs.size then .ok (.agg (cs.extract o (o+3))) w else farL Tryz.prog w 39 b o
   |_=>farL Tryz.prog w 39 b o:=load_rule (d:=_) Tryz.underlying39 rfl (by kernel_rfl) w b o
attribute [local go_sem↓] ldBgd
def bgR (u p:UInt64) (bad:Int):Array Value:= #[u64v u,u64v p,.int .i64 bad]
theorem bgR_size (u p:UInt64) (bad:Int):(bgR u p bad).size=3:=rfl
theorem bgR_all (u p:UInt64) (bad:Int):(bgR u p bad).extract 0 3=bgR u p bad:=rfl
attribute [local go_sem] bgR_size bgR_all
theorem bPay (n:Nat) (u p:UInt64) (bad:Int) (w:World):(Instr.build 130 #[(0,.int .i64 (n:Int)),(1,.agg (bgR u p bad))]).run Tryz.prog w= .ok (.agg (payR n u p bad)) w:=by kernel_rfl
theorem fee_c (n:Nat) (hn:n<1000000) (u p:UInt64) (bad:Int) (w:World):Calls Tryz.prog 28 #[.int .i64 (n:Int),.agg (bgR u p bad)] w fun e w'=>e= .returned (u64v (feeF (UInt64.ofNat n) u p))∧Mod (fun _=>False) w w':=by
 have HB:=Hi (fun w=>bothB_c n hn u p bad w);obtain⟨z,hz⟩:∃z,feeF (UInt64.ofNat n) u p=z:=⟨_,rfl⟩;rw[show sat (tim (UInt64.ofNat n) 5000) (timG p u 1000000 true)=z from hz]at HB;rw[hz];have hbp:=bPay n u p bad;have hmf:=hmf;clear hz;go_enter Tryz.func28,Tryz.ntmps28;go_upto_region 0 with fail;refine ZP0 [3,0] ?_;refine Zb fun p3 hp3=> ?_;refine Zv ?_;refine TD.nil (fun w1 hr=> ?_);obtain⟨gp3,kp3⟩:=hr.b p3;have m1:=hr.mod;clear hr;go_upto_region 1 with fail;have Lkp3:=Ls kp3;refine ZP0 [0,1,0,3,4] ?_;refine Zv ?_;refine Zd ?_;refine Zu hbp ?_;refine Za alPay fun p5 hp5=> ?_;refine Zt ?_;refine TD.nil (fun w2 hr=> ?_);replace kp3:=hr.q kp3;obtain⟨gp5,kp5⟩:=hr.b p5;have m2:=m1.then0 hr.mod;clear hr;go_wp2_with fail;go_at_call 74;refine(HB.out _).mono ?_;rintro e w3 ⟨rfl,m3⟩;go_wp2_with fail;go_ret;exact⟨rfl,m2.then0 m3⟩
theorem bs2' (a:UInt64) (w:World):(Instr.buildSlice 158 2 #[(0,u64v a),(1,.int .u64 1)]).run Tryz.prog w= .ok (.slice (some ⟨w.heap.size,0,none⟩) 2 2) (w.alloc (.cells #[u64v a,u64v 1] 37)):=by kernel_rfl
theorem prio_c (n:Nat) (hn:n<1000000) (u p c:UInt64) (bad:Int) (w:World):Calls Tryz.prog 31 #[.int .i64 (n:Int),.agg (bgR u p bad),u64v c] w fun e w'=>e= .returned (u64v (priF (UInt64.ofNat n) u p c))∧Mod (fun _=>False) w w':=by
 have HB:=Hi (fun w=>bothK_c n hn u p bad w);obtain⟨z,hz⟩:∃z,sat (tim (UInt64.ofNat n) 5000/2) (timG p u 1000000 true)=z:=⟨_,rfl⟩;obtain⟨y,hy⟩:∃y,sat c 1=y:=⟨_,rfl⟩;have HR:Hid (priF (UInt64.ofNat n) u p c=timG z 1000000 y false):=Hi (by unfold priF;rw[hz,hy]);rw[hz]at HB;have HY:=Hi hy;have HT:=Hi (fun w=>times_c z 1000000 y false w);have hbp:=bPay n u p bad;have hbs:=bs2' c;have hmf:=hmf;rw[HR.out];obtain⟨x,hx⟩:∃x,timG z 1000000 y false=x:=⟨_,rfl⟩;rw[hx]at HT⊢;clear hz hy hx HR;go_enter Tryz.func31,Tryz.ntmps31;go_upto_region 0 with fail;refine ZP0 [3,0] ?_;refine Zb fun p4 hp4=> ?_;refine Zv ?_;refine TD.nil (fun w1 hr=> ?_);obtain⟨gp4,kp4⟩:=hr.b p4;have m1:=hr.mod;clear hr;go_upto_region 1 with fail;have Lkp4:=Ls kp4;refine ZP0 [0,1,0,3,4] ?_;refine Zv ?_;refine Zd ?_;refine Zu hbp ?_;refine Za alPay fun p7 hp7=> ?_;refine Zt ?_;refine TD.nil (fun w2 hr=> ?_);replace kp4:=hr.q kp4;obtain⟨gp7,kp7⟩:=hr.b p7;have m2:=m1.then0 hr.mod;clear hr;go_wp2_with fail;go_at_call 74;refine(HB.out _).mono ?_;rintro e w3 ⟨rfl,m3⟩;replace m2:=m2.then0 m3;clear m3;go_wp2_with fail;go_at_call 78;refine(wsum_c w3.heap.size c 1 _ (heap_alloc_new _ _)).mono ?_;rintro e w4 ⟨rfl,m4⟩;replace m2:=m2.then0 (((Mod.refl (fun _=>False) w3).alloc _).then0 m4);rw[HY.out];clear m4;go_wp2_with fail;go_at_call 80;refine(HT.out _).mono ?_;rintro e w5 ⟨rfl,m5⟩;go_wp2_with fail;go_ret;exact⟨rfl,m2.then0 m5⟩
end
section
attribute [local go_sem↓] wlRdy ldRdy stRdy wlTx ldTx
attribute [local go_sem] zRdy_size zOut_size rdr_size rdr_all rdr_one rdr_tx rdr0 rdr41 rdr0' rdr41' ocr_size ocr_all ocr2 ocr3 ocr4 ocr5 ocr2' ocr3' ocr4' ocr5'
attribute [local go_sem] Oper.semAt_some
attribute [local go_sem↓] wlIn ldIn stIn
theorem inr_size (y:InR):(inr y).size=3:=rfl
theorem inr_all (y:InR):(inr y).extract 0 3=inr y:=rfl
theorem inr_one (y:InR):(inr y).all (·.oneCell') 0 3=true:=by simp[inr,Value.oneCell']
theorem zIn_size:zIn.size=3:=rfl
theorem inr2' (y:InR) (h:2<(inr y).size):(inr y)[2]= .slice y.d.a y.d.l.length y.d.c:=rfl
attribute [local go_sem] inr_size inr_all inr_one zIn_size inr2 inr2'
def dSum (l:List InR):UInt64:=l.foldl (fun d x=>d+UInt64.ofNat x.d.l.length) 0
theorem dSum_snoc {l:List InR} {i:Nat} {x:InR} (hx:l[i]? =some x):dSum (l.take (i+1))=dSum (l.take i)+UInt64.ofNat x.d.l.length:=by
 rw[List.take_add_one,hx];simp[dSum]
theorem parts_c (x:RdR) (n:Int) (u:UInt64) (w:World):Calls Tryz.prog 77 #[.agg (txr x),.int .i64 n,u64v u] w fun e w'=>∃p q r,e= .returned (.func (.func 117) #[] #[pV p,pV q,pV r])∧w'.heap[p]? =some (.cells (txr x) 35 (0,0))∧w'.heap[q]? =some (.cells #[.int .i64 n] 3 (0,0))∧w'.heap[r]? =some (.cells #[u64v u] 37 (0,0))∧w.heap.size≤p∧w.heap.size≤q∧w.heap.size≤r∧Mod (fun _=>False) w w':=by
 have hmf:=hmf;go_enter Tryz.func77,Tryz.ntmps77;go_upto_region 0 with fail;refine ZP0 [3,3,3,0] ?_;refine Zb fun p3 hp3=> ?_;refine Zb fun p4 hp4=> ?_;obtain⟨ne_p4_p3,hp4⟩:=Bx.set_none hp4;refine Zb fun p5 hp5=> ?_;obtain⟨ne_p5_p4,hp5⟩:=Bx.set_none hp5;obtain⟨ne_p5_p3,hp5⟩:=Bx.set_none hp5;refine Zv ?_;refine TD.nil (fun w1 hr=> ?_);obtain⟨gp3,kp3⟩:=hr.b p3 (by first|exact Bx.set_same _ _ _|(simp only[Bx.set_ne _ (Ne.symm ne_p4_p3),Bx.set_ne _ (Ne.symm ne_p5_p3),Bx.set_ne _ (Ne.symm ne_p5_p4),Bx.set_ne _ ne_p4_p3,Bx.set_ne _ ne_p5_p3,Bx.set_ne _ ne_p5_p4,Bx.set_same];rfl));obtain⟨gp4,kp4⟩:=hr.b p4 (by first|exact Bx.set_same _ _ _|(simp only[Bx.set_ne _ (Ne.symm ne_p4_p3),Bx.set_ne _ (Ne.symm ne_p5_p3),Bx.set_ne _ (Ne.symm ne_p5_p4),Bx.set_ne _ ne_p4_p3,Bx.set_ne _ ne_p5_p3,Bx.set_ne _ ne_p5_p4,Bx.set_same];rfl));obtain⟨gp5,kp5⟩:=hr.b p5 (by first|exact Bx.set_same _ _ _|(simp only[Bx.set_ne _ (Ne.symm ne_p4_p3),Bx.set_ne _ (Ne.symm ne_p5_p3),Bx.set_ne _ (Ne.symm ne_p5_p4),Bx.set_ne _ ne_p4_p3,Bx.set_ne _ ne_p5_p3,Bx.set_ne _ ne_p5_p4,Bx.set_same];rfl));have m1:=hr.mod;clear hr;go_wp2_with fail;go_ret;exact⟨_,_,_,rfl,kp3,kp4,kp5,gp3,gp4,gp5,m1⟩
def KeepR (R:Nat→Prop) (W W':World):Prop:=∀i,R i→W'.heap[i]? =W.heap[i]?
theorem keepR_t {R:Nat→Prop} {A B C:World} (h:KeepR R A B) (k:KeepR R B C):KeepR R A C:=fun i hi=>(k i hi).trans (h i hi)
theorem grown_mod {W W':World} (hm:Mod (fun _=>False) W W'):W.grownBy W' none:=⟨hm.os,hm.tape,hm.output,hm.size,fun k hk _=>hm.block k hk (fun h=>h)⟩
theorem wrapi {n:Nat} (h:n<18446744073709551616):IntKind.u64.wrap (n:Int)=((UInt64.ofNat n).toNat:Int):=by
 rw[Mul64.wrapN n h,UInt64.toNat_ofNat',Nat.mod_eq_of_lt h]
theorem add_len (d:UInt64) {n:Nat} (h:n<18446744073709551616):Value.int .u64 (IntKind.u64.wrap ((d.toNat:Int)+(n:Int) % 18446744073709551616))=u64v (d+UInt64.ofNat n):=by
 unfold u64v;rw[UInt64.toNat_add,UInt64.toNat_ofNat',Nat.mod_eq_of_lt h,IntKind.wrap_u64];congr 1;omega
theorem times720_c (a:UInt64) (w:World):Calls Tryz.prog 80 #[u64v a,.int .u64 720,.int .u64 1,.bool false] w fun e w'=>e= .returned (u64v (tim a 720))∧Mod (fun _=>False) w w':=times1_c a 720 w
theorem times300_c (a:UInt64) (w:World):Calls Tryz.prog 80 #[u64v a,.int .u64 300,.int .u64 1,.bool false] w fun e w'=>e= .returned (u64v (tim a 300))∧Mod (fun _=>False) w w':=times1_c a 300 w
theorem parts1_in (n l p q r:Nat) (x:RdR) (wn:Nat) (u:UInt64) (hwr:wn≤1000000) (J Jx:List UInt64→World→Prop) (W:World) (hJ:AbidesFrom W.heap.size J)
  (hY:∀pre z W1,J pre W1→pre.length<4→YieldAt Fence.wide n Tryz.prog l #[u64v z] W1 fun e W'=>
   (e= .returned (.bool true)∧J (pre++[z]) W'∧KeepR (fun i=>i=p∨i=q∨i=r) W1 W')∨(e= .returned (.bool false)∧Jx (pre++[z]) W'))
  (kp:W.heap[p]? =some (.cells (txr x) 35 (0,0))) (kq:W.heap[q]? =some (.cells #[.int .i64 (wn:Int)] 3 (0,0))) (kr:W.heap[r]? =some (.cells #[u64v u] 37 (0,0)))
  (hins:SlAt inr 3 W x.ins.a x.ins.l) (b1:x.ins.l.length≤140737488355328) (b2:x.sg.l.length≤140737488355328) (b3:∀y∈x.ins.l,y.d.l.length≤140737488355328) (h0:J [] W):
  CallsIn Fence.wide (n+1) Tryz.prog 117 #[.func (.yield l) #[] #[],pV p,pV q,pV r] W fun e W'=>(∃v,e= .returned v)∧(J (coL (UInt64.ofNat x.sg.l.length) (UInt64.ofNat wn) (dSum x.ins.l) u) W'∨∃pre,Jx pre W'):=by
 refine callsIn_of_wp Tryz.func117 rfl trivial ?_ rfl;simp only[Tryz.ntmps117,List.size_toArray,List.length_cons,List.length_nil,Nat.reduceAdd,Nat.reduceSub,Array.replicate_succ,Array.replicate_zero,List.push_toArray,List.append_toArray,List.nil_append,List.cons_append];have HI:=Hi hins;have HJ:=Hi hJ;have HY:=Hi hY;have HB:=Hi b3;have H0:=Hi h0;clear hins hJ hY b3 h0;refine wpIn_wide.2 ?_;go_wp2_with fail;go_loopw [5,12] (fun s5 s12 ws=>∃i:Nat,i≤x.ins.l.length∧s12= .int .i64 (i:Int)∧s5=u64v (dSum (x.ins.l.take i))∧Hid (J [] ws)∧Mod (fun _=>False) W ws) (fun _ s12 _=>x.ins.l.length-(intOf s12).toNat)
 case atStart=>exact⟨0,Nat.zero_le _,rfl,rfl,H0,Mod.refl _ _⟩
 case round=>
  obtain⟨i,hi,rfl,rfl,HJi,hm⟩:=hrel;replace kp:=hm.at0 kp;replace kq:=hm.at0 kq;replace kr:=hm.at0 kr;by_cases hlt:i<x.ins.l.length
  ·have hd:=Dt hlt;obtain⟨y,hy⟩:∃y,x.ins.l[i]? =some y:=⟨_,List.getElem?_eq_getElem hlt⟩;obtain⟨g,o,C,U,fr,ha,kg,he,hle⟩:=(HI.out.mod0 hm).block hy;have hs:=dSum_snoc hy;have hyb:=HB.out y (List.mem_of_getElem? hy);have HS:=Hi hs;clear hy hs;have hw:IntKind.u64.wrap (y.d.l.length:Int)=((UInt64.ofNat y.d.l.length).toNat:Int):=wrapi (by omega);have hle3:o+i*3+3≤C.size:=hle;go_upto_region 3 with fail;have Lkp:=Ls kp;have Lkg:=Ls kg;refine ZP0 [0,1,3,4] ?_;refine Zv ?_;refine Zd ?_;refine Za alIn fun p7 hp7=> ?_;refine Zt ?_;refine TD.nil (fun w3 hr=> ?_);replace kp:=hr.q kp;replace kg:=hr.q kg;obtain⟨gp7,kp7⟩:=hr.b p7;have hm3:=hm.then0 hr.mod;have HJ3:=Hi (HJ.out [] _ _ none HJi.out (grown_mod hr.mod) (fun r e=>by cases e));clear hr hle hle3 he;go_wp2_with fail;go_roundw
   case rel=>exact⟨i+1,by omega,by go_num,by rw[HS.out];exact add_len _ (by omega),HJ3,hm3⟩
   case measure=>simp[intOf];omega
  ·have hd:=Df hlt;obtain rfl:i=x.ins.l.length:=by omega
   rw[List.take_length];have HCO:Hid (∃su wu d,UInt64.ofNat x.sg.l.length=su∧UInt64.ofNat wn=wu∧dSum x.ins.l=d∧coL (UInt64.ofNat x.sg.l.length) (UInt64.ofNat wn) (dSum x.ins.l) u=coL su wu d u):=Hi ⟨_,_,_,rfl,rfl,rfl,rfl⟩;obtain⟨su,wu,d,hsu,hwu,hdd,hco⟩:=HCO.out;have HC:=Hi hco;rw[hdd];clear hco HCO hdd;have hws:IntKind.u64.wrap (x.sg.l.length:Int)=((UInt64.ofNat x.sg.l.length).toNat:Int):=wrapi (by omega);have hww:IntKind.u64.wrap (wn:Int)=((UInt64.ofNat wn).toNat:Int):=wrapi (by omega);rw[hsu]at hws;rw[hwu]at hww;clear hsu hwu;go_upto_region 6 with fail;refine(wpIn_wide (n:=n+1)).1 ?_;have hd4:((d/4).toNat:Int)=IntKind.u64.wrap ((d.toNat:Int)/4):=by
    have:=d.toNat_lt;rw[UInt64.toNat_div,IntKind.wrap_u64,show(4:UInt64).toNat=4 from rfl];omega
   have HD4:=Hi hd4;clear hd4
   gi_wp2
   refine⟨trivial,callsIn_wide.2 ?_⟩;refine(times720_c su _).mono ?_;rintro e w2 ⟨rfl,m2⟩;replace kp:=m2.at0 kp;replace kq:=m2.at0 kq;replace kr:=m2.at0 kr;have HJ2:=HJ.out [] _ _ none HJi.out (grown_mod m2) (fun r e=>by cases e);clear m2;obtain⟨fn1,tmps1,assign1,body1,hy1,hR1⟩:=HY.out [] (tim su 720) w2 HJ2 (by simp)
   gi_wp2
   refine hR1.mono ?_;rintro e w3 (⟨rfl,hJ3,hk3⟩|⟨rfl,hx3⟩)
   ·replace kp:=(hk3 p (.inl rfl)).trans kp;replace kq:=(hk3 q (.inr (.inl rfl))).trans kq;replace kr:=(hk3 r (.inr (.inr rfl))).trans kr;clear hk3 hy1 hR1
    gi_wp2
    go_upto_region 7 with fail;refine(wpIn_wide (n:=n+1)).1 ?_;have hmx:max 0 (wn:Int)=(wn:Int):=by omega
    gi_wp2
    refine⟨trivial,callsIn_wide.2 ?_⟩;refine(times300_c wu _).mono ?_;rintro e w4 ⟨rfl,m4⟩;replace kr:=m4.at0 kr;have HJ4:=HJ.out _ _ _ none hJ3 (grown_mod m4) (fun r e=>by cases e);clear m4;obtain⟨fn2,tmps2,assign2,body2,hy2,hR2⟩:=HY.out [tim su 720] (tim wu 300) w4 HJ4 (by simp)
    gi_wp2
    refine hR2.mono ?_;rintro e w5 (⟨rfl,hJ5,hk5⟩|⟨rfl,hx5⟩)
    ·replace kr:=(hk5 r (.inr (.inr rfl))).trans kr;clear hk5 hy2 hR2
     gi_wp2
     go_upto_region 8 with fail;refine(wpIn_wide (n:=n+1)).1 ?_;obtain⟨fn3,tmps3,assign3,body3,hy3,hR3⟩:=HY.out [tim su 720,tim wu 300] (d/4) w5 hJ5 (by simp);simp only[u64v,HD4.out]at hy3
     gi_wp2
     refine hR3.mono ?_;rintro e w6 (⟨rfl,hJ6,hk6⟩|⟨rfl,hx6⟩)
     ·replace kr:=(hk6 r (.inr (.inr rfl))).trans kr;clear hk6 hy3 hR3
      gi_wp2
      go_upto_region 9 with fail;refine(wpIn_wide (n:=n+1)).1 ?_;obtain⟨fn4,tmps4,assign4,body4,hy4,hR4⟩:=HY.out [tim su 720,tim wu 300,d/4] u w6 hJ6 (by simp)
      gi_wp2
      refine hR4.mono ?_;rintro e w7 (⟨rfl,hJ7,hk7⟩|⟨rfl,hx7⟩)
      ·gi_wp2
       go_wp2_with fail;go_end0;exact⟨⟨_,rfl⟩,.inl (by rw[HC.out];exact hJ7)⟩
      ·gi_wp2
       go_wp2_with fail;go_end0;exact⟨⟨_,rfl⟩,.inr ⟨_,hx7⟩⟩
     ·gi_wp2
      go_wp2_with fail;go_end0;exact⟨⟨_,rfl⟩,.inr ⟨_,hx6⟩⟩
    ·gi_wp2
     go_wp2_with fail;refine bodyPost_ret (results_none rfl _ _ _) rfl ?_;exact⟨⟨_,rfl⟩,.inr ⟨_,hx5⟩⟩
   ·gi_wp2
    go_wp2_with fail;refine bodyPost_ret (results_none rfl _ _ _) rfl ?_;exact⟨⟨_,rfl⟩,.inr ⟨_,hx3⟩⟩
theorem parts_stops (n p q r:Nat) (x:RdR) (wn:Nat) (u:UInt64) (hwr:wn≤1000000) (w:World) (kp:w.heap[p]? =some (.cells (txr x) 35 (0,0))) (kq:w.heap[q]? =some (.cells #[.int .i64 (wn:Int)] 3 (0,0))) (kr:w.heap[r]? =some (.cells #[u64v u] 37 (0,0)))
  (hins:SlAt inr 3 w x.ins.a x.ins.l) (b1:x.ins.l.length≤140737488355328) (b2:x.sg.l.length≤140737488355328) (b3:∀y∈x.ins.l,y.d.l.length≤140737488355328):
  SeqStopsK Fence.wide (n+1) Tryz.prog 117 #[pV p,pV q,pV r] (fun v:UInt64=> #[u64v v]) (KeepR (fun i=>i=p∨i=q∨i=r)) (fun xs=>xs=coL (UInt64.ofNat x.sg.l.length) (UInt64.ofNat wn) (dSum x.ins.l) u) (fun _=>True) 4 w:=fun l J Jx W hW hJ hJx hY h0=>by
 have hB:∀ {i:Nat} {o:Obj},w.heap[i]? =some o→W.heap[i]? =some o:=fun{i o} h=>(hW.block i (Ls h)).trans h;have hins':SlAt inr 3 W x.ins.a x.ins.l:=by
  rcases hins with h|⟨b,o,C,U,fr,h1,h2,h3⟩
  ·exact .inl h
  ·exact .inr ⟨b,o,C,U,fr,h1,hB h2,h3⟩
 refine(parts1_in n l p q r x wn u hwr J Jx W hJ hY (hB kp) (hB kq) (hB kr) hins' b1 b2 b3 h0).mono ?_;rintro e W' ⟨he,hj|⟨pre,hj⟩⟩
 ·exact⟨he,.inl ⟨_,rfl,hj⟩⟩
 ·exact⟨he,.inr ⟨pre,trivial,hj⟩⟩
def noPanic (Q:Exit→Act→World→Prop):Exit→Act→World→Prop:=fun e a w=>(∀c,e≠ .panic c)∧e≠ .outgrown∧Q e a w
theorem of_c (x:RdR) (wn:Nat) (u:UInt64) (hwr:wn≤1000000) (w:World) (hins:SlAt inr 3 w x.ins.a x.ins.l) (b1:x.ins.l.length≤140737488355328) (b2:x.sg.l.length≤140737488355328) (b3:∀y∈x.ins.l,y.d.l.length≤140737488355328):Calls Tryz.prog 29 #[.agg (txr x),.int .i64 (wn:Int),u64v u] w fun e w'=>e= .returned (u64v (coF (UInt64.ofNat x.sg.l.length) (UInt64.ofNat wn) (dSum x.ins.l) u))∧Mod (fun _=>False) w w':=by
 have HI:=Hi (Ai hins b3);clear hins b3;refine(callsIn_wide (n:=4)).1 ?_;refine callsIn_of_wp_marks Tryz.func29 rfl trivial ?_ rfl;simp only[Tryz.ntmps29,List.size_toArray,List.length_cons,List.length_nil,Nat.reduceAdd,Nat.reduceSub,Array.replicate_succ,Array.replicate_zero,List.push_toArray,List.append_toArray,List.nil_append,List.cons_append];refine wpIn_wide.2 ?_;refine wp_mono (Q:=noPanic _) ?_ (fun e a w h=>h.2.2);generalize hQ0:bodyPostM Fence.wide 4 Tryz.prog _ _=Q0;have HQ0:=Hi hQ0;clear hQ0;have hP:∀c a w,¬noPanic Q0 (.panic c) a w:=fun c a w h=>h.1 c rfl;have hLo:¬LetsOut (noPanic Q0):=fun⟨a,w,h⟩=>h.2.1 rfl;generalize hQ1:noPanic Q0=Q1 at *;have HQ1:=Hi hQ1;clear hQ1;go_upto_region 0 with fail;refine ZP0 [3,0] ?_;refine Zb fun p3 hp3=> ?_;refine Zv ?_;refine TD.nil (fun w1 hr=> ?_);obtain⟨gp3,kp3⟩:=hr.b p3;have m1:=hr.mod;clear hr;go_upto_region 1 with fail;have Lkp3:=Ls kp3;refine ZP0 [3,4] ?_;refine Za alU64 fun p7 hp7=> ?_;refine Zt ?_;refine TD.nil (fun w2 hr=> ?_);replace kp3:=hr.q kp3;obtain⟨gp7,kp7⟩:=hr.b p7;have m2:=m1.then0 hr.mod;have HLT:=Hi (Ai (Ls kp3) (Ai (Ls kp7) m1.size));clear hr;go_upto_region 2 with fail;go_wp2_with fail;go_at_call 77;refine(parts_c x _ u _).mono ?_;rintro e w3 ⟨p,q,r,rfl,kp,kq,kr,hp,hq,hr,m3⟩;replace kp7:=m3.at0 kp7;go_wp2_with fail;have m3w:=m2.then0 m3;have HM3:=Hi m3w;have HLQ:=Hi (Ai (Ls kp) (Ai (Ls kq) (Ls kr)));have hins3:SlAt inr 3 w3 x.ins.a x.ins.l:=HI.out.1.mod0 m3w;have h7:p7≠p∧p7≠q∧p7≠r:=by
  have h:=HLT.out;exact⟨by omega,by omega,by omega⟩
 have HK:=Hi (Ai kp7 (Ai kp (Ai kq (Ai kr hins3))));clear kp7 kp kq kr hins3 m3w m3 kp3;have hbs:∀(a b:UInt64) w,(Instr.buildSlice 158 2 #[(0,u64v a),(1,u64v b)]).run Tryz.prog w= .ok (.slice (some ⟨w.heap.size,0,none⟩) 2 2) (w.alloc (.cells #[u64v a,u64v b] 37)):=fun a b w=>by kernel_rfl
 refine wpIn_wide.1 (wpIn_rangeFunc_ownG (n:=3) rfl (by omega) (gf:=117) (lb:= #[pV p,pV q,pV r]) rfl trivial (enters_of Tryz.func117 (by kernel_rfl) rfl)
  (parts_stops 1 p q r x wn u hwr w3 HK.out.2.1 HK.out.2.2.1 HK.out.2.2.2.1 HK.out.2.2.2.2 b1 b2 HI.out.2) keepR_t (fun W l o o' hl hk _ _ i hi=>World.putObj_heap_other (by have:=HLQ.out;rcases hi with e|e|e<;>omega)) (Below.refl _ _) (fun _=>rfl)
  (fun pre W=>W.heap[p7]? =some (.cells #[u64v (pre.foldl sat 0)] 37 (0,0))∧Mod (fun i=>i=p7∨w3.heap.size≤i) w3 W)
  (fun _ _ _=>False) ?own (fun _ _ _ _ _ hs _ _=>hs) ⟨HK.out.1,Mod.refl _ _⟩
  (fun z=> {tmps:= #[.agg (txr x),.int .i64 (wn:Int),u64v u,pV p3,undef,undef,.int .u64 0,pV p7,u64v z,.agg (txr x),.int .i64 (wn:Int),u64v u,.func (.func 117) #[] #[pV p,pV q,pV r],u64v z,undef,undef,undef,undef,undef],defers:=[]}) ?assign ?body ?done ?stop)
 case own=>
  rintro pre W W' row ⟨h1,h2⟩ hg hr;have hlt:p7<w3.heap.size:=Ls HK.out.1;refine⟨(hg.block p7 (Ls h1) (fun e=>by have:=(hr p7 e.symm).1;omega)).trans h1,h2.then (⟨hg.os,hg.tape,hg.output,hg.size,fun k hk hne=>hg.block k hk (fun e=>hne (.inr (hr k e.symm).1))⟩:Mod (fun i=>i=p7∨w3.heap.size≤i) W W') (fun i hi e=>e)⟩
 case assign=>
  intro l z W K hK
  gi_wp2
  exact hK
 case body=>
  rintro l pre z W ⟨h1,h2⟩ hlt;have k7:=h1;have H2:=Hi h2;have K7:Hid (∃cs,W.heap[p7]? =some (.cells cs 37 (0,0))):=Hi ⟨_,h1⟩;clear h1 h2
  gi_wp2
  refine⟨trivial,CallsIn.inRound l (callsIn_wide.2 ?_)⟩;refine(wsum_c W.heap.size (pre.foldl sat 0) z _ (heap_alloc_new _ _)).mono ?_;rintro e W2 ⟨rfl,m2⟩;have mm:=((Mod.refl (fun _=>False) W).alloc (.cells #[u64v (pre.foldl sat 0),u64v z] 37)).trans m2;replace k7:=mm.at0 k7;clear m2
  gi_wp2
  rw[setCell_blk k7];have k8:=heap_setBlock W2 (.cells (#[u64v (pre.foldl sat 0)].setIfInBounds 0 (.int .u64 ((sat (pre.foldl sat 0) z).toNat:Int))) 37 (0,0)) (Ls k7);have m8:=(mm.mono (T:=fun i=>i=p7) (fun _ _ h=>h.elim)).trans (mod_set W2 p7 (.cells (#[u64v (pre.foldl sat 0)].setIfInBounds 0 (.int .u64 ((sat (pre.foldl sat 0) z).toNat:Int))) 37 (0,0)));have K0:∃cs,W.heap[p7]? =some (.cells cs 37 (0,0)):=K7.out;obtain⟨cs0,K0⟩:=K0;refine⟨(⟨m8.size,fun k o hk ho=>m8.at_ne hk (fun e=>by subst e;rw[K0]at hk;cases hk;cases ho)⟩:KeepsOthers W _).from _,fun i hi=> ?_,?_,H2.out.then m8 (fun i _ e=> .inl e)⟩
  ·refine m8.block i ?_ ?_
   ·have h1:=HLQ.out;have h2:=H2.out.size;rcases hi with e|e|e<;>omega
   ·rcases hi with e|e|e<;>omega
  ·rw[List.foldl_append];exact k8
 case done=>
  rintro D xs W hD rfl ⟨h1,h2⟩ hK;have H2:=Hi h2;clear h2;go_wp2_with fail;rw[←HQ1.out];refine⟨fun c h=>(by cases h),fun h=>(by cases h),?_⟩;rw[←HQ0.out];refine⟨by simp,.inl ⟨_,_,rfl,run_takeDeferred hK,?_⟩⟩;refine⟨_,results_tmp rfl _ _ _,rfl,?_⟩;have hw3:=HM3.out.size;have hg7:=HLT.out.2.2;have mm:=HM3.out.then H2.out (fun i hi e=>by rcases e with e|e<;>omega);exact⟨mm.os,mm.tape,mm.output,by rw[World.putObj_size];exact mm.size,fun k hk hne=>(World.putObj_heap_other (by omega)).trans (mm.block k hk hne)⟩
 case stop=>
  rintro D c pre W hD _ h _;exact h.elim
end
section
attribute [local go_sem↓] ldRole stRole
attribute [local go_sem] rc_size rc_key rc_all rc_s' rc_w' rc_one zRole_size
theorem wrL_snoc {l:List Role} {i:Nat} {x:Role} (hx:l[i]? =some x):wrL (l.take (i+1))=wrL (l.take i)++(if x.w then [x.k]else []):=by
 rw[List.take_add_one,hx];cases h:x.w<;>simp[wrL,h]
theorem wrL_len (l:List Role):(wrL l).length≤l.length:=by
 unfold wrL;rw[List.length_map];exact List.length_filter_le _ _
theorem role_at {w:World} {a:Option Addr} {l:List Role} (h:SlAt rcr 34 w a l) {i:Nat} {x:Role} (hx:l[i]? =some x):∃g o C U fr,a=some ⟨g,o,none⟩∧w.heap[g]? =some (.cells C U fr)∧C.extract (o+i*34) (o+i*34+34)=rc x.k x.s x.w∧o+i*34+34≤C.size:=h.block hx
theorem bsKey (k:Key) (w:World):(Instr.buildSlice 27 1 #[(0,.agg (kc k))]).run Tryz.prog w= .ok (.slice (some ⟨w.heap.size,0,none⟩) 1 1) (w.alloc (.cells (kc k) 82)):=by
 obtain⟨i0,hi,hz0,hz1,hz2⟩:=info_parts (show(Tryz.prog.info? 82).map (fun i=>(i.zero,i.size,i.bytes))=some (some (.agg zKey),32,32)by kernel_rfl);refine run_buildSlice w _ _ 1 _ _ i0 _ Tryz.underlying27 hi hz0 (by rw[hz1];omega) (by rw[hz1];omega) ?_;rw[hz1];show Instr.fill _ _ [(0,_)]=_;rw[fill_cons (off:=0) (n:=32) rfl (by simp[Value.cells]) (by simp[Value.cells,zKey_size,size_madeCells])];show some (wr _ 0 (kc k).toList)=_;rw[wr_whole (kc k) _ (by simp[Value.cells,zKey_size,size_madeCells])]
theorem written_c (a:Option Addr) (l:List Role) (c:Nat) (w:World) (hl:SlAt rcr 34 w a l) (hn:l.length≤100000):Calls Tryz.prog 30 #[.slice a l.length c] w fun e w'=>∃v,e= .returned v∧NewS kc 32 82 w.heap.size w' v (wrL l)∧Mod (fun _=>False) w w':=by
 have HL:=Hi hl;clear hl;go_enter Tryz.func30,Tryz.ntmps30;go_wp2_with fail;go_loopw [2,7] (fun s2 s7 ws=>∃i:Nat,i≤l.length∧s7= .int .i64 (i:Int)∧Hid (SlOwn kc 32 82 ws w.heap.size s2 (wrL (l.take i)))∧Mod (fun _=>False) w ws) (fun _ s7 _=>l.length-(intOf s7).toNat)
 case atStart=>exact⟨0,Nat.zero_le _,rfl,Hi (SlOwn.nil _ _),Mod.refl _ _⟩
 case round=>
  obtain⟨i,hi,rfl,HO,hm⟩:=hrel;by_cases hlt:i<l.length
  ·have hd:=Dt hlt;obtain⟨x,hx⟩:∃x,l[i]? =some x:=⟨_,List.getElem?_eq_getElem hlt⟩;obtain⟨g,o,C,U,fr,rfl,kg,he,hle⟩:=role_at (HL.out.mod0 hm) hx;have hlen:=wrL_len (l.take i);have hlen2:=List.length_take_le i l;have HN:Hid ((wrL (l.take i)).length≤100000):=Hi (by omega);have HX:=Hi (wrL_snoc hx);clear hx hlen hlen2;obtain⟨xk,xs,xw⟩:=x;dsimp only at he HX;go_upto_region 3 with fail;have Lkg:=Ls kg;refine ZP0 [0,1,3,4] ?_;refine Zv ?_;refine Zd ?_;refine Za alRole fun p4 hp4=> ?_;refine Zt ?_;refine TD.nil (fun w3 hr=> ?_);replace kg:=hr.q kg;obtain⟨gp4,kp4⟩:=hr.b p4;have hm3:=hm.then0 hr.mod;have HO3:=Hi (HO.out.mod0 hr.mod);clear hr he hle kg;cases xw with
   |false=>
    have HX2:Hid (wrL (l.take (i+1))=wrL (l.take i)):=Hi (by rw[HX.out];simp);go_wp2_with fail;go_roundw
    case rel=>exact⟨i+1,by omega,by go_num,Hi (by rw[HX2.out];exact HO3.out),hm3⟩
    case measure=>simp[intOf];omega
   |true=>
    have HX2:Hid (wrL (l.take (i+1))=wrL (l.take i)++[xk]):=Hi (by rw[HX.out];simp);have hbs:=bsKey xk;obtain⟨a2,c2,rfl,_⟩:=HO3.out.at keysT;generalize hll:(wrL (l.take i)).length=ll at *;have HLL:=Hi hll;clear hll;go_upto_region 5 with fail;have Lkp4:=Ls kp4;refine ZP0 [0,0,1,3,5,0] ?_
    iterate 3 first|refine Zv ?_|refine Zd ?_
    refine Zy hbs fun p16 hp16=> ?_;refine Zi fun w4 hr=> ?_;replace kp4:=hr.q kp4;obtain⟨gp16,kp16⟩:=hr.b p16;have m4:=hr.mod;clear hr hbs;obtain⟨v5,w5,hap,hO5,m5,hn5⟩:=SlOwn.append keysT (q:=[xk]) (c:=1) (HO3.out.mod0 m4) (SlAt.one kp16 xk rfl (kc_size _)) (by have:=HN.out;have:=HLL.out;simp only[List.length_singleton];omega) (by decide) (Nat.le_trans hm3.size m4.size) 27;have hlo:=HO3.out.lt;have hm5:Mod (fun _=>False) w w5:=(hm3.then0 m4).then m5 (fun j hj e=>by have:=(hlo j e).1;omega);have HO5:=Hi hO5;clear hO5 m5 m4 hn5 hlo;refine ZA hap ?_;refine Ze ?_;refine TE.nil ?_;go_wp2_with fail;go_roundw
    case rel=>exact⟨i+1,by omega,by go_num,Hi (by rw[HX2.out];exact HO5.out),hm5⟩
    case measure=>simp[intOf];omega
  ·have hd:=Df hlt;obtain rfl:i=l.length:=by omega
   obtain⟨a2,c2,v2,rfl,hcl,hN⟩:=HO.out.clip keysT;rw[List.take_length]at hcl hN;have HNN:=Hi hN;have HCL:=Hi hcl;clear hcl hN;rw[List.take_length];go_wp2_with fail;go_at_call 79;refine(clipKr_c v2 _ _ HCL.out).mono ?_;rintro e w5 ⟨rfl,rfl⟩;go_wp2_with fail;go_ret;exact⟨_,rfl,HNN.out,hm⟩
end
section
open Go.RowKit Go.Extern.Stop Go.Stop Go.Extern
theorem eiTypeOf (v:Value) (w:World):(Extern.ReflectliteType.typeOf #[.iface 42 v]).run Tryz.prog w= .ok (.iface 187 (.agg #[.pointer (some ⟨4,42,none⟩)])) w:=by kernel_rfl
def cmpM:Array Value→Sem Value:=Extern.ReflectliteType.method fun t=>do Extern.Rtype.noPackHeld "Comparable" t;pure (.bool (←typeInfo t).comparable)
theorem eiComparable (w:World):(cmpM #[.agg #[.pointer (some ⟨4,42,none⟩)]]).run Tryz.prog w= .ok (.bool true) w:=by kernel_rfl
theorem eiMethod (v:Value) (w:World):(Go.method 371 187 v "Comparable").run Tryz.prog w= .ok (183,v) w:=by kernel_rfl
theorem eiNoIs (v:Value) (xT:TypeId) (w:World):(Instr.typeAssert (.iface 42 v) xT 189 true).run Tryz.prog w= .ok (.tuple #[.nilIface,.bool false]) w:=run_typeAssert_lacksB Tryz.underlying189 (by kernel_rfl) (by kernel_rfl) v xT w
theorem eiNoUnwrap (v:Value) (xT:TypeId) (w:World):(Instr.typeAssert (.iface 42 v) xT 192 true).run Tryz.prog w= .ok (.tuple #[.nilIface,.bool false]) w:=run_typeAssert_lacksB Tryz.underlying192 (by kernel_rfl) (by kernel_rfl) v xT w
theorem eiNoUnwraps (v:Value) (xT:TypeId) (w:World):(Instr.typeAssert (.iface 42 v) xT 194 true).run Tryz.prog w= .ok (.tuple #[.nilIface,.bool false]) w:=run_typeAssert_lacksB Tryz.underlying194 (by kernel_rfl) (by kernel_rfl) v xT w
theorem eis_c (a b:Int) (w:World):Calls Tryz.prog 85 #[.iface 42 (.int .i64 a),.iface 42 (.int .i64 b),.bool true] w fun e w'=>e= .returned (.bool (decide (a=b)))∧w'=w:=by
 have nE:=eiNoIs;have uE:=eiNoUnwrap;have vE:=eiNoUnwraps;have heq0:∀w:World,(binOp .eql 141 (.iface 42 (.int .i64 a)) (.iface 42 (.int .i64 b))).run Tryz.prog w= .ok (.bool (a==b)) w:=fun w=>Go.Lib.run_eql_iface_int (P:=Tryz.prog) (k:= .i64) w a b Tryz.underlying141 (by kernel_rfl) Tryz.underlying42;by_cases h:a=b
 ·have hab:(a==b)=true:=by simp[h]
  have heq:∀w:World,(binOp .eql 141 (.iface 42 (.int .i64 a)) (.iface 42 (.int .i64 b))).run Tryz.prog w= .ok (.bool (a==b)) w:=heq0;simp only[hab]at heq;clear heq0;rw[Dt h];subst h;clear hab;go_enter Tryz.func85,Tryz.ntmps85
  go_wp2
  refine wp_loop_rounds 1 ?_;rw[rounds_succ]
  go_wp2
  go_ret;exact⟨rfl,rfl⟩
 ·have hab:(a==b)=false:=by simp[h]
  have heq:∀w:World,(binOp .eql 141 (.iface 42 (.int .i64 a)) (.iface 42 (.int .i64 b))).run Tryz.prog w= .ok (.bool (a==b)) w:=heq0;simp only[hab]at heq;clear heq0;rw[Df h];clear h hab;go_enter Tryz.func85,Tryz.ntmps85
  go_wp2
  refine wp_loop_rounds 1 ?_;rw[rounds_succ]
  go_wp2
  go_ret;exact⟨rfl,rfl⟩
theorem eIs_c (a b:Int) (w:World):Calls Tryz.prog 35 #[.iface 42 (.int .i64 a),.iface 42 (.int .i64 b)] w fun e w'=>e= .returned (.bool (decide (a=b)))∧w'=w:=by
 have h8:= @run_callFunc_extern Tryz.prog 84 _ Extern.ReflectliteType.typeOf Tryz.func84 (by kernel_rfl) (by kernel_rfl) (by kernel_rfl) (by kernel_rfl);have h32:= @run_callFunc_extern Tryz.prog 183 _ cmpM Tryz.func183 (by kernel_rfl) (by kernel_rfl) (by kernel_rfl) (by kernel_rfl);have tT:=eiTypeOf;have cT:=eiComparable;have mR:=eiMethod;have nE:=eiNoIs;have uE:=eiNoUnwrap;have vE:=eiNoUnwraps;go_enter Tryz.func35,Tryz.ntmps35;go_wp2_with fail;go_at_call 85;refine(eis_c a b _).mono ?_;rintro e w2 ⟨rfl,rfl⟩;go_wp2_with fail;go_ret;exact⟨rfl,rfl⟩
theorem wrong_c (a:Int) (w:World):Calls Tryz.prog 36 #[.int .i64 a] w fun e w'=>e= .returned (.bool (!decide (a=0)))∧w'=w:=by
 go_enter Tryz.func36,Tryz.ntmps36;go_wp2_with fail;go_at_call 35;refine(eIs_c a 0 _).mono ?_;rintro e w2 ⟨rfl,rfl⟩;go_wp2_with fail;go_ret;exact⟨by first|rfl|simp,rfl⟩
end
section
attribute [local go_sem↓] wlRdy ldRdy stRdy
attribute [local go_sem] zTc_size zTc_ext zTc_all zTc_all0 txr_ms rdr_size rdr_all rdr_one zRdy_size
theorem bRdy0 (w:World):(Instr.build 41 #[]).run Tryz.prog w= .ok (.agg zRdy) w:=by kernel_rfl
theorem zRdy_one:zRdy.all (·.oneCell') 0 48=true:=rdr_one rd0
attribute [local go_sem] zRdy_one
theorem ldRdyR {w:World} {p:Nat} {r:RdR} {U:TypeId} {fr:Nat×Nat} (h:w.heap[p]? =some (.cells (rdr r) U fr)):(Instr.loadAt 41 (.pointer (some ⟨p,0,none⟩))).run Tryz.prog w= .ok (.agg (rdr r)) w:=by
 rw[ldRdy];simp[h,rdr_size,rdr_all]
theorem ldRdyZ {w:World} {p:Nat} {U:TypeId} {fr:Nat×Nat} (h:w.heap[p]? =some (.cells zRdy U fr)):(Instr.loadAt 41 (.pointer (some ⟨p,0,none⟩))).run Tryz.prog w= .ok (.agg zRdy) w:=ldRdyR (r:=rd0) h
def ryP (r:RdR):RyP:=⟨r.b.l,txP r,r.ro.l,r.un,r.pr,r.bad.toInt,r.fee,r.cost,r.prio⟩
def RyO (b:Nat) (w:World) (r:RdR):Prop:=TxO b w r∧NewS uc 1 5 b w (.slice r.b.a r.b.l.length r.b.c) r.b.l∧NewS rcr 34 91 b w (.slice r.ro.a r.ro.l.length r.ro.c) r.ro.l∧
 (∀g∈blk r,∀h,(Value.slice r.ro.a r.ro.l.length r.ro.c).ownBlock=some h→g<h)∧(∀g∈blk r,∀h,(Value.slice r.b.a r.b.l.length r.b.c).ownBlock=some h→g<h)∧
 ∀g h,(Value.slice r.ro.a r.ro.l.length r.ro.c).ownBlock=some g→(Value.slice r.b.a r.b.l.length r.b.c).ownBlock=some h→g<h
def ReaP (T:TbL) (w:World) (l:List UInt8) (e:Ending) (w':World):Prop:=Mod (fun _=>False) w w'∧match readyP T l with
 | .ok y=>∃r,e= .returned (.tuple #[.agg (rdr r),i64n 0])∧RyO w.heap.size w' r∧ryP r=y∧TxB (txP r)
 | .error n=>e= .returned (.tuple #[.agg zRdy,i64n n])
theorem fnd_ne (T:TbL) (k:Key):∃e0:Nat,(if(tbFind T k).isSome then(0:Int)else 11)=(e0:Int)∧¬((e0:Int)=2):=by
 by_cases h:(tbFind T k).isSome=true
 ·exact⟨0,by rw[if_pos h];rfl,by decide⟩
 ·exact⟨11,by rw[if_neg h];rfl,by decide⟩
theorem wire_few {l:List UInt8} {x:TxP} (h:wireP l= .ok x):totP x≤64∧chkP x=0:=by
 unfold wireP at h;split at h
 ·cases h
 ·split at h
  ·rename_i h0;cases h;refine⟨?_,h0⟩;unfold chkP at h0;split at h0
   ·cases h0
   ·split at h0
    ·cases h0
    ·split at h0
     ·cases h0
     ·split at h0
      ·cases h0
      ·rename_i h1;have:fewP x=true:=by simpa using h1
       exact of_decide_eq_true this
  ·cases h
theorem res_ne {T:TbL}:∀ {L:List LoP} {o:List Key×List Key} {n:Nat},resP T L o= .error n→n≠0
 |[],o,n,h=>by cases h
 |x::xs,o,n,h=>by
  unfold resP at h;split at h
  ·cases h;decide
  ·split at h
   ·exact res_ne h
   ·cases h;decide
theorem TxO.lo {b:Nat} {w:World} {x:RdR} (h:TxO b w x) (hB:TxB (txP x)):∀y∈x.lks.l,LoF w y:=by
 obtain⟨h1,h2,h3,h4,h5,h6,h7⟩:=h;obtain⟨b1,b2,⟨b3,b4⟩,b5,b6⟩:=hB;simp only[txP,msgP,List.length_map]at b1 b2 b3 b4 b5 b6;intro i hi;obtain⟨y,hy,_,e2,e3,e4,e5⟩:=h6.1.left i hi;have hb:=b6 y hy;rw[←e2]at e4;rw[←e3]at e5;obtain⟨a4,q4,s4,o4⟩:=e4.at;obtain⟨a5,q5,s5,o5⟩:=e5.at;injection q4 with q41 q42 q43
 injection q5 with q51 q52 q53
 exact⟨⟨by rw[q41];exact s4,fun g o e=>(o4 g o (by rw[←q41];exact e)).2,by rw[e2];exact hb.1⟩,by rw[q51];exact s5,fun g o e=>(o5 g o (by rw[←q51];exact e)).2,by rw[e3];exact hb.2⟩
theorem lo_tot (z:RdR):loSum z.lks.l≤totP (txP z):=by
 have:(z.lks.l.map loP).map (fun l=>l.w.length+l.r.length)=z.lks.l.map (fun x=>x.w.l.length+x.r.l.length):=by
  rw[List.map_map];rfl
 show(z.lks.l.map (fun x=>x.w.l.length+x.r.l.length)).sum≤(msgP z).ks.length+((z.lks.l.map loP).map (fun l=>l.w.length+l.r.length)).sum;rw[this];exact Nat.le_add_left _ _
theorem rdrT (x:RdR):(rdr x).toList= .slice x.b.a x.b.l.length x.b.c::((txr x).toList++(rpost x).drop 2):=by
 simp[rdr,txr,mx,rpre,rpost]
theorem zRdyT:zRdy.toList.drop 45=[.int .u64 0,.int .u64 0,.int .u64 0]:=by
 simp[zRdy,rdr,mx,rpre,rpost,rd0,key0,List.drop_append]
theorem bldRy (z:RdR) (a1 ra:Option Addr) (l:List UInt8) (ro:List Role) (un pr:UInt64) (bad:Int64) (w:World):
  (Instr.build 41 #[(0,.slice a1 l.length l.length),(1,.agg (txr z)),(2,.slice ra ro.length ro.length),(3,.agg (bgR un pr bad.toInt))]).run Tryz.prog w= .ok (.agg (rdr {z with b:=⟨a1,l,l.length⟩,ro:=⟨ra,ro,ro.length⟩,un:=un,pr:=pr,bad:=bad,fee:=0,cost:=0,prio:=0})) w:=by
 refine run_build_struct (z:= .agg zRdy) (places:= #[(0,1),(1,40),(41,1),(42,3),(45,1),(46,1),(47,1)]) Tryz.underlying41 (fun w=>by kernel_rfl) (fun w=>by kernel_rfl) ?_ w;show Instr.fill _ zRdy [(0,_),(1,_),(2,_),(3,_)]=_;rw[fill_cons (off:=0) (n:=1) rfl rfl (by rw[zRdy_size];omega),fill_cons (off:=1) (n:=40) rfl (by simp[Value.cells,txr_size]) (by rw[wr_size,zRdy_size];omega),fill_cons (off:=41) (n:=1) rfl rfl (by rw[wr_size,wr_size,zRdy_size];omega),fill_cons (off:=42) (n:=3) rfl rfl (by rw[wr_size,wr_size,wr_size,zRdy_size];omega)];refine congrArg some ?_;apply Array.toList_inj.1;obtain⟨tl,htl⟩:∃tl,(txr z).toList=tl:=⟨_,rfl⟩;have hk:tl.length=40:=by rw[←htl];simp[txr_size]
 obtain⟨zl,hzl⟩:∃zl,zRdy.toList=zl:=⟨_,rfl⟩;have hzk:zl.length=48:=by rw[←hzl];simp[zRdy_size]
 have hz45:=zRdyT;rw[hzl]at hz45;rw[rdrT,show txr {z with b:=⟨a1,l,l.length⟩,ro:=⟨ra,ro,ro.length⟩,un:=un,pr:=pr,bad:=bad,fee:=0,cost:=0,prio:=0}=txr z from rfl,htl];simp only[Value.cells];rw[htl];rw[wr_list _ _ _ (by simp only[wr_size,zRdy_size,bgR];simp),wr_list _ _ _ (by simp only[wr_size,zRdy_size];simp),wr_list _ _ _ (by simp only[wr_size,zRdy_size];rw[hk];decide),wr_list _ _ _ (by simp only[zRdy_size];simp),hzl];simp[List.take_append,List.drop_append,hk,hzk,bgR,rpost,hz45,List.take_of_length_le,List.drop_of_length_le]
theorem rdr_bg (x:RdR):(rdr x).extract 42 45=bgR x.un x.pr x.bad.toInt:=by
 have:=part_of (pre:=rpre x++(x.rc.l.map bc++(rpost x).take 3)) (mid:=((rpost x).drop 3).take 3) (post:=(rpost x).drop 6) (a:=42) (b:=45) (by simp[rpre,rpost,x.rc.h]) (by simp[rpre,rpost,x.rc.h]);simpa[rdr,bgR,mx,rpre,rpost] using this
theorem rdr42 (x:RdR):(rdr x)[42]? =some (u64v x.un):=mx_post 3
theorem rdr42' (x:RdR) (h:42<(rdr x).size):(rdr x)[42]=u64v x.un:=at_get (rdr42 x) h
theorem rdr46 (x:RdR):(rdr x)[46]? =some (u64v x.cost):=mx_post 7
theorem rdr46' (x:RdR) (h:46<(rdr x).size):(rdr x)[46]=u64v x.cost:=at_get (rdr46 x) h
theorem set_fee (x:RdR) (z:UInt64):(rdr x).setIfInBounds 45 (u64v z)=rdr {x with fee:=z}:=mx_setpost 6 _
theorem set_cost (x:RdR) (z:UInt64):(rdr x).setIfInBounds 46 (u64v z)=rdr {x with cost:=z}:=mx_setpost 7 _
theorem set_prio (x:RdR) (z:UInt64):(rdr x).setIfInBounds 47 (u64v z)=rdr {x with prio:=z}:=mx_setpost 8 _
theorem budR_bg (s:BuP) (h:s.badI= -1∨∃j:Nat,s.badI=(j:Int)∧j≤1000000):∃b:Int64,b.toInt=s.badI∧budR s=bgR s.units s.price b.toInt:=by
 refine⟨Int64.ofInt s.badI,?_,?_⟩
 ·rw[Int64.toInt_ofInt_of_le (by rcases h with h|⟨j,h,_⟩<;>rw[h]<;>simp<;>omega) (by rcases h with h|⟨j,h,_⟩<;>rw[h]<;>simp<;>omega)]
 ·rw[Int64.toInt_ofInt_of_le (by rcases h with h|⟨j,h,_⟩<;>rw[h]<;>simp<;>omega) (by rcases h with h|⟨j,h,_⟩<;>rw[h]<;>simp<;>omega)];rfl
theorem budL_bad {m:MsP}:∀ {L:List InP} {s:BuP} {j:Nat},(∀k,s.bad=some k→k≤j)→∀k,(budL m s j L).bad=some k→k≤j+L.length
 |[],s,j,h,k,hk=>h k hk
 |x::L,s,j,h,k,hk=>by
  rw[budL]at hk;have h1:∀k,(budStep m s j x).bad=some k→k≤j+1:=by
   intro k hk;unfold budStep at hk;split at hk
   ·have:=h k hk;omega
   ·split at hk
    ·have:=h k hk;omega
    ·split at hk
     ·cases hk;omega
     ·split at hk
      ·cases hk;omega
      ·have:=h k hk;omega
     ·split at hk
      ·cases hk;omega
      ·have:=h k hk;omega
  have:=budL_bad h1 k hk;rw[List.length_cons];omega
theorem budP_bg (m:MsP) (h:m.ins.length≤900000):∃b:Int64,b.toInt=(budP m).badI∧budR (budP m)=bgR (budP m).units (budP m).price b.toInt:=by
 refine budR_bg _ ?_;cases hb:(budP m).bad with
 |none=>exact .inl (by unfold BuP.badI;rw[hb])
 |some j=>
  have:=budL_bad (m:=m) (L:=m.ins) (s:=⟨0,none,none,none⟩) (j:=0) (fun k h=>by cases h) j hb;exact .inr ⟨j,by unfold BuP.badI;rw[hb],by omega⟩
theorem res_len {T:TbL}:∀ {L:List LoP} {o y:List Key×List Key},resP T L o= .ok y→y.1.length+y.2.length=o.1.length+o.2.length+(L.map (fun l=>l.w.length+l.r.length)).sum
 |[],o,y,h=>by cases h;simp
 |x::xs,o,y,h=>by
  unfold resP at h;split at h
  ·cases h
  ·split at h
   ·rename_i a b ha hb;have h1:=res_len h;have h2:=pick_len ha;have h3:=pick_len hb;simp only[List.length_append]at h1;rw[List.map_cons,List.sum_cons];omega
   ·cases h
def ryR (z:RdR) (a1 ra:Option Addr) (l:List UInt8) (n:Nat) (ro:List Role) (m:Nat) (un pr:UInt64) (bad:Int64) (fe co pi:UInt64):RdR:= {z with b:=⟨a1,l,n⟩,ro:=⟨ra,ro,m⟩,un:=un,pr:=pr,bad:=bad,fee:=fe,cost:=co,prio:=pi}
section
variable (z:RdR) (a1 ra:Option Addr) (l:List UInt8) (n:Nat) (ro:List Role) (m:Nat) (un pr:UInt64) (bad:Int64) (fe co pi:UInt64)
theorem ryR_fee (v:UInt64):(rdr (ryR z a1 ra l n ro m un pr bad fe co pi)).setIfInBounds 45 (u64v v)=rdr (ryR z a1 ra l n ro m un pr bad v co pi):=set_fee _ v
theorem ryR_cost (v:UInt64):(rdr (ryR z a1 ra l n ro m un pr bad fe co pi)).setIfInBounds 46 (u64v v)=rdr (ryR z a1 ra l n ro m un pr bad fe v pi):=set_cost _ v
theorem ryR_prio (v:UInt64):(rdr (ryR z a1 ra l n ro m un pr bad fe co pi)).setIfInBounds 47 (u64v v)=rdr (ryR z a1 ra l n ro m un pr bad fe co v):=set_prio _ v
theorem ryR_bg:(rdr (ryR z a1 ra l n ro m un pr bad fe co pi)).extract 42 45=bgR un pr bad.toInt:=rdr_bg _
theorem ryR42:(rdr (ryR z a1 ra l n ro m un pr bad fe co pi))[42]? =some (u64v un):=rdr42 _
theorem ryR42' (h:42<(rdr (ryR z a1 ra l n ro m un pr bad fe co pi)).size):(rdr (ryR z a1 ra l n ro m un pr bad fe co pi))[42]=u64v un:=rdr42' _ h
theorem ryR46:(rdr (ryR z a1 ra l n ro m un pr bad fe co pi))[46]? =some (u64v co):=rdr46 _
theorem ryR46' (h:46<(rdr (ryR z a1 ra l n ro m un pr bad fe co pi)).size):(rdr (ryR z a1 ra l n ro m un pr bad fe co pi))[46]=u64v co:=rdr46' _ h
theorem bldRyR (hn:l.length=n) (hm:ro.length=m) (w:World):
  (Instr.build 41 #[(0,.slice a1 n n),(1,.agg (txr z)),(2,.slice ra m m),(3,.agg (bgR un pr bad.toInt))]).run Tryz.prog w= .ok (.agg (rdr (ryR z a1 ra l n ro m un pr bad 0 0 0))) w:=by
 subst hn hm;exact bldRy z a1 ra l ro un pr bad w
end
end
theorem bsU1 (x:UInt8) (w:World):(Instr.buildSlice 22 1 #[(0,u8v x)]).run Tryz.prog w= .ok (.slice (some ⟨w.heap.size,0,none⟩) 1 1) (w.alloc (.cells #[u8v x] 5)):=by kernel_rfl
theorem cloneNone_c (w:World):Calls Tryz.prog 40 #[.slice none 0 0] w fun e w'=>e= .returned (.slice none 0 0)∧w=w':=by
 have he:=eqNilY;go_enter Tryz.func40,Tryz.ntmps40;go_wp2_with fail;go_ret;exact⟨rfl,rfl⟩
theorem byte_more {w:World} {base p:Nat} {v:Value} {l:List UInt8} {x:UInt8} (h:SlOwn uc 1 5 w base v l) (hp:w.heap[p]? =some (.cells #[u8v x] 5 (0,0))) (hl:l.length≤900000) (hb:base≤w.heap.size):
  ∃v' w',(Builtin.append_ #[22,22] 22 #[v,.slice (some ⟨p,0,none⟩) 1 1]).run Tryz.prog w= .ok v' w'∧SlOwn uc 1 5 w' base v' (l++[x])∧Mod (fun i=>v.ownBlock=some i) w w':=by
 obtain⟨v',w',h1,h2,h3,_⟩:=SlOwn.append bytesT (q:=[x]) (c:=1) h (SlAt.one hp x rfl rfl) (by simp;omega) (by decide) hb 22;exact⟨v',w',h1,h2,h3⟩
theorem clip_new {l:List UInt8} {b:Nat} {v:Value} {w:World} (h:SlOwn uc 1 5 w b v l):∃a c,v= .slice a l.length c∧(∀w2,(Instr.sliceAt 22 (.slice a l.length c) none (some (.int .i64 (l.length:Int))) (some (.int .i64 (l.length:Int)))).run Tryz.prog w2= .ok (.slice a l.length l.length) w2)∧NewS uc 1 5 b w (.slice a l.length l.length) l:=by
 obtain⟨a,c,e,h1,h2,h3,h4⟩:=clip_own bytesT h;obtain⟨a',c',v2,e',h1',h2'⟩:=h.clip bytesT;have hv:v2= .slice a l.length l.length:=by
  have e1:=h1 w;rw[h1' w]at e1;injection e1 with e1 _
 subst hv;subst e;exact⟨a,c,rfl,h1,h2'⟩
theorem or_128 (n:Nat):bits .or .u8 (IntKind.u8.wrap (n:Int)) 128=((UInt8.ofNat (n % 128+128)).toNat:Int):=by
 have h1:IntKind.u8.wrap (n:Int)=((n % 256:Nat):Int):=by rw[IntKind.wrap_u8];omega
 rw[h1,UInt8.toNat_ofNat'];have h2:∀k:Fin 256,bits .or .u8 ((k.val:Nat):Int) 128=((k.val % 128+128:Nat):Int):=by decide+kernel
 have h3:=h2 ⟨n % 256,by omega⟩;simp only at h3;rw[h3];omega
theorem putShort_c (n:Nat) (h:n≤65535) (w:World):Calls Tryz.prog 64 #[.slice none 0 0,.int .i64 (n:Int)] w fun e w'=>∃a,e= .returned (.tuple #[.slice a (shP n).length (shP n).length,.int .i64 0])∧NewS uc 1 5 w.heap.size w' (.slice a (shP n).length (shP n).length) (shP n)∧Mod (fun _=>False) w w':=by
 have hd1:decide ((n:Int)<0)=false:=Df (by omega);have hd2:decide ((n:Int)>65535)=false:=Df (by omega);have hd3:decide ((65535:Int)<(n:Int))=false:=Df (by omega);have hd4:decide (65535<n)=false:=Df (by omega);have HO:Hid (SlOwn uc 1 5 w w.heap.size (.slice none 0 0) ([]:List UInt8)):=Hi (SlOwn.nil _ _);have HM:Hid (Mod (fun _=>False) w w):=Hi (Mod.refl _ _);by_cases h3:16384≤n
 ·have hd5:decide ((16384:Int)≤(n:Int))=true:=Dt (by omega);have hd6:decide (16384≤n)=true:=Dt h3;obtain⟨x,hx⟩:∃x,UInt8.ofNat (n % 128+128)=x:=⟨_,rfl⟩;obtain⟨y,hy⟩:∃y,UInt8.ofNat (n/128 % 128+128)=y:=⟨_,rfl⟩;obtain⟨z,hz⟩:∃z,UInt8.ofNat (n/16384)=z:=⟨_,rfl⟩;have hs:shP n=[x,y,z]:=by
   unfold shP;rw[if_neg (by omega),if_neg (by omega),hx,hy,hz]
  obtain⟨m,hm⟩:∃m,n/128=m:=⟨_,rfl⟩;obtain⟨o,ho⟩:∃o,m/128=o:=⟨_,rfl⟩;have hsh1:(n:Int)/128=(m:Int):=by omega
  have hsh2:(m:Int)/128=(o:Int):=by omega
  have hx1:bits .or .u8 (IntKind.u8.wrap (n:Int)) 128=(x.toNat:Int):=by rw[←hx];exact or_128 n
  have hx2:bits .or .u8 (IntKind.u8.wrap (m:Int)) 128=(y.toNat:Int):=by rw[←hy,hm];exact or_128 m
  have hx3:IntKind.u8.wrap (o:Int)=(z.toNat:Int):=by
   rw[←hz,UInt8.toNat_ofNat',IntKind.wrap_u8];omega
  have HS:=Hi hs;clear h3 hs hx hy hz h hm ho;go_enter Tryz.func64,Tryz.ntmps64;go_wp2_with fail;go_at_call 40;refine(cloneNone_c _).mono ?_;rintro e w1 ⟨rfl,rfl⟩;go_upto_region 6 with fail;refine ZP0 [0,0,0,0,3,5,0] ?_
  iterate 4 refine Zv ?_
  refine Zy (bsU1 x) fun p25 hp25=> ?_;refine Zi fun w2 hr=> ?_;obtain⟨gp25,kp25⟩:=hr.b p25;have HMa:=Hi (HM.out.then0 hr.mod);obtain⟨v3,w3,hap,hO3,m3⟩:=byte_more (x:=x) (HO.out.mod0 hr.mod) kp25 (by simp) HMa.out.size;have HM:Hid (Mod (fun _=>False) w w3):=Hi (HMa.out.then m3 (fun i hi e=>by have:=HO.out.lt i e;omega));have HO:=Hi hO3;clear hr hO3 m3 kp25 gp25;refine ZA hap ?_;refine Ze ?_;refine TE.nil ?_;clear hap;go_upto_region 8 with fail;refine ZP0 [0,0,0,0,3,5,0] ?_
  iterate 4 refine Zv ?_
  refine Zy (bsU1 y) fun p33 hp33=> ?_;refine Zi fun w2 hr=> ?_;obtain⟨gp33,kp33⟩:=hr.b p33;have HMa:=Hi (HM.out.then0 hr.mod);obtain⟨v3,w3,hap,hO3,m3⟩:=byte_more (x:=y) (HO.out.mod0 hr.mod) kp33 (by simp) HMa.out.size;have HM:Hid (Mod (fun _=>False) w w3):=Hi (HMa.out.then m3 (fun i hi e=>by have:=HO.out.lt i e;omega));have HO:=Hi hO3;clear hr hO3 m3 kp33 gp33;refine ZA hap ?_;refine Ze ?_;refine TE.nil ?_;clear hap;go_upto_region 10 with fail;refine ZP0 [0,0,0,3,5,0] ?_
  iterate 3 refine Zv ?_
  refine Zy (bsU1 z) fun p40 hp40=> ?_;refine Zi fun w2 hr=> ?_;obtain⟨gp40,kp40⟩:=hr.b p40;have HMa:=Hi (HM.out.then0 hr.mod);obtain⟨v3,w3,hap,hO3,m3⟩:=byte_more (x:=z) (HO.out.mod0 hr.mod) kp40 (by simp) HMa.out.size;have HM:Hid (Mod (fun _=>False) w w3):=Hi (HMa.out.then m3 (fun i hi e=>by have:=HO.out.lt i e;omega));have HO:=Hi hO3;clear hr hO3 m3 kp40 gp40;refine ZA hap ?_;refine Ze ?_;refine TE.nil ?_;clear hap;have hOf:=HO.out;simp only[List.nil_append,List.cons_append]at hOf;rw[←HS.out]at hOf;obtain⟨a,c,e1,hcl,hN⟩:=clip_new hOf;obtain⟨k,hk⟩:∃k,(shP n).length=k:=⟨_,rfl⟩;rw[hk]at hcl e1;subst e1;have HF:=Hi (Ai hN hk);have HCL:=Hi hcl;clear hOf hN hk hcl;go_wp2_with fail;go_at_call 39;refine(clipY_c _ _ _ HCL.out).mono ?_;rintro e w9 ⟨rfl,rfl⟩;go_wp2_with fail
  go_ret2
  refine⟨a,?_,HF.out.1,HM.out⟩;rw[HF.out.2];rfl
 ·have hd5:decide ((16384:Int)≤(n:Int))=false:=Df (by omega);have hd6:decide (16384≤n)=false:=Df h3;by_cases h2:128≤n
  ·have hd7:decide ((128:Int)≤(n:Int))=true:=Dt (by omega);have hd8:decide (128≤n)=true:=Dt h2;obtain⟨x,hx⟩:∃x,UInt8.ofNat (n % 128+128)=x:=⟨_,rfl⟩;obtain⟨y,hy⟩:∃y,UInt8.ofNat (n/128)=y:=⟨_,rfl⟩;have hs:shP n=[x,y]:=by
    unfold shP;rw[if_neg (by omega),if_pos (by omega),hx,hy]
   obtain⟨m,hm⟩:∃m,n/128=m:=⟨_,rfl⟩;have hsh1:(n:Int)/128=(m:Int):=by omega
   have hx1:bits .or .u8 (IntKind.u8.wrap (n:Int)) 128=(x.toNat:Int):=by rw[←hx];exact or_128 n
   have hx2:IntKind.u8.wrap (m:Int)=(y.toNat:Int):=by
    rw[←hy,UInt8.toNat_ofNat',IntKind.wrap_u8];omega
   have HS:=Hi hs;clear h3 h2 hs hx hy h hm;go_enter Tryz.func64,Tryz.ntmps64;go_wp2_with fail;go_at_call 40;refine(cloneNone_c _).mono ?_;rintro e w1 ⟨rfl,rfl⟩;go_upto_region 8 with fail;refine ZP0 [0,0,0,0,3,5,0] ?_
   iterate 4 refine Zv ?_
   refine Zy (bsU1 x) fun p33 hp33=> ?_;refine Zi fun w2 hr=> ?_;obtain⟨gp33,kp33⟩:=hr.b p33;have HMa:=Hi (HM.out.then0 hr.mod);obtain⟨v3,w3,hap,hO3,m3⟩:=byte_more (x:=x) (HO.out.mod0 hr.mod) kp33 (by simp) HMa.out.size;have HM:Hid (Mod (fun _=>False) w w3):=Hi (HMa.out.then m3 (fun i hi e=>by have:=HO.out.lt i e;omega));have HO:=Hi hO3;clear hr hO3 m3 kp33 gp33;refine ZA hap ?_;refine Ze ?_;refine TE.nil ?_;clear hap;go_upto_region 10 with fail;refine ZP0 [0,0,0,3,5,0] ?_
   iterate 3 refine Zv ?_
   refine Zy (bsU1 y) fun p40 hp40=> ?_;refine Zi fun w2 hr=> ?_;obtain⟨gp40,kp40⟩:=hr.b p40;have HMa:=Hi (HM.out.then0 hr.mod);obtain⟨v3,w3,hap,hO3,m3⟩:=byte_more (x:=y) (HO.out.mod0 hr.mod) kp40 (by simp) HMa.out.size;have HM:Hid (Mod (fun _=>False) w w3):=Hi (HMa.out.then m3 (fun i hi e=>by have:=HO.out.lt i e;omega));have HO:=Hi hO3;clear hr hO3 m3 kp40 gp40;refine ZA hap ?_;refine Ze ?_;refine TE.nil ?_;clear hap;have hOf:=HO.out;simp only[List.nil_append,List.cons_append]at hOf;rw[←HS.out]at hOf;obtain⟨a,c,e1,hcl,hN⟩:=clip_new hOf;obtain⟨k,hk⟩:∃k,(shP n).length=k:=⟨_,rfl⟩;rw[hk]at hcl e1;subst e1;have HF:=Hi (Ai hN hk);have HCL:=Hi hcl;clear hOf hN hk hcl;go_wp2_with fail;go_at_call 39;refine(clipY_c _ _ _ HCL.out).mono ?_;rintro e w9 ⟨rfl,rfl⟩;go_wp2_with fail
   go_ret2
   refine⟨a,?_,HF.out.1,HM.out⟩;rw[HF.out.2];rfl
  ·have hd7:decide ((128:Int)≤(n:Int))=false:=Df (by omega);have hd8:decide (128≤n)=false:=Df h2;have hs:shP n=[UInt8.ofNat n]:=if_pos (by omega);obtain⟨x,hx⟩:∃x,UInt8.ofNat n=x:=⟨_,rfl⟩;have hw:IntKind.u8.wrap (n:Int)=(x.toNat:Int):=by
    rw[←hx,UInt8.toNat_ofNat',IntKind.wrap_u8];omega
   have HS:=Hi (hs.trans (by rw[hx]));clear h3 h2 hs hx h;go_enter Tryz.func64,Tryz.ntmps64;go_wp2_with fail;go_at_call 40;refine(cloneNone_c _).mono ?_;rintro e w1 ⟨rfl,rfl⟩;go_upto_region 10 with fail;refine ZP0 [0,0,0,3,5,0] ?_
   iterate 3 refine Zv ?_
   refine Zy (bsU1 x) fun p40 hp40=> ?_;refine Zi fun w2 hr=> ?_;obtain⟨gp40,kp40⟩:=hr.b p40;have HMa:=Hi (HM.out.then0 hr.mod);obtain⟨v3,w3,hap,hO3,m3⟩:=byte_more (x:=x) (HO.out.mod0 hr.mod) kp40 (by simp) HMa.out.size;have HM:Hid (Mod (fun _=>False) w w3):=Hi (HMa.out.then m3 (fun i hi e=>by have:=HO.out.lt i e;omega));have HO:=Hi hO3;clear hr hO3 m3 kp40 gp40;refine ZA hap ?_;refine Ze ?_;refine TE.nil ?_;clear hap;have hOf:=HO.out;simp only[List.nil_append,List.cons_append]at hOf;rw[←HS.out]at hOf;obtain⟨a,c,e1,hcl,hN⟩:=clip_new hOf;obtain⟨k,hk⟩:∃k,(shP n).length=k:=⟨_,rfl⟩;rw[hk]at hcl e1;subst e1;have HF:=Hi (Ai hN hk);have HCL:=Hi hcl;clear hOf hN hk hcl;go_wp2_with fail;go_at_call 39;refine(clipY_c _ _ _ HCL.out).mono ?_;rintro e w9 ⟨rfl,rfl⟩;go_wp2_with fail
   go_ret2
   refine⟨a,?_,HF.out.1,HM.out⟩;rw[HF.out.2];rfl
end Go.Proofs.YtiaehkkkcaeaiaaGreatDoor