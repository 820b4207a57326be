/- The lemmas of the proof, part XO7: how the program and its data lie in memory, and what its functions do. -/
import Derived.Test.YtceodkliooeccaaGreatDoorXR6
import Derived.Lib.MinMax
import Derived.Lib.BitFns
import Derived.Lib.ItoaNum
import Derived.Lib.Strings
import Derived.Lib.Slices
import Derived.Lib.Small
import Derived.LaidEql
import Derived.Stop.Asserts
import Derived.RowKitTokens
import Derived.Lib.IfaceEq
set_option linter.unusedSimpArgs false
set_option linter.unusedVariables false
set_option linter.unusedSectionVars false

set_option maxRecDepth 100000
set_option maxHeartbeats 6400000
namespace Go.Proofs.YtceodkliooeccaaGreatDoor
open Go.RowKit
open Go.ChangeMaps (setBlock)
attribute [local go_sem↓] eqKey1 ldKey ldSg ldTc stKey stSg stTc wlKey wlTc
attribute [local go_sem] Value.cells cell_blk frozen_blk kc_ext kc_one kc_one0 kc_size one_bool one_int one_map one_ptr one_slice sgc_ext sgc_one' sgc_one0 sgc_size txr0 txr0' txr38 txr38' txr39 txr39' txr_all txr_one txr_one' txr_size zKey_size zTx_size
section
attribute [local go_sem↓] wlMsg ldMsg stMsg ldRole stRole
attribute [local go_sem] zRole_size mgx_size mgx_ext mgx_one mgx_one0
theorem bRole1 (k:Key) (w:World):(Instr.build 192 #[(0,.agg (kc k))]).run Tryz.prog w= .ok (.agg (rcr ⟨k,false,false⟩)) w:=by
 refine run_build_struct (z:= .agg zRole) (places:= #[(0,32),(32,1),(33,1)]) Tryz.underlying192 (fun w=>by kernel_rfl) (fun w=>by kernel_rfl) ?_ w;show Instr.fill _ zRole [(0,_)]=_;rw[fill_cons (off:=0) (n:=32) rfl (by simp[Value.cells]) (by rw[zRole_size];omega)];show some _=some _;congr 1;apply Array.toList_inj.1;have hk:(kc k).toList.length=32:=by simp
 rw[wr_list _ _ _ (by rw[zRole_size];simp[Value.cells])];simp only[Value.cells,List.take_zero,List.nil_append,hk];unfold rcr rc kx zRole;simp
theorem bRole2 (k:Key) (b:Bool) (w:World):(Instr.build 192 #[(0,.agg (kc k)),(2,.bool b)]).run Tryz.prog w= .ok (.agg (rcr ⟨k,false,b⟩)) w:=by
 refine run_build_struct (z:= .agg zRole) (places:= #[(0,32),(32,1),(33,1)]) Tryz.underlying192 (fun w=>by kernel_rfl) (fun w=>by kernel_rfl) ?_ w;show Instr.fill _ zRole [(0,_),(2,_)]=_;rw[fill_cons (off:=0) (n:=32) rfl (by simp[Value.cells]) (by rw[zRole_size];omega),fill_cons (off:=33) (n:=1) rfl (by simp[Value.cells]) (by rw[wr_size,zRole_size];omega)];show some _=some _;congr 1;apply Array.toList_inj.1;have hk:(kc k).toList.length=32:=by simp
 rw[wr_list _ _ _ (by rw[wr_size,zRole_size];simp[Value.cells]),wr_list _ _ _ (by rw[zRole_size];simp[Value.cells])];simp only[Value.cells,List.take_zero,List.nil_append,hk];unfold rcr rc kx zRole;have h1:(kc k).toList.take 33=(kc k).toList:=List.take_of_length_le (by omega);have h2:(kc k).toList.drop 34=[]:=List.drop_of_length_le (by omega);simp[List.take_append,List.drop_append,hk,h1,h2]
theorem role_setW {C:Array Value} {o:Nat} {r:Role} (he:C.extract o (o+34)=rcr r) (hle:o+34≤C.size) (b:Bool):C.setIfInBounds (o+33) (.bool b)=wr C o (rcr ⟨r.k,r.s,b⟩).toList:=by
 have hl:(rcr ⟨r.k,r.s,b⟩).toList.length=34:=by rw[Array.length_toList];exact rolesT.size _
 apply Array.ext_getElem?;intro t;rw[wr_get _ _ _ (by rw[hl];exact hle),hl,Array.getElem?_setIfInBounds];by_cases h1:o≤t∧t<o+34
 ·rw[if_pos h1,Array.getElem?_toList];obtain⟨j,rfl⟩:∃j,t=o+j:=⟨t-o,by omega⟩;rw[Nat.add_sub_cancel_left];have hj:j<34:=by omega
  by_cases h2:j=33
  ·subst h2;rw[if_pos rfl,if_pos (by omega)];exact(kx_get r.k [.bool r.s,.bool b] 1).symm
  ·rw[if_neg (by omega)];have h3:=congrArg (fun A:Array Value=>A[j]?) he;simp only[Array.getElem?_extract]at h3;rw[if_pos (by omega)]at h3;rw[h3];by_cases h4:j=32
   ·subst h4;exact(kx_get r.k [.bool r.s,.bool r.w] 0).trans (kx_get r.k [.bool r.s,.bool b] 0).symm
   ·have hk:∀q:Bool,(rcr ⟨r.k,r.s,q⟩)[j]? =(kc r.k)[j]? :=fun q=>by
     show(rc r.k r.s q)[j]? =_;have h5:(rc r.k r.s q).extract 0 32=kc r.k:=kx_key _ _;rw[←h5,Array.getElem?_extract,if_pos (by have:(rc r.k r.s q).size=34:=rolesT.size ⟨r.k,r.s,q⟩;omega)];simp
    exact(hk r.w).trans (hk b).symm
 ·rw[if_neg h1,if_neg (by omega)]
theorem SlOwn.baseR {α:Type} {f:α→Array Value} {n:Nat} {E:TypeId} {w:World} {b b':Nat} {v:Value} {l:List α} (h:SlOwn f n E w b v l) (hb:b'≤b):SlOwn f n E w b' v l:=
 ⟨h.1,h.2.imp_right (fun⟨g,cap,cur,e,h1,rest⟩=>⟨g,cap,cur,e,Nat.le_trans hb h1,rest⟩)⟩
def RolA (res:Except Nat (List Role)) (w:World) (e:Ending) (w':World):Prop:=Mod (fun _=>False) w w'∧match res with
 | .ok ro=>∃v,e= .returned (.tuple #[v,.int .i64 0])∧NewS rcr 34 192 w.heap.size w' v ro
 | .error n=>e= .returned (.tuple #[.slice none 0 0,.int .i64 (n:Int)])
theorem map_snoc {α β:Type} {l:List α} {i:Nat} {x:α} (f:α→β) (h:l[i]? =some x):(l.take (i+1)).map f=(l.take i).map f++[f x]:=by
 rw[List.take_add_one,h];simp
theorem clipRo_c (v2:Value) (w:World) (n:Nat) {a:Option Addr} {c:Nat} (h:∀w2,(Instr.sliceAt 54 (.slice a n c) none (some (.int .i64 (n:Int))) (some (.int .i64 (n:Int)))).run Tryz.prog w2= .ok v2 w2):
  Calls Tryz.prog 80 #[.slice a n c] w fun e w'=>e= .returned v2∧w'=w:=by
 go_enter Tryz.func80,Tryz.ntmps80;go_wp2_with fail;go_ret;exact⟨rfl,rfl⟩
def fixR (r:Role):Role:=⟨r.k,r.s,r.w&& !knownP r.k⟩
def rlK (l:List Role):List Key:=l.map (·.k)
def RowR (C:Array Value) (l:List Role):Prop:=∀j y,l[j]? =some y→C.extract (0+j*34) (0+j*34+34)=rcr y∧0+j*34+34≤C.size
theorem own_rows {w:World} {b:Nat} {v:Value} {l:List Role} (h:SlOwn rcr 34 192 w b v l) (hne:l≠[]):∃g cap C,v= .slice (some ⟨g,0,none⟩) l.length cap∧b≤g∧l.length≤cap∧w.heap[g]? =some (.cells C 192 (0,0))∧RowR C l:=by
 obtain⟨a',c',e',hs,_⟩:=h.at rolesT;rcases h.2 with⟨_,hn⟩|⟨g,cap,cur,e,hb,hg,hnc,hcm,hcs,htake⟩
 ·exact absurd (List.eq_nil_of_length_eq_zero hn) hne
 ·refine⟨g,cap,cur,e,hb,hnc,hg,fun j y hy=> ?_⟩;obtain⟨g',o',C',U',fr',ha,hk,he,hle⟩:=hs.block hy;rw[e]at e';injection e' with e1 _ _
  rw[ha]at e1;cases e1;rw[hg]at hk;cases hk;exact⟨he,hle⟩
theorem fix_get {l:List Role} {i:Nat} {r:Role} (h:l[i]? =some r):((l.take i).map fixR++l.drop i)[i]? =some r:=by
 obtain⟨hi,e⟩:=List.getElem?_eq_some_iff.1 h;rw[List.getElem?_append_right (by simp;omega),List.length_map,List.length_take,Nat.min_eq_left (by omega),Nat.sub_self,List.getElem?_drop,Nat.add_zero,h]
theorem fix_set {l:List Role} {i:Nat} {r:Role} (h:l[i]? =some r):((l.take i).map fixR++l.drop i).set i (fixR r)=(l.take (i+1)).map fixR++l.drop (i+1):=by
 obtain⟨hi,e⟩:=List.getElem?_eq_some_iff.1 h;have hl:((l.take i).map fixR).length=i:=by rw[List.length_map,List.length_take];omega
 rw[List.set_append_right _ _ (by omega),hl,Nat.sub_self,List.drop_eq_getElem_cons hi,zG,map_snoc fixR h];simp
theorem RowR.step {C:Array Value} {l:List Role} {i:Nat} {r:Role} (hR:RowR C ((l.take i).map fixR++l.drop i)) (h:l[i]? =some r):RowR (C.setIfInBounds (0+i*34+33) (.bool (fixR r).w)) ((l.take (i+1)).map fixR++l.drop (i+1)):=by
 obtain⟨h1,h2⟩:=hR i r (fix_get h);rw[role_setW h1 h2,←fix_set h];have hi:=(List.getElem?_eq_some_iff.1 h).1;exact row_set (fun x=>rolesT.size x) hR (by simp;omega) (fixR r)
theorem rolesOf_c (x:RdR) (LW LR:List Key) (wa ra:Option Addr) (wc rcx:Nat) (w:World) (hK:SlAt kc 32 w x.ks.a x.ks.l) (hb:x.ks.l.length≤1000000) (hW:SlAt kc 32 w wa LW) (hR:SlAt kc 32 w ra LR) (h1:LW.length≤100000) (h2:LR.length≤100000):
  Calls Tryz.prog 35 #[.agg (msr x),.slice wa LW.length wc,.slice ra LR.length rcx] w (RolA (rolesP (msgP x) LW LR) w):=by
 obtain⟨nW,hnW⟩:∃n,LW.length=n:=⟨_,rfl⟩;obtain⟨nR,hnR⟩:∃n,LR.length=n:=⟨_,rfl⟩;have HW:=Hi (Ai hW hnW);have HR:=Hi (Ai hR hnR);rw[hnW]at h1⊢;rw[hnR]at h2⊢;have HOW:=Hi (fun w1 (m:Mod (fun _=>False) w w1)=>own11_c x w1 (hK.mod0 m) hb);obtain⟨K0,hK0⟩:∃K0,x.ks.l.mapIdx (ownRP (msgP x))=K0:=⟨_,rfl⟩;have HK0:=Hi hK0;have HB:Hid (K0.length≤1000000):=Hi (by rw[←hK0,List.length_mapIdx];exact hb);show Calls Tryz.prog 35 #[.agg (mgx x.v0 x.h0 x.h1 x.h2 x.ks.a x.ks.l.length x.ks.c x.rc x.ins.a x.ins.l.length x.ins.c x.lks.a x.lks.l.length x.lks.c),.slice wa nW wc,.slice ra nR rcx] w _;clear hK hW hR hnW hnR hK0;go_enter Tryz.func35,Tryz.ntmps35;go_upto_region 0 with fail;refine ZP0 [3,0,0] ?_;refine Zb fun p3 hp3=> ?_
 iterate 2 refine Zv ?_
 refine TD.nil (fun w1 hr=> ?_);obtain⟨gp3,kp3⟩:=hr.b p3;have HM1:=Hi hr.mod;clear hr;go_wp2_with fail;go_at_call 78;refine(HOW.out w1 HM1.out).mono ?_;rintro e w2 ⟨v,rfl,hO,m2⟩;have HO0:Hid (SlOwn rcr 34 192 w2 w.heap.size v K0):=Hi (by rw[HK0.out]at hO;exact hO.baseR HM1.out.size);have HM0:Hid (Mod (fun _=>False) w w2):=Hi (HM1.out.trans m2);have HB0:Hid (K0.length≤1200000∧nW≤100000):=Hi ⟨by have:=HB.out;omega,h1⟩;clear hO m2 kp3;go_wp2_with fail;go_loopw [8,19] (fun s8 si ws=>∃i:Nat,i≤nW∧si= .int .i64 (i:Int)∧Hid (SlOwn rcr 34 192 ws w.heap.size s8 (K0++(LW.take i).map (fun k=>(⟨k,false,true⟩:Role))))∧Hid (Mod (fun _=>False) w ws)) (fun _ si _=>nW-(intOf si).toNat)
 case atStart=>exact⟨0,Nat.zero_le _,rfl,Hi (by rw[List.take_zero,List.map_nil,List.append_nil];exact HO0.out),HM0⟩
 case round=>
  obtain⟨i,hi,rfl,HO,HM⟩:=hrel;by_cases hlt:i<nW
  ·have hd:=Dt hlt;obtain⟨k,hk⟩:∃k,LW[i]? =some k:=⟨_,List.getElem?_eq_getElem (by have:=HW.out.2;omega)⟩;obtain⟨g,o,C,U,fr,rfl,kg,he,hle⟩:=(HW.out.1.mod0 HM.out).block hk;have HT:=Hi (map_snoc (fun k=>(⟨k,false,true⟩:Role)) hk);clear hk;go_upto_region 4 with fail;have Lkg:=Ls kg;refine ZP0 [0,1,3,4] ?_;refine Zv ?_;refine Zd ?_;refine Za alKey fun p10 hp10=> ?_;refine Zt ?_;refine TD.nil (fun w3 hr=> ?_);replace kg:=hr.q kg;obtain⟨gp10,kp10⟩:=hr.b p10;have HM3:=Hi (HM.out.then0 hr.mod);have HO3:=Hi (HO.out.mod0 hr.mod);clear hr he hle kg;have hb:=(fun k=>bRole2 k true) k;have hbs:=bsRole ((fun k=>(⟨k,false,true⟩:Role)) k);obtain⟨a2,c2,rfl,_⟩:=HO3.out.at rolesT;generalize hll:(K0++(LW.take i).map (fun k=>(⟨k,false,true⟩:Role))).length=ll at *;have HLL:Hid (ll≤1300000):=Hi (by rw[←hll,List.length_append,List.length_map,List.length_take];have:=HB0.out;omega);go_upto_region 5 with fail;have Lkp10:=Ls kp10;refine ZP0 [0,1,0,3,5,0] ?_;refine Zv ?_;refine Zd ?_;refine Zu hb ?_;refine Zy hbs fun p26 hp26=> ?_;refine Zi fun w6 hr=> ?_;replace kp10:=hr.q kp10;obtain⟨gp26,kp26⟩:=hr.b p26;have HM6:=Hi (HM3.out.then0 hr.mod);obtain⟨v5,w7,hap,hO7,m7,hn7⟩:=SlOwn.appendB rolesT (q:=[(fun k=>(⟨k,false,true⟩:Role)) k]) (c:=1) (HO3.out.mod0 hr.mod) (SlAt.one kp26 _ rfl (rolesT.size _)) (by have:=HLL.out;rw[hll];simp only[List.length_singleton];omega) (by have:=HLL.out;rw[hll];simp only[List.length_singleton];omega) HM6.out.size 54;have hlo:=HO3.out.lt;have HO7:Hid (SlOwn rcr 34 192 w7 w.heap.size v5 (K0++(LW.take (i+1)).map (fun k=>(⟨k,false,true⟩:Role)))):=Hi (by rw[HT.out,←List.append_assoc];exact hO7);have HM7:Hid (Mod (fun _=>False) w w7):=Hi (HM6.out.then m7 (fun j hj e=>by have:=(hlo j (by simpa[hll] using e)).1;omega))
   try rw[hll]at hap
   clear hr hO7 m7 hn7 hlo hb hbs kp26 kp10 hll;refine ZA hap ?_;refine Ze ?_;refine TE.nil ?_;go_wp2_with fail;go_roundw
   case rel=>exact⟨i+1,by omega,by go_num,HO7,HM7⟩
   case measure=>simp[intOf];omega
  ·have hd:=Df hlt;obtain rfl:nW=i:=by omega
   obtain⟨K1,hK1⟩:∃K1,K0++LW.map (fun k=>(⟨k,false,true⟩:Role))=K1:=⟨_,rfl⟩;have HK1:=Hi hK1;have HO0:Hid (SlOwn rcr 34 192 wr w.heap.size _ K1):=Hi (by
    have:=HO.out;rw[List.take_of_length_le (by have:=HW.out.2;omega),hK1]at this;exact this)
   have HM0:=HM;have HB0:Hid (K1.length≤1200000∧nR≤100000):=Hi ⟨by rw[←hK1,List.length_append,List.length_map,HW.out.2];have:=HB.out;omega,h2⟩;clear hK1 HO HM hd hi hlt;obtain⟨wa0,rfl⟩:∃wa0:World,wa0=wr:=⟨_,rfl⟩;go_wp2_with fail;go_loopw [8,31] (fun s8 si ws=>∃i:Nat,i≤nR∧si= .int .i64 (i:Int)∧Hid (SlOwn rcr 34 192 ws w.heap.size s8 (K1++(LR.take i).map (fun k=>(⟨k,false,false⟩:Role))))∧Hid (Mod (fun _=>False) w ws)) (fun _ si _=>nR-(intOf si).toNat)
   case atStart=>exact⟨0,Nat.zero_le _,rfl,Hi (by rw[List.take_zero,List.map_nil,List.append_nil];exact HO0.out),HM0⟩
   case round=>
    obtain⟨i,hi,rfl,HO,HM⟩:=hrel;by_cases hlt:i<nR
    ·have hd:=Dt hlt;obtain⟨k,hk⟩:∃k,LR[i]? =some k:=⟨_,List.getElem?_eq_getElem (by have:=HR.out.2;omega)⟩;obtain⟨g,o,C,U,fr,rfl,kg,he,hle⟩:=(HR.out.1.mod0 HM.out).block hk;have HT:=Hi (map_snoc (fun k=>(⟨k,false,false⟩:Role)) hk);clear hk;go_upto_region 9 with fail;have Lkg:=Ls kg;refine ZP0 [0,1,3,4] ?_;refine Zv ?_;refine Zd ?_;refine Za alKey fun p12 hp12=> ?_;refine Zt ?_;refine TD.nil (fun w3 hr=> ?_);replace kg:=hr.q kg;obtain⟨gp12,kp12⟩:=hr.b p12;have HM3:=Hi (HM.out.then0 hr.mod);have HO3:=Hi (HO.out.mod0 hr.mod);clear hr he hle kg;have hb:=(fun k=>bRole1 k) k;have hbs:=bsRole ((fun k=>(⟨k,false,false⟩:Role)) k);obtain⟨a2,c2,rfl,_⟩:=HO3.out.at rolesT;generalize hll:(K1++(LR.take i).map (fun k=>(⟨k,false,false⟩:Role))).length=ll at *;have HLL:Hid (ll≤1300000):=Hi (by rw[←hll,List.length_append,List.length_map,List.length_take];have:=HB0.out;omega);go_upto_region 10 with fail;have Lkp12:=Ls kp12;refine ZP0 [0,1,0,3,5,0] ?_;refine Zv ?_;refine Zd ?_;refine Zu hb ?_;refine Zy hbs fun p38 hp38=> ?_;refine Zi fun w6 hr=> ?_;replace kp12:=hr.q kp12;obtain⟨gp38,kp38⟩:=hr.b p38;have HM6:=Hi (HM3.out.then0 hr.mod);obtain⟨v5,w7,hap,hO7,m7,hn7⟩:=SlOwn.appendB rolesT (q:=[(fun k=>(⟨k,false,false⟩:Role)) k]) (c:=1) (HO3.out.mod0 hr.mod) (SlAt.one kp38 _ rfl (rolesT.size _)) (by have:=HLL.out;rw[hll];simp only[List.length_singleton];omega) (by have:=HLL.out;rw[hll];simp only[List.length_singleton];omega) HM6.out.size 54;have hlo:=HO3.out.lt;have HO7:Hid (SlOwn rcr 34 192 w7 w.heap.size v5 (K1++(LR.take (i+1)).map (fun k=>(⟨k,false,false⟩:Role)))):=Hi (by rw[HT.out,←List.append_assoc];exact hO7);have HM7:Hid (Mod (fun _=>False) w w7):=Hi (HM6.out.then m7 (fun j hj e=>by have:=(hlo j (by simpa[hll] using e)).1;omega))
     try rw[hll]at hap
     clear hr hO7 m7 hn7 hlo hb hbs kp38 kp12 hll;refine ZA hap ?_;refine Ze ?_;refine TE.nil ?_;go_wp2_with fail;go_roundw
     case rel=>exact⟨i+1,by omega,by go_num,HO7,HM7⟩
     case measure=>simp[intOf];omega
    ·have hd:=Df hlt;obtain rfl:nR=i:=by omega
     obtain⟨Lf,hLf⟩:∃Lf,K1++LR.map (fun k=>(⟨k,false,false⟩:Role))=Lf:=⟨_,rfl⟩;have HLF:Hid (rolesL (msgP x) LW LR=Lf):=Hi (by rw[←hLf,←HK1.out,←HK0.out];rfl);have HOF:Hid (SlOwn rcr 34 192 wr w.heap.size _ Lf):=Hi (by
      have:=HO.out;rw[List.take_of_length_le (by have:=HR.out.2;omega),hLf]at this;exact this)
     have HNB:Hid (Lf.length≤1300000):=Hi (by rw[←hLf,List.length_append,List.length_map,HR.out.2];have:=HB0.out;omega);clear hLf HO hd hi hlt;obtain⟨wb0,rfl⟩:∃wb0:World,wb0=wr:=⟨_,rfl⟩;by_cases hne:Lf=[]
     ·subst hne;have HE:Hid (rolesP (msgP x) LW LR= .ok []):=Hi (by
       unfold rolesP;rw[HLF.out];simp)
      obtain⟨a2,c2,v2,rfl,hcl,hN⟩:=HOF.out.clip rolesT;simp only[List.length_nil]at hcl hN⊢;have HCL:=Hi hcl;have HNW:=Hi hN;have hmm:= @run_makeMap Tryz.prog;clear hcl hN;go_upto_region 13 with fail;have m2:Mod (fun _=>False) wb0 (wb0.alloc (.map #[] 0)):=(Mod.refl _ _).alloc _;generalize wb0.alloc (.map #[] 0)=w2 at *;have HM2:=Hi (HM.out.then0 m2);have HN2:=Hi (HNW.out.mod0 m2);clear m2 hmm;go_wp2_with fail;go_loopw [44] (fun s44 ws=>s44= .int .i64 0∧ws=w2) (fun _ _=>0)
      case atStart=>exact⟨rfl,rfl⟩
      case round=>
       obtain⟨rfl,rfl⟩:=hrel;go_wp2_with fail;go_at_call 80;refine(clipRo_c v2 _ 0 HCL.out).mono ?_;rintro e w5 ⟨rfl,rfl⟩;go_wp2_with fail;refine bodyPost_ret (results_tmp2 rfl _ _ _) rfl ?_;unfold RolA;rw[HE.out];exact⟨HM2.out,_,rfl,HN2.out⟩
     ·obtain⟨g,cap,C,rfl,hgb,hgc,kg,hrow⟩:=own_rows HOF.out hne;obtain⟨n,hn⟩:∃n,Lf.length=n:=⟨_,rfl⟩;have hnb:n≤1300000:=by rw[←hn];exact HNB.out
      rw[hn]at hgc⊢;have HNN:=Hi (Ai hn (Ai hgb hgc));have HRW:Hid (RowR C ((Lf.take 0).map fixR++Lf.drop 0)):=Hi (by simpa using hrow);have hmm:= @run_makeMap Tryz.prog;clear hrow hn hgb hne;go_upto_region 13 with fail;have km:(wb0.alloc (.map #[] 0)).heap[wb0.heap.size]? =some (.map #[] 0):=fresh1 _ _;have m2:Mod (fun _=>False) wb0 (wb0.alloc (.map #[] 0)):=(Mod.refl _ _).alloc _;have hgq:g<wb0.heap.size:=Ls kg;have kg':=m2.at0 kg;clear kg;have kg:=kg';clear kg';generalize wb0.alloc (.map #[] 0)=w2 at *;generalize wb0.heap.size=q at *;have HM2:=Hi (HM.out.then0 m2);clear m2 hmm;go_wp2_with fail;go_loopw [44] (fun s44 ws=>∃(i:Nat) (Ci:Array Value),i≤n∧s44= .int .i64 (i:Int)∧(∃es c,ws.heap[q]? =some (.map es c)∧Hid (MapIs kv nv es c (cntM (rlK (Lf.take i)))))∧ws.heap[g]? =some (.cells Ci 192 (0,0))∧Hid (RowR Ci ((Lf.take i).map fixR++Lf.drop i))∧Hid (rlK (Lf.take i)).Nodup∧Hid (Mod (fun j=>j=q∨j=g) w2 ws)) (fun s44 _=>n-(intOf s44).toNat)
      case atStart=>exact⟨0,C,by omega,rfl,⟨_,_,km,Hi (MapIs.empty kv nv)⟩,kg,HRW,Hi (by simp[rlK]),Hi (Mod.refl _ _)⟩
      case round=>
       clear km kg;obtain⟨i,Ci,hi,rfl,⟨es1,cl1,km,HMI⟩,kg,HRi,HND,HMl⟩:=hrel;by_cases hlt:i<n
       ·have hd:=Dt hlt;obtain⟨r,hr0⟩:∃r,Lf[i]? =some r:=⟨_,List.getElem?_eq_getElem (by have:=HNN.out;omega)⟩;have HRR:=Hi hr0;obtain⟨he,hle⟩:=HRi.out i r (fix_get hr0);obtain⟨k,sg,wt⟩:=r;rw[Nat.zero_add]at he hle;have c33:Ci[i*34+33]? =some (.bool wt):=cellC he (j:=33) (kx_get k [.bool sg,.bool wt] 1);have he1:Ci.extract (i*34) (i*34+32)=kc k:=by
         have h1:(rcr ⟨k,sg,wt⟩).extract 0 32=kc k:=kx_key _ _;rw[←h1,←he,Array.extract_extract];congr 1;omega
        have hle1:i*34+32≤Ci.size:=by omega
        have hkr:rlK (Lf.take (i+1))=rlK (Lf.take i)++[k]:=map_snoc (fun r:Role=>r.k) hr0;have HKR:=Hi hkr;obtain⟨c,hc⟩:∃c,(lkp k (cntM (rlK (Lf.take i)))).getD 0=c:=⟨_,rfl⟩;have hcb:c≤1300000:=by
         rw[←hc,cntM_lkp];split
         ·have h1:=List.count_le_length (a:=k) (l:=rlK (Lf.take i));have h2:=List.length_take_le i Lf;have h3:(rlK (Lf.take i)).length=(Lf.take i).length:=by simp[rlK]
          simp only[zE];omega
         ·simp
        have HC0:Hid (c=0↔k∉rlK (Lf.take i)):=Hi (by
         rw[←hc,cntM_lkp];split
         ·rename_i hm;simp only[zE];have:=List.count_pos_iff.2 hm;constructor
          ·intro h;omega
          ·intro h;exact absurd hm h
         ·rename_i hm;exact⟨fun _=>hm,fun _=>rfl⟩)
        have hwr:IntKind.i64.wrap ((c:Int)+1)=((c+1:Nat):Int):=by rw[IntKind.wrap_i64];omega
        have hlk:∀wq es cl,wq.heap[q]? =some (.map es cl)→MapIs kv nv es cl (cntM (rlK (Lf.take i)))∨MapIs kv nv es cl (put k c (cntM (rlK (Lf.take i))))→(Instr.lookup 193 (.map (some q)) (.agg (kc k)) false).run Tryz.prog wq= .ok (.int .i64 (c:Int)) wq:=fun wq es cl hq hM=>by
         rcases hM with hM|hM
         ·have:=hM.lookupD keyTR Tryz.underlying193 (z:=0) nv_zero wq hq k;rw[hc]at this;exact this
         ·have:=hM.lookupD keyTR Tryz.underlying193 (z:=0) nv_zero wq hq k;rw[lkp_put_same,zE]at this;exact this
        have HLK:=Hi hlk;have hen:=fun(wq:World) (hq:wq.heap[q]? =some (.map es1 cl1))=>HMI.out.entry keyTR Tryz.underlying193 (z:=0) nv_zero wq hq k;simp only[hc]at hen;have HEN:=Hi hen;have HT1:Hid (cntM (rlK (Lf.take (i+1)))=put k (c+1) (cntM (rlK (Lf.take i)))):=Hi (by rw[hkr,←hc];exact cntM_snoc _ _);clear hlk hen hc hkr hr0 he hle;go_upto_region 16 with fail;go_cut []from 45 to 83 (fun wx=>(∃es cl,wx.heap[q]? =some (.map es cl)∧Hid (MapIs kv nv es cl (cntM (rlK (Lf.take (i+1))))))∧wx.heap[g]? =some (.cells Ci 192 (0,0))∧Hid (Mod (fun j=>j=q∨j=g) w2 wx))
        case first=>
         have Lkg:=Ls kg;have Lkm:=Ls km;refine wp_xpass (T0:=fun _=>False) (K:=fun _ _=>True) (κ:=fun i=>[0,0,0,0,0,0,6,0,6,0,6].getD i 0) (υ:=fun _=>[]) [0,1,2,3,4,5] [6,7,8,9,10] (by kernel_rfl) (by kernel_rfl) (Good.true).cl (trivial) (fun _ h=>h.elim) ?_;have gK:=Good.true
         iterate 5 refine Zg ?_
         refine Zh ?_;refine TG.nil (fun w6 ⟨TR,hr⟩=> ?_);replace kg:=hr.q kg;replace km:=hr.q km;clear gK;have HM6:=Hi (HMl.out.then0 hr.mod);obtain⟨st,es2,cl2,hrE,M2,hF⟩:=HEN.out w6 km;have hl6:=HLK.out w6 _ _ km (.inl HMI.out);have km7:=heap_setBlock w6 (.map es2 cl2) (Ls km);have mS7:=mod_set w6 q (.map es2 cl2);generalize setBlock w6 q (.map es2 cl2)=w7 at *;have hl7:=HLK.out w7 _ _ km7 (.inr M2);obtain⟨es3,cl3,hrF,M3⟩:=hF w7 (c+1) km7;have km8:=heap_setBlock w7 (.map es3 cl3) (Ls km7);have mS8:=mod_set w7 q (.map es3 cl3);generalize setBlock w7 q (.map es3 cl3)=w8 at *;have HEND:Hid ((∃es cl,w8.heap[q]? =some (.map es cl)∧Hid (MapIs kv nv es cl (cntM (rlK (Lf.take (i+1))))))∧w8.heap[g]? =some (.cells Ci 192 (0,0))∧Hid (Mod (fun j=>j=q∨j=g) w2 w8)):=Hi ⟨⟨_,_,km8,Hi (by rw[HT1.out];exact M3)⟩,mS8.at_ne (mS7.at_ne kg (by omega)) (by omega),Hi ((HM6.out.then mS7 (fun _ _ h=> .inl h)).then mS8 (fun _ _ h=> .inl h))⟩;simp only[nv]at hrE hrF;(intro iA hiA hbA;simp only[List.mem_cons,List.not_mem_nil,or_false]at hiA;rcases hiA with rfl|rfl|rfl|rfl|rfl)
         ·clear hbA;(refine eff_look (by simp only[zK];rfl) (by rfl) rfl ?hx32 ?hz32 (by first|exact hl6|exact hl7) ?n32;(case hx32=>simp only[zM];try rfl);(case hz32=>simp only[zM];try rfl);try simp only[zL]);rw[show([6,7,8,9,10]:List Nat).erase 6=[7,8,9,10]from rfl];(intro iA hiA hbA;simp only[List.mem_cons,List.not_mem_nil,or_false]at hiA;rcases hiA with rfl|rfl|rfl|rfl)
          ·clear hbA;refine Zw ?_;rw[show([7,8,9,10]:List Nat).erase 7=[8,9,10]from rfl];(intro iA hiA hbA;simp only[List.mem_cons,List.not_mem_nil,or_false]at hiA;rcases hiA with rfl|rfl|rfl)
           ·clear hbA;(refine eff_entry (by simp only[zK];rfl) (by rfl) rfl ?hx34 ?hz34 hrE ?n34;(case hx34=>simp only[zM];try rfl);(case hz34=>simp only[zM];try rfl);try simp only[zL]);rw[show([8,9,10]:List Nat).erase 8=[9,10]from rfl];(intro iA hiA hbA;simp only[List.mem_cons,List.not_mem_nil,or_false]at hiA;rcases hiA with rfl|rfl)
            ·clear hbA;refine Zw ?_;rw[show([9,10]:List Nat).erase 9=[10]from rfl];(intro iA hiA hbA;simp only[List.mem_cons,List.not_mem_nil,or_false]at hiA;subst hiA)
             ·clear hbA;(refine eff_estore (by simp only[zK];rfl) (by rfl) rfl ?hx36 ?hz36 ?hv36 hrF ?n36;(case hx36=>simp only[zM];try rfl);(case hz36=>simp only[zM];try rfl);(case hv36=>(simp only[zM];(try rfl)));try simp only[zL]);rw[show([10]:List Nat).erase 10=[]from rfl];refine allE_nil ?_;go_wp2_with fail;go_meet;exact HEND.out
            ·exact no_head (by kernel_rfl) hbA
           ·exact no_head (by kernel_rfl) hbA
           ·exact no_head (by kernel_rfl) hbA
          ·clear hbA;(refine eff_entry (by simp only[zK];rfl) (by rfl) rfl ?hx37 ?hz37 hrE ?n37;(case hx37=>simp only[zM];try rfl);(case hz37=>simp only[zM];try rfl);try simp only[zL]);rw[show([7,8,9,10]:List Nat).erase 8=[7,9,10]from rfl];(intro iA hiA hbA;simp only[List.mem_cons,List.not_mem_nil,or_false]at hiA;rcases hiA with rfl|rfl|rfl)
           ·clear hbA;refine Zw ?_;rw[show([7,9,10]:List Nat).erase 7=[9,10]from rfl];(intro iA hiA hbA;simp only[List.mem_cons,List.not_mem_nil,or_false]at hiA;rcases hiA with rfl|rfl)
            ·clear hbA;refine Zw ?_;rw[show([9,10]:List Nat).erase 9=[10]from rfl];(intro iA hiA hbA;simp only[List.mem_cons,List.not_mem_nil,or_false]at hiA;subst hiA)
             ·clear hbA;(refine eff_estore (by simp only[zK];rfl) (by rfl) rfl ?hx40 ?hz40 ?hv40 hrF ?n40;(case hx40=>simp only[zM];try rfl);(case hz40=>simp only[zM];try rfl);(case hv40=>(simp only[zM];(try rfl)));try simp only[zL]);rw[show([10]:List Nat).erase 10=[]from rfl];refine allE_nil ?_;go_wp2_with fail;go_meet;exact HEND.out
            ·exact no_head (by kernel_rfl) hbA
           ·clear hbA;refine Zw ?_;rw[show([7,9,10]:List Nat).erase 9=[7,10]from rfl];(intro iA hiA hbA;simp only[List.mem_cons,List.not_mem_nil,or_false]at hiA;rcases hiA with rfl|rfl)
            ·clear hbA;refine Zw ?_;rw[show([7,10]:List Nat).erase 7=[10]from rfl];(intro iA hiA hbA;simp only[List.mem_cons,List.not_mem_nil,or_false]at hiA;subst hiA)
             ·clear hbA;(refine eff_estore (by simp only[zK];rfl) (by rfl) rfl ?hx43 ?hz43 ?hv43 hrF ?n43;(case hx43=>simp only[zM];try rfl);(case hz43=>simp only[zM];try rfl);(case hv43=>(simp only[zM];(try rfl)));try simp only[zL]);rw[show([10]:List Nat).erase 10=[]from rfl];refine allE_nil ?_;go_wp2_with fail;go_meet;exact HEND.out
            ·exact no_head (by kernel_rfl) hbA
           ·exact no_head (by kernel_rfl) hbA
          ·exact no_head (by kernel_rfl) hbA
          ·exact no_head (by kernel_rfl) hbA
         ·exact no_head (by kernel_rfl) hbA
         ·clear hbA;(refine eff_entry (by simp only[zK];rfl) (by rfl) rfl ?hx44 ?hz44 hrE ?n44;(case hx44=>simp only[zM];try rfl);(case hz44=>simp only[zM];try rfl);try simp only[zL]);rw[show([6,7,8,9,10]:List Nat).erase 8=[6,7,9,10]from rfl];(intro iA hiA hbA;simp only[List.mem_cons,List.not_mem_nil,or_false]at hiA;rcases hiA with rfl|rfl|rfl|rfl)
          ·clear hbA;(refine eff_look (by simp only[zK];rfl) (by rfl) rfl ?hx45 ?hz45 (by first|exact hl6|exact hl7) ?n45;(case hx45=>simp only[zM];try rfl);(case hz45=>simp only[zM];try rfl);try simp only[zL]);rw[show([6,7,9,10]:List Nat).erase 6=[7,9,10]from rfl];(intro iA hiA hbA;simp only[List.mem_cons,List.not_mem_nil,or_false]at hiA;rcases hiA with rfl|rfl|rfl)
           ·clear hbA;refine Zw ?_;rw[show([7,9,10]:List Nat).erase 7=[9,10]from rfl];(intro iA hiA hbA;simp only[List.mem_cons,List.not_mem_nil,or_false]at hiA;rcases hiA with rfl|rfl)
            ·clear hbA;refine Zw ?_;rw[show([9,10]:List Nat).erase 9=[10]from rfl];(intro iA hiA hbA;simp only[List.mem_cons,List.not_mem_nil,or_false]at hiA;subst hiA)
             ·clear hbA;(refine eff_estore (by simp only[zK];rfl) (by rfl) rfl ?hx48 ?hz48 ?hv48 hrF ?n48;(case hx48=>simp only[zM];try rfl);(case hz48=>simp only[zM];try rfl);(case hv48=>(simp only[zM];(try rfl)));try simp only[zL]);rw[show([10]:List Nat).erase 10=[]from rfl];refine allE_nil ?_;go_wp2_with fail;go_meet;exact HEND.out
            ·exact no_head (by kernel_rfl) hbA
           ·clear hbA;refine Zw ?_;rw[show([7,9,10]:List Nat).erase 9=[7,10]from rfl];(intro iA hiA hbA;simp only[List.mem_cons,List.not_mem_nil,or_false]at hiA;rcases hiA with rfl|rfl)
            ·clear hbA;refine Zw ?_;rw[show([7,10]:List Nat).erase 7=[10]from rfl];(intro iA hiA hbA;simp only[List.mem_cons,List.not_mem_nil,or_false]at hiA;subst hiA)
             ·clear hbA;(refine eff_estore (by simp only[zK];rfl) (by rfl) rfl ?hx51 ?hz51 ?hv51 hrF ?n51;(case hx51=>simp only[zM];try rfl);(case hz51=>simp only[zM];try rfl);(case hv51=>(simp only[zM];(try rfl)));try simp only[zL]);rw[show([10]:List Nat).erase 10=[]from rfl];refine allE_nil ?_;go_wp2_with fail;go_meet;exact HEND.out
            ·exact no_head (by kernel_rfl) hbA
           ·exact no_head (by kernel_rfl) hbA
          ·exact no_head (by kernel_rfl) hbA
          ·clear hbA;refine Zw ?_;rw[show([6,7,9,10]:List Nat).erase 9=[6,7,10]from rfl];(intro iA hiA hbA;simp only[List.mem_cons,List.not_mem_nil,or_false]at hiA;rcases hiA with rfl|rfl|rfl)
           ·clear hbA;(refine eff_look (by simp only[zK];rfl) (by rfl) rfl ?hx53 ?hz53 (by first|exact hl6|exact hl7) ?n53;(case hx53=>simp only[zM];try rfl);(case hz53=>simp only[zM];try rfl);try simp only[zL]);rw[show([6,7,10]:List Nat).erase 6=[7,10]from rfl];(intro iA hiA hbA;simp only[List.mem_cons,List.not_mem_nil,or_false]at hiA;rcases hiA with rfl|rfl)
            ·clear hbA;refine Zw ?_;rw[show([7,10]:List Nat).erase 7=[10]from rfl];(intro iA hiA hbA;simp only[List.mem_cons,List.not_mem_nil,or_false]at hiA;subst hiA)
             ·clear hbA;(refine eff_estore (by simp only[zK];rfl) (by rfl) rfl ?hx55 ?hz55 ?hv55 hrF ?n55;(case hx55=>simp only[zM];try rfl);(case hz55=>simp only[zM];try rfl);(case hv55=>(simp only[zM];(try rfl)));try simp only[zL]);rw[show([10]:List Nat).erase 10=[]from rfl];refine allE_nil ?_;go_wp2_with fail;go_meet;exact HEND.out
            ·exact no_head (by kernel_rfl) hbA
           ·exact no_head (by kernel_rfl) hbA
           ·exact no_head (by kernel_rfl) hbA
          ·exact no_head (by kernel_rfl) hbA
         ·exact no_head (by kernel_rfl) hbA
         ·exact no_head (by kernel_rfl) hbA
        case rest=>
         obtain⟨⟨es2,cl2,km2,HMJ⟩,kg2,HMc⟩:=hcut;have hl17:(Instr.lookup 193 (.map (some q)) (.agg (kc k)) false).run Tryz.prog wc= .ok (.int .i64 ((c+1:Nat):Int)) wc:=by
          have:=HMJ.out.lookupD keyTR Tryz.underlying193 (z:=0) nv_zero wc km2 k;rw[HT1.out,lkp_put_same,zE]at this;exact this
         clear km kg HEN HLK;by_cases h0:c=0
         ·have hnk:k∉rlK (Lf.take i):=HC0.out.1 h0;have HND2:Hid (rlK (Lf.take (i+1))).Nodup:=Hi (by
           rw[HKR.out,List.nodup_append];refine⟨HND.out,by simp,fun a ha b hb e=> ?_⟩;rw[List.mem_singleton]at hb;subst hb;subst e;exact hnk ha)
          subst h0;clear hnk hcb hwr;obtain⟨kb,hkb⟩:∃kb,knownP k=kb:=⟨_,rfl⟩;have HKB:=Hi hkb;clear hkb;have hst:=RowR.step HRi.out HRR.out;rw[Nat.zero_add]at hst;have HST:=Hi hst;clear hst;cases wt with
          |false=>
           have HR2:Hid (RowR (Ci.setIfInBounds (i*34+33) (.bool false)) ((Lf.take (i+1)).map fixR++Lf.drop (i+1))):=Hi HST.out;go_upto_region 19 with fail;have Lkg2:=Ls kg2;have Lkm2:=Ls km2;refine ZP0 [0,0,0,0,0,0,1,0,0,0,0,0,1,0,0,0,0,0,5] ?_
           iterate 8 first|refine Zv ?_|refine Zd ?_
           iterate 4 refine Zo ?_
           refine Zp ?_
           iterate 2 refine Zo ?_
           iterate 3 refine Zv ?_
           refine Zi fun wE hr=> ?_;replace kg2:=hr.mod.at0 kg2;replace km2:=hr.mod.at0 km2;have mE:=hr.mod;refine ZS ?_;refine ZN kg2 fun w9 kg2 mS=> ?_;(try simp only[Array.setIfInBounds,zL]at kg2);replace km2:=mS.at_ne km2 (by omega);have HM9:Hid (Mod (fun j=>j=q∨j=g) w2 w9):=Hi ((HMc.out.then0 mE).then mS (fun j _ e=> .inr e));clear mE mS hr hl17 c33 he1;go_wp2_with fail;go_roundw
           case rel=>exact⟨i+1,_,by omega,by go_num,⟨_,_,km2,HMJ⟩,kg2,HR2,HND2,HM9⟩
           case measure=>simp[intOf];omega
          |true=>
           have HR2:Hid (RowR (Ci.setIfInBounds (i*34+33) (.bool (!kb))) ((Lf.take (i+1)).map fixR++Lf.drop (i+1))):=Hi (by
            have:=HST.out;simp only[fixR,HKB.out,Bool.true_and]at this;exact this)
           go_upto_region 19 with fail;have Lkg2:=Ls kg2;have Lkm2:=Ls km2;refine ZR0 (fun _ _ v=>v= .bool kb) [0,0,0,0,0,0,1,0,0,0,0,0,1,2,0,0,0,0,5] ?_
           iterate 13 first|refine Zv ?_|refine Zd ?_
           (refine Zc ?_ (s:=by intro wq hSq;exact(known_c k wq).mono (fun e w' h=>⟨_,h.1,by rw[HKB.out],h.2⟩));rintro _ hC;subst hC;try simp only[zL])
           iterate 4 refine Zv ?_
           refine Zi fun wE hr=> ?_;replace kg2:=hr.mod.at0 kg2;replace km2:=hr.mod.at0 km2;have mE:=hr.mod;refine ZS ?_;refine ZN kg2 fun w9 kg2 mS=> ?_;(try simp only[Array.setIfInBounds,zL]at kg2);replace km2:=mS.at_ne km2 (by omega);have HM9:Hid (Mod (fun j=>j=q∨j=g) w2 w9):=Hi ((HMc.out.then0 mE).then mS (fun j _ e=> .inr e));clear mE mS hr hl17 c33 he1;go_wp2_with fail;go_roundw
           case rel=>exact⟨i+1,_,by omega,by go_num,⟨_,_,km2,HMJ⟩,kg2,HR2,HND2,HM9⟩
           case measure=>simp[intOf];omega
         ·have HE:Hid (rolesP (msgP x) LW LR= .error 9):=Hi (by
           have hk:k∈rlK (Lf.take i):=by
            by_cases hm:k∈rlK (Lf.take i)
            ·exact hm
            ·exact absurd (HC0.out.2 hm) h0
           unfold rolesP;rw[HLF.out,if_neg];intro hd;have hsub:((rlK (Lf.take (i+1))).Sublist (rlK Lf)):=(List.take_sublist _ _).map _;have h1:=hd.sublist hsub;rw[HKR.out,List.nodup_append]at h1;exact h1.2.2 k hk k (by simp) rfl)
          have hd3:decide (((c+1:Nat):Int)>1)=true:=Dt (by omega);have HFm:Hid (Mod (fun _=>False) w wc):=Hi (HM2.out.then HMc.out (fun j hj e=>by have:=HNN.out;omega));generalize c+1=d at *;go_wp2_with fail;refine bodyPost_ret (results_tmp2 rfl _ _ _) rfl ?_;unfold RolA;rw[HE.out];exact⟨HFm.out,rfl⟩
       ·have hd:=Df hlt;obtain rfl:n=i:=by omega
        have HE:Hid (rolesP (msgP x) LW LR= .ok (Lf.map fixR)):=Hi (by
         have h1:=HND.out;rw[List.take_of_length_le (by have:=HNN.out;omega)]at h1;unfold rolesP;rw[HLF.out];unfold rlK at h1;rw[if_pos h1];rfl)
        have HNW:Hid (NewS rcr 34 192 w.heap.size wr (.slice (some ⟨g,0,none⟩) n n) (Lf.map fixR)):=Hi (by
         have h1:=HRi.out;rw[List.take_of_length_le (by have:=HNN.out;omega),List.drop_of_length_le (by have:=HNN.out;omega),List.append_nil]at h1;refine .inr ⟨g,Ci,by rw[List.length_map,HNN.out.1],HNN.out.2.1,kg,fun j y hy=> ?_⟩;have h2:=h1 j y hy;rwa[Nat.zero_add]at h2)
        have HF:Hid (Mod (fun _=>False) w wr):=Hi (HM2.out.then HMl.out (fun j hj e=>by have:=HNN.out;omega));have HCL:=Hi (fun w=>sl_clip (P:=Tryz.prog) rolesT (g:=g) (o:=0) (show n≤cap from HNN.out.2.2) w);clear km kg;go_wp2_with fail;go_at_call 80;refine(clipRo_c _ _ n HCL.out).mono ?_;rintro e w5 ⟨rfl,rfl⟩;go_wp2_with fail;refine bodyPost_ret (results_tmp2 rfl _ _ _) rfl ?_;unfold RolA;rw[HE.out];exact⟨HF.out,_,rfl,HNW.out⟩
end
section
attribute [local go_sem↓] wlMsg ldMsg stMsg wlIn ldIn stIn
attribute [local go_sem] mgx_size mgx_ext mgx_one mgx_one0 mg0 mg1 mg2 mg3 mg4 mg37 mg38 mg37' mg38' mgx_hs mg0' mg4'
theorem inr0B (y:InR):(inr y)[0]? =some (.int .u8 (y.p.toNat:Int)):=rfl
theorem inr0B' (y:InR) (h:0<(inr y).size):(inr y)[0]= .int .u8 (y.p.toNat:Int):=rfl
theorem inr2B (y:InR):(inr y)[2]? =some (.slice y.d.a y.d.l.length y.d.c):=rfl
theorem inr2B' (y:InR) (h:2<(inr y).size):(inr y)[2]= .slice y.d.a y.d.l.length y.d.c:=rfl
theorem inrB_size (y:InR):(inr y).size=3:=rfl
theorem inrB_all (y:InR):(inr y).extract 0 3=inr y:=rfl
theorem inrB_one (y:InR):(inr y).all (·.oneCell') 0 3=true:=by simp[inr,Value.oneCell']
attribute [local go_sem] inrB_size inrB_all inrB_one inr0B inr0B' inr2B inr2B'
theorem word_c (x:RdR) (y:InR) (w:World) (hK:SlAt kc 32 w x.ks.a x.ks.l) (hb:x.ks.l.length≤1000000):
  Calls Tryz.prog 82 #[.agg (msr x),.agg (inr y)] w fun e w'=>e= .returned (.bool (wordP (msgP x) (inP y)))∧Mod (fun _=>False) w w':=by
 obtain⟨n,hn⟩:∃n,x.ks.l.length=n:=⟨_,rfl⟩;obtain⟨q,hq⟩:∃q,y.p.toNat=q:=⟨_,rfl⟩;have hqb:q<256:=by rw[←hq];exact y.p.toNat_lt
 have hwq:IntKind.i64.wrap (q:Int)=(q:Int):=by rw[IntKind.wrap_i64];omega
 have hQ0:=inr0B y;have hQ0':=inr0B' y;rw[hq]at hQ0 hQ0';rw[hn]at hb;have HX:=Hi (Ai hK (Ai hn hq));show Calls Tryz.prog 82 #[.agg (mgx x.v0 x.h0 x.h1 x.h2 x.ks.a x.ks.l.length x.ks.c x.rc x.ins.a x.ins.l.length x.ins.c x.lks.a x.lks.l.length x.lks.c),.agg (inr y)] w _;rw[hn];clear hK hn;go_enter Tryz.func82,Tryz.ntmps82;go_upto_region 0 with fail;refine ZP0 [3,3,0] ?_;refine Zb fun p2 hp2=> ?_;refine Zb fun p3 hp3=> ?_;obtain⟨ne_p3_p2,hp3⟩:=Bx.set_none hp3;refine Zv ?_;refine TD.nil (fun w1 hr=> ?_);obtain⟨gp2,kp2⟩:=hr.b p2 (by first|exact Bx.set_same _ _ _|(simp only[Bx.set_ne _ (Ne.symm ne_p3_p2),Bx.set_ne _ ne_p3_p2,Bx.set_same];rfl));obtain⟨gp3,kp3⟩:=hr.b p3 (by first|exact Bx.set_same _ _ _|(simp only[Bx.set_ne _ (Ne.symm ne_p3_p2),Bx.set_ne _ ne_p3_p2,Bx.set_same];rfl));have HM1:=Hi hr.mod;clear hr;by_cases hlt:q<n
 ·have hd:=Dt hlt;obtain⟨k,hk⟩:∃k,x.ks.l[q]? =some k:=⟨_,List.getElem?_eq_getElem (by have:=HX.out.2.1;omega)⟩;obtain⟨g,o,C,U,fr,hga,kg,he,hle⟩:=(HX.out.1.mod0 HM1.out).block hk;have HE:Hid (wordP (msgP x) (inP y)=decide (k=keyB)):=Hi (by
   have:(msgP x).ks[(inP y).p.toNat]? =some k:=by
    show x.ks.l[y.p.toNat]? =some k;rw[hq,hk]
   unfold wordP;rw[this])
  have HQ:=Hi hq;clear hk hq;by_cases hkb:k=keyB
  ·have hd2:=Dt hkb;go_upto_region 1 with fail;have Lkp2:=Ls kp2;have Lkp3:=Ls kp3;have Lkg:=Ls kg;refine ZR (fun _ _ v=>v= .agg (kc keyB)) [0,1,0,0,1,0,0,0,0,1,0,1,0,1,2,0,0,0] ?_
   iterate 14 first|refine Zv ?_|refine Zd ?_
   (refine Zc ?_ (s:=by intro wq hSq;exact(budgetK_c wq).mono (fun e w' h=>⟨_,h.1,rfl,h.2⟩));rintro _ hC;subst hC;try simp only[zL])
   iterate 3 refine Zv ?_
   refine TD.nil (fun w2 hr=> ?_);replace kp2:=hr.q kp2;replace kp3:=hr.q kp3;replace kg:=hr.q kg;have HM2:=Hi (HM1.out.then0 hr.mod);clear hr;go_wp2_with fail;go_ret;exact⟨by rw[HE.out,hd2];rfl,HM2.out⟩
  ·have hd2:=Df hkb;go_upto_region 1 with fail;have Lkp2:=Ls kp2;have Lkp3:=Ls kp3;have Lkg:=Ls kg;refine ZR (fun _ _ v=>v= .agg (kc keyB)) [0,1,0,0,1,0,0,0,0,1,0,1,0,1,2,0,0,0] ?_
   iterate 14 first|refine Zv ?_|refine Zd ?_
   (refine Zc ?_ (s:=by intro wq hSq;exact(budgetK_c wq).mono (fun e w' h=>⟨_,h.1,rfl,h.2⟩));rintro _ hC;subst hC;try simp only[zL])
   iterate 3 refine Zv ?_
   refine TD.nil (fun w2 hr=> ?_);replace kp2:=hr.q kp2;replace kp3:=hr.q kp3;replace kg:=hr.q kg;have HM2:=Hi (HM1.out.then0 hr.mod);clear hr;go_wp2_with fail;go_ret;exact⟨by rw[HE.out,hd2];rfl,HM2.out⟩
 ·have hd:=Df hlt;have HE:Hid (wordP (msgP x) (inP y)=false):=Hi (by
   have:(msgP x).ks[(inP y).p.toNat]? =none:=by
    show x.ks.l[y.p.toNat]? =none;rw[hq,List.getElem?_eq_none_iff];have:=HX.out.2.1;omega
   unfold wordP;rw[this])
  have HQ:=Hi hq;clear hq;go_upto_region 1 with fail;have Lkp2:=Ls kp2;have Lkp3:=Ls kp3;refine ZP [0,1,0,0,1,0,0,0,0,1,0,1,0,1,0,0,0,0] ?_
  iterate 8 first|refine Zv ?_|refine Zd ?_
  refine Zo ?_;refine Zp ?_;refine Zo ?_;refine Zp ?_;refine Zo ?_;refine Zp ?_
  iterate 2 refine Zo ?_
  iterate 2 refine Zv ?_
  refine TD.nil (fun w2 hr=> ?_);replace kp2:=hr.q kp2;replace kp3:=hr.q kp3;have HM2:=Hi (HM1.out.then0 hr.mod);clear hr;go_wp2_with fail;go_ret;exact⟨by rw[HE.out];rfl,HM2.out⟩
end
section
attribute [local go_sem↓] wlMsg ldMsg stMsg wlIn ldIn stIn
attribute [local go_sem] mgx_size mgx_ext mgx_one mgx_one0 mg0 mg1 mg2 mg3 mg4 mg37 mg38 mg37' mg38' mgx_hs mg0' mg4' inrB_size inrB_all inrB_one inr2B inr2B'
theorem ldBud (w:World) (b o:Nat):(Instr.loadAt 56 (.pointer (some ⟨b,o,none⟩))).run Tryz.prog w=
   match w.heap[b]? with
   |some (.cells cs _ _)=>if o+3≤cs.size then .ok (.agg (cs.extract o (o+3))) w else farL Tryz.prog w 56 b o
   |_=>farL Tryz.prog w 56 b o:=load_rule (d:=_) Tryz.underlying56 rfl (by kernel_rfl) w b o
theorem stBud (w:World) (b o:Nat) (xs:Array Value):(Instr.storeAt 56 (.pointer (some ⟨b,o,none⟩)) (.agg xs)).run Tryz.prog w=
   match w.heap[b]? with
   |some (.cells cs U (0,0))=>
    if o+3≤cs.size∧xs.size=3∧xs.all (·.oneCell')=true then .ok () (setBlock w b (.cells (if o=0∧3=cs.size then xs else wr cs o xs.toList) U (0,0)))else farS Tryz.prog w 56 b o (.agg xs)
   |_=>farS Tryz.prog w 56 b o (.agg xs):=store_rule (by kernel_rfl) w b o xs
theorem alBud (w:World):(Instr.alloc 56 true (.tuple #[])).run Tryz.prog w= .ok (.pointer (some ⟨w.heap.size,0,none⟩)) (w.alloc (.cells #[.int .u64 0,.int .u64 0,.int .i64 0] 56)):=
 run_alloc_row (z:= .agg #[.int .u64 0,.int .u64 0,.int .i64 0]) (fun w=>by kernel_rfl) w
theorem alSd (w:World):(Instr.alloc 196 true (.tuple #[])).run Tryz.prog w= .ok (.pointer (some ⟨w.heap.size,0,none⟩)) (w.alloc (.cells #[.int .u64 0,.int .u64 0] 196)):=
 run_alloc_row (z:= .agg #[.int .u64 0,.int .u64 0]) (fun w=>by kernel_rfl) w
theorem alIs (w:World):(Instr.alloc 197 true (.tuple #[])).run Tryz.prog w= .ok (.pointer (some ⟨w.heap.size,0,none⟩)) (w.alloc (.cells #[.bool false,.bool false] 197)):=
 run_alloc_row (z:= .agg #[.bool false,.bool false]) (fun w=>by kernel_rfl) w
attribute [local go_sem↓] ldBud stBud
theorem zInB_size:zIn.size=3:=rfl
attribute [local go_sem] zInB_size
theorem bBud0 (w:World):(Instr.build 56 #[(2,.int .i64 (-1))]).run Tryz.prog w= .ok (.agg #[.int .u64 0,.int .u64 0,.int .i64 (-1)]) w:=by kernel_rfl
def DaF (w:World) (y:InR):Prop:=SlAt uc 1 w y.d.a y.d.l∧y.d.l.length≤y.d.c∧(y.d.a=none→y.d.c=0)∧y.d.l.length≤140737488355328
theorem told_three (d:List UInt8):∃(k:Int) (z:UInt64),toldV d= .tuple #[.int .i64 k,u64v z]∧((toldP d=none∧k= -1)∨(toldP d=some (0,z)∧k=0)∨(toldP d=some (1,z)∧k=1)):=by
 unfold toldV toldP;by_cases h1:d.length=5∧d[0]? =some 2
 ·exact⟨0,UInt64.ofNat (leV (d.drop 1)),by rw[if_pos h1];rfl,.inr (.inl ⟨by rw[if_pos h1],rfl⟩)⟩
 ·by_cases h2:d.length=9∧d[0]? =some 3
  ·exact⟨1,UInt64.ofNat (leV (d.drop 1)),by rw[if_neg h1,if_pos h2];rfl,.inr (.inr ⟨by rw[if_neg h1,if_pos h2],rfl⟩)⟩
  ·exact⟨-1,0,by rw[if_neg h1,if_neg h2];rfl,.inl ⟨by rw[if_neg h1,if_neg h2],rfl⟩⟩
theorem budL_n {m:MsP}:∀ {l:List InP} {s:BuP} {j:Nat},(budL m s j l).n≤s.n+l.length
 |[],s,j=>by simp[budL]
 |x::l,s,j=>by
  have h1:=budL_n (m:=m) (l:=l) (s:=budStep m s j x) (j:=j+1);have h2:(budStep m s j x).n≤s.n+1:=by
   unfold budStep;split
   ·simp
   ·split
    ·simp
    ·split
     ·simp
     ·split<;>simp
     ·split<;>simp
  rw[budL,List.length_cons];omega
def bu0:BuP:=⟨0,none,none,none⟩
def budR (s:BuP):Array Value:= #[u64v s.units,u64v s.price,.int .i64 s.badI]
theorem bud_snoc {m:MsP} {L:List InR} {i:Nat} {y:InR} (hy:L[i]? =some y):budL m bu0 0 ((L.take (i+1)).map inP)=budStep m (budL m bu0 0 ((L.take i).map inP)) i (inP y):=by
 obtain⟨hi,_⟩:=List.getElem?_eq_some_iff.1 hy;rw[List.take_add_one,hy];show budL m bu0 0 ((L.take i++[y]).map inP)=_;rw[List.map_append,List.map_cons,List.map_nil,budL_snoc,List.length_map,List.length_take,Nat.zero_add,Nat.min_eq_left (by omega)]
def BdA (p:Nat) (C:Array Value):Land:=fun T w=>T p∧w.heap[p]? =some (.cells C 56 (0,0))
theorem goodBd (p:Nat) (C:Array Value):Good (BdA p C):=Good.at _ _
theorem bd_st {p:Nat} {C D:Array Value} {T:Nat→Prop} {w:World} (i:Nat) (z:UInt64) (h:BdA p C T w) (hi:i<C.size) (hD:C.setIfInBounds i (u64v z)=D):∃w',(Instr.storeAt 25 (.pointer (some ⟨p,i,none⟩)) (u64v z)).run Tryz.prog w= .ok () w'∧Mod T w w'∧BdA p D T w':=by
 subst hD;exact⟨_,run_store_one h.2 (by kernel_rfl) hi rfl,(mod_set w p _).mono (fun i _ e=>by rw[e];exact h.1),h.1,heap_setBlock w _ (Ls h.2)⟩
theorem bud_some {n:Nat} {b:Option Nat} {p:Option UInt64} (v:UInt64):min (v.toNat:Int) 1400000=((BuP.units ⟨n,b,some v,p⟩).toNat:Int):=by
 unfold BuP.units;simp only[zE];split
 ·omega
 ·rw[show((1400000:UInt64).toNat:Int)=1400000 from rfl];omega
theorem bud_none {n:Nat} {b:Option Nat} {p:Option UInt64} {v:UInt64} (h:UInt64.ofNat n*200000=v):min (v.toNat:Int) 1400000=((BuP.units ⟨n,b,none,p⟩).toNat:Int):=by
 unfold BuP.units;simp only[Option.getD_none,h];split
 ·omega
 ·rw[show((1400000:UInt64).toNat:Int)=1400000 from rfl];omega
theorem budgetOf_c (x:RdR) (w:World) (hB:BudW w) (hK:SlAt kc 32 w x.ks.a x.ks.l) (hb:x.ks.l.length≤1000000) (hI:SlAt inr 3 w x.ins.a x.ins.l) (hD:∀y∈x.ins.l,DaF w y) (hib:x.ins.l.length≤1000000):
  Calls Tryz.prog 38 #[.agg (msr x)] w fun e w'=>e= .returned (.agg (budR (budP (msgP x))))∧Mod (fun _=>False) w w':=by
 have hwc:∀(y:InR) (wq:World),SlAt kc 32 wq x.ks.a x.ks.l→Calls Tryz.prog 82 #[.agg (mgx x.v0 x.h0 x.h1 x.h2 x.ks.a x.ks.l.length x.ks.c x.rc x.ins.a x.ins.l.length x.ins.c x.lks.a x.lks.l.length x.lks.c),.agg (inr y)] wq fun e w'=>e= .returned (.bool (wordP (msgP x) (inP y)))∧Mod (fun _=>False) wq w':=fun y wq h=>word_c x y wq h hb;obtain⟨n,hn⟩:∃n,x.ins.l.length=n:=⟨_,rfl⟩;rw[hn]at hib;simp only[hn]at hwc;have HX:=Hi (Ai hB (Ai hK (Ai hb (Ai hI (Ai hD hn)))));have hB0:=bBud0;show Calls Tryz.prog 38 #[.agg (mgx x.v0 x.h0 x.h1 x.h2 x.ks.a x.ks.l.length x.ks.c x.rc x.ins.a x.ins.l.length x.ins.c x.lks.a x.lks.l.length x.lks.c)] w _;rw[hn];obtain⟨kl,hkl⟩:∃kl,x.ks.l.length=kl:=⟨_,rfl⟩;rw[hkl]at hb⊢;simp only[hkl]at hwc;have HWC:=Hi hwc;have HKL:=Hi hkl;clear hB hK hI hD hn hkl hwc;go_enter Tryz.func38,Tryz.ntmps38;go_upto_region 0 with fail;refine ZP0 [3,3] ?_;refine Zb fun p1 hp1=> ?_;refine Za alBud fun p2 hp2=> ?_;obtain⟨ne_p2_p1,hp2⟩:=Bx.set_none hp2;refine TD.nil (fun w1 hr=> ?_);obtain⟨gp1,kp1⟩:=hr.b p1 (by first|exact Bx.set_same _ _ _|(simp only[Bx.set_ne _ (Ne.symm ne_p2_p1),Bx.set_ne _ ne_p2_p1,Bx.set_same];rfl));obtain⟨gp2,kp2⟩:=hr.b p2 (by first|exact Bx.set_same _ _ _|(simp only[Bx.set_ne _ (Ne.symm ne_p2_p1),Bx.set_ne _ ne_p2_p1,Bx.set_same];rfl));have HM1:=Hi hr.mod;have HG:=Hi gp1;clear hr;go_upto_region 1 with fail;have Lkp1:=Ls kp1;have Lkp2:=Ls kp2;refine ZP0 [0,3,4] ?_;refine Zu hB0 ?_;refine Za alBud fun p3 hp3=> ?_;refine Zt ?_;refine TD.nil (fun w2 hr=> ?_);replace kp1:=hr.q kp1;replace kp2:=hr.q kp2;obtain⟨gp3,kp3⟩:=hr.b p3;have HM2:=Hi (HM1.out.then0 hr.mod);clear hr;go_upto_region 2 with fail;have Lkp1:=Ls kp1;have Lkp2:=Ls kp2;have Lkp3:=Ls kp3;refine ZP0 [3] ?_;refine Za alSd fun p4 hp4=> ?_;refine TD.nil (fun w3 hr=> ?_);replace kp1:=hr.q kp1;replace kp2:=hr.q kp2;replace kp3:=hr.q kp3;obtain⟨gp4,kp4⟩:=hr.b p4;have HM3:=Hi (HM2.out.then0 hr.mod);clear hr;go_upto_region 3 with fail;have hp4:=Ls kp4;have Lkp1:=Ls kp1;have Lkp2:=Ls kp2;have Lkp3:=Ls kp3;have Lkp4:=Ls kp4;refine ZP0 [3] ?_;refine Za alIs fun p5 hp5=> ?_;refine TD.nil (fun w4 hr=> ?_);replace kp1:=hr.q kp1;replace kp2:=hr.q kp2;replace kp3:=hr.q kp3;replace kp4:=hr.q kp4;obtain⟨gp5,kp5⟩:=hr.b p5;have HM4:=Hi (HM3.out.then0 hr.mod);have HG3:Hid (w.heap.size≤p1∧w.heap.size≤p2∧w.heap.size≤p3∧w.heap.size≤p4∧w.heap.size≤p5∧p1<p3∧p2<p3∧p3<p4∧p4<p5):=Hi (by
  have:=HM1.out.size;have:=HM2.out.size;have:=HM3.out.size;refine⟨?_,?_,?_,?_,?_,?_,?_,?_,?_⟩<;>omega)
 clear hr;go_upto_region 5 with fail;have Lkp1:=Ls kp1;have Lkp2:=Ls kp2;have Lkp3:=Ls kp3;have Lkp4:=Ls kp4;have Lkp5:=Ls kp5;refine ZP0 [0,1,0,0] ?_
 iterate 4 first|refine Zv ?_|refine Zd ?_
 refine TD.nil (fun w5 hr=> ?_);replace kp1:=hr.q kp1;replace kp2:=hr.q kp2;replace kp3:=hr.q kp3;replace kp4:=hr.q kp4;replace kp5:=hr.q kp5;have HM5:=Hi (HM4.out.then0 hr.mod);clear hr;go_wp2_with fail;go_loopw [6,15] (fun s6 s15 ws=>∃(i:Nat) (s:BuP),i≤n∧s15= .int .i64 (i:Int)∧s6= .int .u64 (s.n:Int)∧Hid (s=budL (msgP x) bu0 0 ((x.ins.l.take i).map inP))∧Hid (Mod (fun _=>False) w ws)∧
  ws.heap[p1]? =some (.cells (mgx x.v0 x.h0 x.h1 x.h2 x.ks.a kl x.ks.c x.rc x.ins.a n x.ins.c x.lks.a x.lks.l.length x.lks.c) 51 (0,0))∧ws.heap[p2]? =some (.cells #[.int .u64 0,.int .u64 0,.int .i64 0] 56 (0,0))∧
  ws.heap[p3]? =some (.cells #[.int .u64 0,.int .u64 0,.int .i64 s.badI] 56 (0,0))∧ws.heap[p4]? =some (.cells #[u64v (s.u.getD 0),u64v (s.p.getD 0)] 196 (0,0))∧ws.heap[p5]? =some (.cells #[.bool s.u.isSome,.bool s.p.isSome] 197 (0,0))) (fun _ s15 _=>n-(intOf s15).toNat)
 case atStart=>exact⟨0,bu0,Nat.zero_le _,rfl,rfl,Hi (by simp[budL]),HM5,kp1,kp2,kp3,kp4,kp5⟩
 case round=>
  clear kp1 kp2 kp3 kp4 kp5;obtain⟨i,s,hi,rfl,rfl,HS,HM,kp1,kp2,kp3,kp4,kp5⟩:=hrel;have hsn:s.n≤n:=by
   rw[HS.out];have h1:=budL_n (m:=msgP x) (l:=(x.ins.l.take i).map inP) (s:=bu0) (j:=0);have h2:((x.ins.l.take i).map inP).length≤n:=by
    rw[List.length_map,List.length_take];omega
   have h3:bu0.n=0:=rfl;omega
  by_cases hlt:i<n
  ·have hd:=Dt hlt;obtain⟨y,hy⟩:∃y,x.ins.l[i]? =some y:=⟨_,List.getElem?_eq_getElem (by have:=HX.out.2.2.2.2.2;omega)⟩;obtain⟨g,o,C,U,fr,hga,kg,he,hle⟩:=(HX.out.2.2.2.1.mod0 HM.out).block hy;have HY:=Hi (Ai (bud_snoc (m:=msgP x) hy) (HX.out.2.2.2.2.1 y (List.mem_of_getElem? hy)));obtain⟨nn,bd,u,p⟩:=s;simp only at kp3 kp4 kp5 hsn;clear hy;go_upto_region 7 with fail;have Lkp1:=Ls kp1;have Lkp2:=Ls kp2;have Lkp3:=Ls kp3;have Lkp4:=Ls kp4;have Lkp5:=Ls kp5;have Lkg:=Ls kg;refine ZP0 [0,0,1,3,0,4] ?_
   iterate 3 first|refine Zv ?_|refine Zd ?_
   refine Za alIn fun p8 hp8=> ?_;refine Zv ?_;refine Zt ?_;refine TD.nil (fun w6 hr=> ?_);replace kp1:=hr.q kp1;replace kp2:=hr.q kp2;replace kp3:=hr.q kp3;replace kp4:=hr.q kp4;replace kp5:=hr.q kp5;replace kg:=hr.q kg;obtain⟨gp8,kp8⟩:=hr.b p8;have HM6:=Hi (HM.out.then0 hr.mod);clear hr he hle kg hga;obtain⟨kk,zz,htv,hcase⟩:=told_three y.d.l;have HTV:=Hi (Ai htv hcase);clear htv hcase;go_upto_region 8 with fail;have Lkp1:=Ls kp1;have Lkp2:=Ls kp2;have Lkp3:=Ls kp3;have Lkp4:=Ls kp4;have Lkp5:=Ls kp5;have Lkp8:=Ls kp8;refine ZR0 (fun _ _ v=>v= .tuple #[.int .i64 kk,u64v zz]) [0,1,2,0,0,0,0,0] ?_;refine Zv ?_;refine Zd ?_;(refine Zc ?_ (s:=by intro wq hSq;exact(told_c wq (HY.out.2.1.mod0 (HM6.out.then0 hSq)) HY.out.2.2.1 HY.out.2.2.2.1 HY.out.2.2.2.2 (HX.out.1.mod0 (HM6.out.then0 hSq))).mono (fun e w' h=>⟨_,h.1,HTV.out.1,h.2⟩));rintro _ hC;subst hC;try simp only[zL])
   iterate 5 refine Zv ?_
   refine TD.nil (fun w7 hr=> ?_);replace kp1:=hr.q kp1;replace kp2:=hr.q kp2;replace kp3:=hr.q kp3;replace kp4:=hr.q kp4;replace kp5:=hr.q kp5;replace kp8:=hr.q kp8;have HM7:=Hi (HM6.out.then0 hr.mod);clear hr;obtain⟨wd,hwd⟩:∃wd,wordP (msgP x) (inP y)=wd:=⟨_,rfl⟩;have HWD:=Hi hwd;clear hwd;go_upto_region 10 with fail;have Lkp1:=Ls kp1;have Lkp2:=Ls kp2;have Lkp3:=Ls kp3;have Lkp4:=Ls kp4;have Lkp5:=Ls kp5;have Lkp8:=Ls kp8;refine ZR0 (fun _ _ v=>v= .bool wd) [1,1,2,0,0] ?_
   iterate 2 refine Zd ?_
   (refine Zc ?_ (s:=by intro wq hSq;exact(by have h:=HWC.out y wq (HX.out.2.1.mod0 (HM7.out.then0 hSq));rw[HWD.out]at h;exact h.mono (fun e w' h=>⟨_,h.1,rfl,h.2⟩)));rintro _ hC;subst hC;try simp only[zL])
   iterate 2 refine Zv ?_
   refine TD.nil (fun w8 hr=> ?_);replace kp1:=hr.q kp1;replace kp2:=hr.q kp2;replace kp3:=hr.q kp3;replace kp4:=hr.q kp4;replace kp5:=hr.q kp5;replace kp8:=hr.q kp8;have HM8:=Hi (HM7.out.then0 hr.mod);clear hr kp8;cases wd with
   |false=>
    have hw1:IntKind.u64.wrap ((nn:Int)+1)=((nn+1:Nat):Int):=by rw[IntKind.wrap_u64];omega
    have HSS:Hid ((⟨nn+1,bd,u,p⟩:BuP)=budL (msgP x) bu0 0 ((x.ins.l.take (i+1)).map inP)):=Hi (by
     rw[HY.out.1,←HS.out,budStep,HWD.out];rfl)
    go_upto_region 11 with fail;have Lkp1:=Ls kp1;have Lkp2:=Ls kp2;have Lkp3:=Ls kp3;have Lkp4:=Ls kp4;have Lkp5:=Ls kp5;refine ZP0 [0,0,0] ?_
    iterate 3 refine Zv ?_
    refine TD.nil (fun w9 hr=> ?_);replace kp1:=hr.q kp1;replace kp2:=hr.q kp2;replace kp3:=hr.q kp3;replace kp4:=hr.q kp4;replace kp5:=hr.q kp5;have HME:=Hi (HM8.out.then0 hr.mod);clear hr;go_wp2_with fail;go_roundw
    case rel=>exact⟨i+1,⟨nn+1,bd,u,p⟩,by omega,by go_num,rfl,HSS,HME,kp1,kp2,kp3,kp4,kp5⟩
    case measure=>simp[intOf];omega
   |true=>
    cases bd with
    |some j=>
     have hdj:decide ((j:Int)≥0)=true:=Dt (by omega);replace kp3:w8.heap[p3]? =some (.cells #[.int .u64 0,.int .u64 0,.int .i64 (j:Int)] 56 (0,0)):=kp3;have HSS:Hid ((⟨nn,some j,u,p⟩:BuP)=budL (msgP x) bu0 0 ((x.ins.l.take (i+1)).map inP)):=Hi (by
      rw[HY.out.1,←HS.out,budStep,HWD.out];rfl)
     go_upto_region 12 with fail;have Lkp1:=Ls kp1;have Lkp2:=Ls kp2;have Lkp3:=Ls kp3;have Lkp4:=Ls kp4;have Lkp5:=Ls kp5;refine ZP0 [0,1,0,0] ?_
     iterate 4 first|refine Zv ?_|refine Zd ?_
     refine TD.nil (fun w9 hr=> ?_);replace kp1:=hr.q kp1;replace kp2:=hr.q kp2;replace kp3:=hr.q kp3;replace kp4:=hr.q kp4;replace kp5:=hr.q kp5;have HME:=Hi (HM8.out.then0 hr.mod);clear hr;go_wp2_with fail;go_roundw
     case rel=>exact⟨i+1,⟨nn,some j,u,p⟩,by omega,by go_num,rfl,HSS,HME,kp1,kp2,kp3,kp4,kp5⟩
     case measure=>simp[intOf];omega
    |none=>
     replace kp3:w8.heap[p3]? =some (.cells #[.int .u64 0,.int .u64 0,.int .i64 (-1)] 56 (0,0)):=kp3;go_upto_region 12 with fail;have Lkp1:=Ls kp1;have Lkp2:=Ls kp2;have Lkp3:=Ls kp3;have Lkp4:=Ls kp4;have Lkp5:=Ls kp5;refine ZP0 [0,1,0,0] ?_
     iterate 4 first|refine Zv ?_|refine Zd ?_
     refine TD.nil (fun w9 hr=> ?_);replace kp1:=hr.q kp1;replace kp2:=hr.q kp2;replace kp3:=hr.q kp3;replace kp4:=hr.q kp4;replace kp5:=hr.q kp5;have HM9:=Hi (HM8.out.then0 hr.mod);clear hr;rcases HTV.out.2 with⟨ht,rfl⟩|⟨ht,rfl⟩|⟨ht,rfl⟩
     ·have HT:=Hi ht;clear ht;go_upto_region 13 with fail;have Lkp1:=Ls kp1;have Lkp2:=Ls kp2;have Lkp3:=Ls kp3;have Lkp4:=Ls kp4;have Lkp5:=Ls kp5;refine ZP0 [0,0,0,0,0,1,0,0] ?_
      iterate 3 refine Zv ?_
      iterate 2 refine Zo ?_
      refine Zp ?_
      iterate 2 refine Zv ?_
      refine TD.nil (fun w10 hr=> ?_);replace kp1:=hr.q kp1;replace kp2:=hr.q kp2;replace kp3:=hr.q kp3;replace kp4:=hr.q kp4;replace kp5:=hr.q kp5;have HM10:=Hi (HM9.out.then0 hr.mod);clear hr;have HSS:Hid ((⟨nn,some i,u,p⟩:BuP)=budL (msgP x) bu0 0 ((x.ins.l.take (i+1)).map inP)):=Hi (by
       rw[HY.out.1,←HS.out,budStep,HWD.out];simp only[inP,HT.out];rfl)
      go_upto_region 14 with fail;have Lkp1:=Ls kp1;have Lkp2:=Ls kp2;have Lkp3:=Ls kp3;have Lkp4:=Ls kp4;have Lkp5:=Ls kp5;refine ZP0 [0,0,5] ?_
      iterate 2 refine Zv ?_
      refine Zi fun wE hr=> ?_;replace kp1:=hr.mod.at0 kp1;replace kp2:=hr.mod.at0 kp2;replace kp3:=hr.mod.at0 kp3;replace kp4:=hr.mod.at0 kp4;replace kp5:=hr.mod.at0 kp5;have mE:=hr.mod;refine ZS ?_;refine ZN kp3 fun w11 kp3 mS=> ?_;(try simp only[Array.setIfInBounds,zL]at kp3);replace kp1:=mS.at_ne kp1 (by omega);replace kp2:=mS.at_ne kp2 (by omega);replace kp4:=mS.at_ne kp4 (by omega);replace kp5:=mS.at_ne kp5 (by omega);have HME:Hid (Mod (fun _=>False) w w11):=Hi ((HM10.out.then0 mE).then mS (fun j _ e=>by have:=HG3.out;omega));clear hr mE mS;go_wp2_with fail;go_roundw
      case rel=>exact⟨i+1,⟨nn,some i,u,p⟩,by omega,by go_num,rfl,HSS,HME,kp1,kp2,kp3,kp4,kp5⟩
      case measure=>simp[intOf];omega
     ·have HT:=Hi ht;clear ht;cases u with
      |some v=>
       replace kp5:w9.heap[p5]? =some (.cells #[.bool true,.bool p.isSome] 197 (0,0)):=kp5;go_upto_region 13 with fail;have Lkp1:=Ls kp1;have Lkp2:=Ls kp2;have Lkp3:=Ls kp3;have Lkp4:=Ls kp4;have Lkp5:=Ls kp5;refine ZP0 [0,0,0,0,0,1,0,0] ?_
       iterate 8 first|refine Zv ?_|refine Zd ?_
       refine TD.nil (fun w10 hr=> ?_);replace kp1:=hr.q kp1;replace kp2:=hr.q kp2;replace kp3:=hr.q kp3;replace kp4:=hr.q kp4;replace kp5:=hr.q kp5;have HM10:=Hi (HM9.out.then0 hr.mod);clear hr;have HSS:Hid ((⟨nn,some i,some v,p⟩:BuP)=budL (msgP x) bu0 0 ((x.ins.l.take (i+1)).map inP)):=Hi (by
        rw[HY.out.1,←HS.out,budStep,HWD.out];simp only[inP,HT.out];rfl)
       go_upto_region 14 with fail;have Lkp1:=Ls kp1;have Lkp2:=Ls kp2;have Lkp3:=Ls kp3;have Lkp4:=Ls kp4;have Lkp5:=Ls kp5;refine ZP0 [0,0,5] ?_
       iterate 2 refine Zv ?_
       refine Zi fun wE hr=> ?_;replace kp1:=hr.mod.at0 kp1;replace kp2:=hr.mod.at0 kp2;replace kp3:=hr.mod.at0 kp3;replace kp4:=hr.mod.at0 kp4;replace kp5:=hr.mod.at0 kp5;have mE:=hr.mod;refine ZS ?_;refine ZN kp3 fun w11 kp3 mS=> ?_;(try simp only[Array.setIfInBounds,zL]at kp3);replace kp1:=mS.at_ne kp1 (by omega);replace kp2:=mS.at_ne kp2 (by omega);replace kp4:=mS.at_ne kp4 (by omega);replace kp5:=mS.at_ne kp5 (by omega);have HME:Hid (Mod (fun _=>False) w w11):=Hi ((HM10.out.then0 mE).then mS (fun j _ e=>by have:=HG3.out;omega));clear hr mE mS;go_wp2_with fail;go_roundw
       case rel=>exact⟨i+1,⟨nn,some i,some v,p⟩,by omega,by go_num,rfl,HSS,HME,kp1,kp2,kp3,kp4,kp5⟩
       case measure=>simp[intOf];omega
      |none=>
       replace kp5:w9.heap[p5]? =some (.cells #[.bool false,.bool p.isSome] 197 (0,0)):=kp5;go_upto_region 13 with fail;have Lkp1:=Ls kp1;have Lkp2:=Ls kp2;have Lkp3:=Ls kp3;have Lkp4:=Ls kp4;have Lkp5:=Ls kp5;refine ZP0 [0,0,0,0,0,1,0,0] ?_
       iterate 8 first|refine Zv ?_|refine Zd ?_
       refine TD.nil (fun w10 hr=> ?_);replace kp1:=hr.q kp1;replace kp2:=hr.q kp2;replace kp3:=hr.q kp3;replace kp4:=hr.q kp4;replace kp5:=hr.q kp5;have HM10:=Hi (HM9.out.then0 hr.mod);clear hr;have HSS:Hid ((⟨nn,none,some zz,p⟩:BuP)=budL (msgP x) bu0 0 ((x.ins.l.take (i+1)).map inP)):=Hi (by
        rw[HY.out.1,←HS.out,budStep,HWD.out];simp only[inP,HT.out];rfl)
       go_upto_region 9 with fail;have Lkp1:=Ls kp1;have Lkp2:=Ls kp2;have Lkp3:=Ls kp3;have Lkp4:=Ls kp4;have Lkp5:=Ls kp5;refine ZP0 [0,0,0,0,5,0,6] ?_
       iterate 4 refine Zv ?_
       refine Zi fun w11 hr=> ?_;replace kp1:=hr.q kp1;replace kp2:=hr.q kp2;replace kp3:=hr.q kp3;replace kp4:=hr.q kp4;replace kp5:=hr.q kp5;have HM11:=Hi (HM10.out.then0 hr.mod);clear hr;refine ZS ?_;refine ZM kp4 fun wn kp4 mS=> ?_;(try simp only[Array.setIfInBounds,zL]at kp4);replace kp1:=mS.at_ne kp1 (by have:=HG3.out;omega);replace kp2:=mS.at_ne kp2 (by have:=HG3.out;omega);replace kp3:=mS.at_ne kp3 (by have:=HG3.out;omega);replace kp5:=mS.at_ne kp5 (by have:=HG3.out;omega);have HM12:Hid (Mod (fun _=>False) w wn):=Hi (HM11.out.then mS (fun j _ e=>by have:=HG3.out;omega));clear mS;obtain⟨w12,rfl⟩:∃w12:World,w12=wn:=⟨_,rfl⟩;refine Ze ?_;refine Zz ?_;refine ZS ?_;refine ZN kp5 fun wn kp5 mS=> ?_;(try simp only[Array.setIfInBounds,zL]at kp5);replace kp1:=mS.at_ne kp1 (by have:=HG3.out;omega);replace kp2:=mS.at_ne kp2 (by have:=HG3.out;omega);replace kp3:=mS.at_ne kp3 (by have:=HG3.out;omega);replace kp4:=mS.at_ne kp4 (by have:=HG3.out;omega);have HME:Hid (Mod (fun _=>False) w wn):=Hi (HM12.out.then mS (fun j _ e=>by have:=HG3.out;omega));clear mS;go_wp2_with fail;go_roundw
       case rel=>exact⟨i+1,⟨nn,none,some zz,p⟩,by omega,by go_num,rfl,HSS,HME,kp1,kp2,kp3,kp4,kp5⟩
       case measure=>simp[intOf];omega
     ·have HT:=Hi ht;clear ht;cases p with
      |some v=>
       replace kp5:w9.heap[p5]? =some (.cells #[.bool u.isSome,.bool true] 197 (0,0)):=kp5;go_upto_region 13 with fail;have Lkp1:=Ls kp1;have Lkp2:=Ls kp2;have Lkp3:=Ls kp3;have Lkp4:=Ls kp4;have Lkp5:=Ls kp5;refine ZP0 [0,0,0,0,0,1,0,0] ?_
       iterate 8 first|refine Zv ?_|refine Zd ?_
       refine TD.nil (fun w10 hr=> ?_);replace kp1:=hr.q kp1;replace kp2:=hr.q kp2;replace kp3:=hr.q kp3;replace kp4:=hr.q kp4;replace kp5:=hr.q kp5;have HM10:=Hi (HM9.out.then0 hr.mod);clear hr;have HSS:Hid ((⟨nn,some i,u,some v⟩:BuP)=budL (msgP x) bu0 0 ((x.ins.l.take (i+1)).map inP)):=Hi (by
        rw[HY.out.1,←HS.out,budStep,HWD.out];simp only[inP,HT.out];rfl)
       go_upto_region 14 with fail;have Lkp1:=Ls kp1;have Lkp2:=Ls kp2;have Lkp3:=Ls kp3;have Lkp4:=Ls kp4;have Lkp5:=Ls kp5;refine ZP0 [0,0,5] ?_
       iterate 2 refine Zv ?_
       refine Zi fun wE hr=> ?_;replace kp1:=hr.mod.at0 kp1;replace kp2:=hr.mod.at0 kp2;replace kp3:=hr.mod.at0 kp3;replace kp4:=hr.mod.at0 kp4;replace kp5:=hr.mod.at0 kp5;have mE:=hr.mod;refine ZS ?_;refine ZN kp3 fun w11 kp3 mS=> ?_;(try simp only[Array.setIfInBounds,zL]at kp3);replace kp1:=mS.at_ne kp1 (by omega);replace kp2:=mS.at_ne kp2 (by omega);replace kp4:=mS.at_ne kp4 (by omega);replace kp5:=mS.at_ne kp5 (by omega);have HME:Hid (Mod (fun _=>False) w w11):=Hi ((HM10.out.then0 mE).then mS (fun j _ e=>by have:=HG3.out;omega));clear hr mE mS;go_wp2_with fail;go_roundw
       case rel=>exact⟨i+1,⟨nn,some i,u,some v⟩,by omega,by go_num,rfl,HSS,HME,kp1,kp2,kp3,kp4,kp5⟩
       case measure=>simp[intOf];omega
      |none=>
       replace kp5:w9.heap[p5]? =some (.cells #[.bool u.isSome,.bool false] 197 (0,0)):=kp5;go_upto_region 13 with fail;have Lkp1:=Ls kp1;have Lkp2:=Ls kp2;have Lkp3:=Ls kp3;have Lkp4:=Ls kp4;have Lkp5:=Ls kp5;refine ZP0 [0,0,0,0,0,1,0,0] ?_
       iterate 8 first|refine Zv ?_|refine Zd ?_
       refine TD.nil (fun w10 hr=> ?_);replace kp1:=hr.q kp1;replace kp2:=hr.q kp2;replace kp3:=hr.q kp3;replace kp4:=hr.q kp4;replace kp5:=hr.q kp5;have HM10:=Hi (HM9.out.then0 hr.mod);clear hr;have HSS:Hid ((⟨nn,none,u,some zz⟩:BuP)=budL (msgP x) bu0 0 ((x.ins.l.take (i+1)).map inP)):=Hi (by
        rw[HY.out.1,←HS.out,budStep,HWD.out];simp only[inP,HT.out];rfl)
       go_upto_region 9 with fail;have Lkp1:=Ls kp1;have Lkp2:=Ls kp2;have Lkp3:=Ls kp3;have Lkp4:=Ls kp4;have Lkp5:=Ls kp5;refine ZP0 [0,0,0,0,5,0,6] ?_
       iterate 4 refine Zv ?_
       refine Zi fun w11 hr=> ?_;replace kp1:=hr.q kp1;replace kp2:=hr.q kp2;replace kp3:=hr.q kp3;replace kp4:=hr.q kp4;replace kp5:=hr.q kp5;have HM11:=Hi (HM10.out.then0 hr.mod);clear hr;refine ZS ?_;refine ZM kp4 fun wn kp4 mS=> ?_;(try simp only[Array.setIfInBounds,zL]at kp4);replace kp1:=mS.at_ne kp1 (by have:=HG3.out;omega);replace kp2:=mS.at_ne kp2 (by have:=HG3.out;omega);replace kp3:=mS.at_ne kp3 (by have:=HG3.out;omega);replace kp5:=mS.at_ne kp5 (by have:=HG3.out;omega);have HM12:Hid (Mod (fun _=>False) w wn):=Hi (HM11.out.then mS (fun j _ e=>by have:=HG3.out;omega));clear mS;obtain⟨w12,rfl⟩:∃w12:World,w12=wn:=⟨_,rfl⟩;refine Ze ?_;refine Zz ?_;refine ZS ?_;refine ZN kp5 fun wn kp5 mS=> ?_;(try simp only[Array.setIfInBounds,zL]at kp5);replace kp1:=mS.at_ne kp1 (by have:=HG3.out;omega);replace kp2:=mS.at_ne kp2 (by have:=HG3.out;omega);replace kp3:=mS.at_ne kp3 (by have:=HG3.out;omega);replace kp4:=mS.at_ne kp4 (by have:=HG3.out;omega);have HME:Hid (Mod (fun _=>False) w wn):=Hi (HM12.out.then mS (fun j _ e=>by have:=HG3.out;omega));clear mS;go_wp2_with fail;go_roundw
       case rel=>exact⟨i+1,⟨nn,none,u,some zz⟩,by omega,by go_num,rfl,HSS,HME,kp1,kp2,kp3,kp4,kp5⟩
       case measure=>simp[intOf];omega
  ·have hd:=Df hlt;obtain rfl:i=n:=by omega
   have HBP:Hid (budP (msgP x)=s):=Hi (by
    rw[HS.out];have:x.ins.l.take i=x.ins.l:=List.take_of_length_le (by have:=HX.out.2.2.2.2.2;omega);rw[this];rfl)
   have HSN:Hid (s.n≤i∧i≤1000000):=Hi ⟨hsn,hib⟩;obtain⟨nn,bd,u,p⟩:=s;simp only at kp3 kp4 kp5 hsn;cases u with
   |some v=>
    replace kp5:wr.heap[p5]? =some (.cells #[.bool true,.bool p.isSome] 197 (0,0)):=kp5;replace kp4:wr.heap[p4]? =some (.cells #[u64v v,u64v (p.getD 0)] 196 (0,0)):=kp4;go_upto_region 16 with fail;have Lkp1:=Ls kp1;have Lkp2:=Ls kp2;have Lkp3:=Ls kp3;have Lkp4:=Ls kp4;have Lkp5:=Ls kp5;refine ZP0 [0,1,0] ?_
    iterate 3 first|refine Zv ?_|refine Zd ?_
    refine TD.nil (fun w9 hr=> ?_);replace kp1:=hr.q kp1;replace kp2:=hr.q kp2;replace kp3:=hr.q kp3;replace kp4:=hr.q kp4;replace kp5:=hr.q kp5;have HM9:=Hi (HM.out.then0 hr.mod);clear hr;obtain⟨cu,hcu⟩:∃cu,BuP.units ⟨nn,bd,(some v),p⟩=cu:=⟨_,rfl⟩;have hmin:min (v.toNat:Int) 1400000=(cu.toNat:Int):=by
     rw[←hcu];exact bud_some v
    have HC:=Hi hcu;clear hcu;go_upto_region 18 with fail;have Lkp2:=Ls kp2;have Lkp4:=Ls kp4;refine wp_gpass (T0:=fun i=>i=p3) (K:=BdA p3 #[.int .u64 0,.int .u64 0,.int .i64 (BuP.badI ⟨nn,bd,(some v),p⟩)]) (κ:=fun i=>[0,0,0,0,0,0,6,0,6].getD i 0) (υ:=fun _=>[]) [0,1,2,3,4,5,6,7,8] (by kernel_rfl) (by kernel_rfl) (goodBd p3 #[.int .u64 0,.int .u64 0,.int .i64 (BuP.badI ⟨nn,bd,(some v),p⟩)]).cl (⟨rfl,kp3⟩) (fun i h=>by rw[h];exact Ls kp3) ?_;have gK:=goodBd p3 #[.int .u64 0,.int .u64 0,.int .i64 (BuP.badI ⟨nn,bd,(some v),p⟩)];refine Zg ?_;(refine TG.load (v:= ?v111) (p:= ?p111) (by simp only[zK];rfl) rfl (by rfl) rfl ?hx111 (fun wq hSq=> ?y111) ?n111;(case hx111=>simp only[zM];try rfl);(case y111=>(have kp2q:=hSq.at kp2 (by intro hT;first|exact hT|exact absurd hT (by assumption)|omega|(simp only at hT;omega));have kp4q:=hSq.at kp4 (by intro hT;first|exact hT|exact absurd hT (by assumption)|omega|(simp only at hT;omega));go_simp;(try with_reducible rfl)));try simp only[zL])
    iterate 2 refine Zg ?_
    (refine TG.load (v:= ?v114) (p:= ?p114) (by simp only[zK];rfl) rfl (by rfl) rfl ?hx114 (fun wq hSq=> ?y114) ?n114;(case hx114=>simp only[zM];try rfl);(case y114=>(have kp2q:=hSq.at kp2 (by intro hT;first|exact hT|exact absurd hT (by assumption)|omega|(simp only at hT;omega));have kp4q:=hSq.at kp4 (by intro hT;first|exact hT|exact absurd hT (by assumption)|omega|(simp only at hT;omega));go_simp;(try with_reducible rfl)));try simp only[zL]);refine Zg ?_;(refine TG.storeU (X:= ?X116) (Y:= ?Y116) (BdA p3 #[u64v cu,.int .u64 0,.int .i64 (BuP.badI ⟨nn,bd,(some v),p⟩)]) (goodBd p3 #[u64v cu,.int .u64 0,.int .i64 (BuP.badI ⟨nn,bd,(some v),p⟩)]) (by simp only[zK];rfl) rfl (by rfl) rfl rfl ?hx116 ?hz116 (fun T wq hSq kq=> ?y116) (fun _=> ?n116);(case hx116=>simp only[zM];try rfl);(case hz116=>simp only[zM];try rfl);(case y116=>(exact bd_st (C:= #[.int .u64 0,.int .u64 0,.int .i64 (BuP.badI ⟨nn,bd,(some v),p⟩)]) 0 cu kq (by simp) rfl));replace gK:=(goodBd p3 #[u64v cu,.int .u64 0,.int .i64 (BuP.badI ⟨nn,bd,(some v),p⟩)]);try simp only[zL]);refine Zg ?_;(refine TG.storeU (X:= ?X118) (Y:= ?Y118) (BdA p3 #[u64v cu,u64v (p.getD 0),.int .i64 (BuP.badI ⟨nn,bd,(some v),p⟩)]) (goodBd p3 #[u64v cu,u64v (p.getD 0),.int .i64 (BuP.badI ⟨nn,bd,(some v),p⟩)]) (by simp only[zK];rfl) rfl (by rfl) rfl rfl ?hx118 ?hz118 (fun T wq hSq kq=> ?y118) (fun _=> ?n118);(case hx118=>simp only[zM];try rfl);(case hz118=>simp only[zM];try rfl);(case y118=>(exact bd_st (C:= #[u64v cu,.int .u64 0,.int .i64 (BuP.badI ⟨nn,bd,(some v),p⟩)]) 1 (p.getD 0) kq (by simp) rfl));replace gK:=(goodBd p3 #[u64v cu,u64v (p.getD 0),.int .i64 (BuP.badI ⟨nn,bd,(some v),p⟩)]);try simp only[zL]);refine TG.nil (fun w12 ⟨TR,hr⟩=> ?_);replace kp2:=hr.mod.at kp2 (by intro hT;first|exact hT|exact absurd hT (by assumption)|omega|(simp only at hT;omega));replace kp4:=hr.mod.at kp4 (by intro hT;first|exact hT|exact absurd hT (by assumption)|omega|(simp only at hT;omega));clear gK;replace kp3:=hr.k.2;have HM12:Hid (Mod (fun _=>False) w w12):=Hi (HM9.out.then hr.mod (fun j hj e=>by have:=HG3.out;omega));clear hr;go_upto_region 19 with fail;have Lkp2:=Ls kp2;have Lkp3:=Ls kp3;refine ZP0 [1,5] ?_;refine Zd ?_;refine Zi fun wE hr=> ?_;replace kp2:=hr.mod.at0 kp2;replace kp3:=hr.mod.at0 kp3;have mE:=hr.mod;refine ZS ?_;refine ZN kp2 fun w13 kp2 mS=> ?_;(try simp only[Array.setIfInBounds,zL]at kp2);replace kp3:=mS.at_ne kp3 (by omega);have HM13:Hid (Mod (fun _=>False) w w13):=Hi ((HM12.out.then0 mE).then mS (fun j _ e=>by have:=HG3.out;omega));clear hr mE mS;go_wp2_with fail;refine bodyPost_ret (results_cell1 (v:= .agg (budR (budP (msgP x)))) rfl rfl ?_) rfl ⟨rfl,HM13.out⟩;rw[HBP.out];have hkb:w13.heap[p2]? =some (.cells (budR ⟨nn,bd,(some v),p⟩) 56 (0,0)):=by
     unfold budR;rw[HC.out];exact kp2
    rw[ldBud];simp[hkb,budR]
   |none=>
    replace kp5:wr.heap[p5]? =some (.cells #[.bool false,.bool p.isSome] 197 (0,0)):=kp5;replace kp4:wr.heap[p4]? =some (.cells #[u64v 0,u64v (p.getD 0)] 196 (0,0)):=kp4;obtain⟨v,hv⟩:∃v,UInt64.ofNat nn*200000=v:=⟨_,rfl⟩;have hvw:IntKind.u64.wrap ((nn:Int)*200000)=(v.toNat:Int):=by
     have h1:=HSN.out;have h3:nn≤i:=h1.1;rw[←hv,UInt64.toNat_mul,UInt64.toNat_ofNat',IntKind.wrap_u64,show(200000:UInt64).toNat=200000 from rfl];omega
    have HV:=Hi hv;clear hv;go_upto_region 16 with fail;have Lkp1:=Ls kp1;have Lkp2:=Ls kp2;have Lkp3:=Ls kp3;have Lkp4:=Ls kp4;have Lkp5:=Ls kp5;refine ZP0 [0,1,0] ?_
    iterate 3 first|refine Zv ?_|refine Zd ?_
    refine TD.nil (fun w8 hr=> ?_);replace kp1:=hr.q kp1;replace kp2:=hr.q kp2;replace kp3:=hr.q kp3;replace kp4:=hr.q kp4;replace kp5:=hr.q kp5;have HM8:=Hi (HM.out.then0 hr.mod);clear hr;go_upto_region 17 with fail;have Lkp1:=Ls kp1;have Lkp2:=Ls kp2;have Lkp3:=Ls kp3;have Lkp4:=Ls kp4;have Lkp5:=Ls kp5;refine ZP0 [0,0,0,5] ?_
    iterate 3 refine Zv ?_
    refine Zi fun wE hr=> ?_;replace kp1:=hr.mod.at0 kp1;replace kp2:=hr.mod.at0 kp2;replace kp3:=hr.mod.at0 kp3;replace kp4:=hr.mod.at0 kp4;replace kp5:=hr.mod.at0 kp5;have mE:=hr.mod;refine ZS ?_;refine ZN kp4 fun w9 kp4 mS=> ?_;(try simp only[Array.setIfInBounds,zL]at kp4);replace kp1:=mS.at_ne kp1 (by omega);replace kp2:=mS.at_ne kp2 (by omega);replace kp3:=mS.at_ne kp3 (by omega);replace kp5:=mS.at_ne kp5 (by omega);have HM9:Hid (Mod (fun _=>False) w w9):=Hi ((HM8.out.then0 mE).then mS (fun j _ e=>by have:=HG3.out;omega));clear hr mE mS;obtain⟨cu,hcu⟩:∃cu,BuP.units ⟨nn,bd,none,p⟩=cu:=⟨_,rfl⟩;have hmin:min (v.toNat:Int) 1400000=(cu.toNat:Int):=by
     rw[←hcu];exact bud_none HV.out
    have HC:=Hi hcu;clear hcu;go_upto_region 18 with fail;have Lkp2:=Ls kp2;have Lkp4:=Ls kp4;refine wp_gpass (T0:=fun i=>i=p3) (K:=BdA p3 #[.int .u64 0,.int .u64 0,.int .i64 (BuP.badI ⟨nn,bd,none,p⟩)]) (κ:=fun i=>[0,0,0,0,0,0,6,0,6].getD i 0) (υ:=fun _=>[]) [0,1,2,3,4,5,6,7,8] (by kernel_rfl) (by kernel_rfl) (goodBd p3 #[.int .u64 0,.int .u64 0,.int .i64 (BuP.badI ⟨nn,bd,none,p⟩)]).cl (⟨rfl,kp3⟩) (fun i h=>by rw[h];exact Ls kp3) ?_;have gK:=goodBd p3 #[.int .u64 0,.int .u64 0,.int .i64 (BuP.badI ⟨nn,bd,none,p⟩)];refine Zg ?_;(refine TG.load (v:= ?v129) (p:= ?p129) (by simp only[zK];rfl) rfl (by rfl) rfl ?hx129 (fun wq hSq=> ?y129) ?n129;(case hx129=>simp only[zM];try rfl);(case y129=>(have kp2q:=hSq.at kp2 (by intro hT;first|exact hT|exact absurd hT (by assumption)|omega|(simp only at hT;omega));have kp4q:=hSq.at kp4 (by intro hT;first|exact hT|exact absurd hT (by assumption)|omega|(simp only at hT;omega));go_simp;(try with_reducible rfl)));try simp only[zL])
    iterate 2 refine Zg ?_
    (refine TG.load (v:= ?v132) (p:= ?p132) (by simp only[zK];rfl) rfl (by rfl) rfl ?hx132 (fun wq hSq=> ?y132) ?n132;(case hx132=>simp only[zM];try rfl);(case y132=>(have kp2q:=hSq.at kp2 (by intro hT;first|exact hT|exact absurd hT (by assumption)|omega|(simp only at hT;omega));have kp4q:=hSq.at kp4 (by intro hT;first|exact hT|exact absurd hT (by assumption)|omega|(simp only at hT;omega));go_simp;(try with_reducible rfl)));try simp only[zL]);refine Zg ?_;(refine TG.storeU (X:= ?X134) (Y:= ?Y134) (BdA p3 #[u64v cu,.int .u64 0,.int .i64 (BuP.badI ⟨nn,bd,none,p⟩)]) (goodBd p3 #[u64v cu,.int .u64 0,.int .i64 (BuP.badI ⟨nn,bd,none,p⟩)]) (by simp only[zK];rfl) rfl (by rfl) rfl rfl ?hx134 ?hz134 (fun T wq hSq kq=> ?y134) (fun _=> ?n134);(case hx134=>simp only[zM];try rfl);(case hz134=>simp only[zM];try rfl);(case y134=>(exact bd_st (C:= #[.int .u64 0,.int .u64 0,.int .i64 (BuP.badI ⟨nn,bd,none,p⟩)]) 0 cu kq (by simp) rfl));replace gK:=(goodBd p3 #[u64v cu,.int .u64 0,.int .i64 (BuP.badI ⟨nn,bd,none,p⟩)]);try simp only[zL]);refine Zg ?_;(refine TG.storeU (X:= ?X136) (Y:= ?Y136) (BdA p3 #[u64v cu,u64v (p.getD 0),.int .i64 (BuP.badI ⟨nn,bd,none,p⟩)]) (goodBd p3 #[u64v cu,u64v (p.getD 0),.int .i64 (BuP.badI ⟨nn,bd,none,p⟩)]) (by simp only[zK];rfl) rfl (by rfl) rfl rfl ?hx136 ?hz136 (fun T wq hSq kq=> ?y136) (fun _=> ?n136);(case hx136=>simp only[zM];try rfl);(case hz136=>simp only[zM];try rfl);(case y136=>(exact bd_st (C:= #[u64v cu,.int .u64 0,.int .i64 (BuP.badI ⟨nn,bd,none,p⟩)]) 1 (p.getD 0) kq (by simp) rfl));replace gK:=(goodBd p3 #[u64v cu,u64v (p.getD 0),.int .i64 (BuP.badI ⟨nn,bd,none,p⟩)]);try simp only[zL]);refine TG.nil (fun w12 ⟨TR,hr⟩=> ?_);replace kp2:=hr.mod.at kp2 (by intro hT;first|exact hT|exact absurd hT (by assumption)|omega|(simp only at hT;omega));replace kp4:=hr.mod.at kp4 (by intro hT;first|exact hT|exact absurd hT (by assumption)|omega|(simp only at hT;omega));clear gK;replace kp3:=hr.k.2;have HM12:Hid (Mod (fun _=>False) w w12):=Hi (HM9.out.then hr.mod (fun j hj e=>by have:=HG3.out;omega));clear hr;go_upto_region 19 with fail;have Lkp2:=Ls kp2;have Lkp3:=Ls kp3;refine ZP0 [1,5] ?_;refine Zd ?_;refine Zi fun wE hr=> ?_;replace kp2:=hr.mod.at0 kp2;replace kp3:=hr.mod.at0 kp3;have mE:=hr.mod;refine ZS ?_;refine ZN kp2 fun w13 kp2 mS=> ?_;(try simp only[Array.setIfInBounds,zL]at kp2);replace kp3:=mS.at_ne kp3 (by omega);have HM13:Hid (Mod (fun _=>False) w w13):=Hi ((HM12.out.then0 mE).then mS (fun j _ e=>by have:=HG3.out;omega));clear hr mE mS;go_wp2_with fail;refine bodyPost_ret (results_cell1 (v:= .agg (budR (budP (msgP x)))) rfl rfl ?_) rfl ⟨rfl,HM13.out⟩;rw[HBP.out];have hkb:w13.heap[p2]? =some (.cells (budR ⟨nn,bd,none,p⟩) 56 (0,0)):=by
     unfold budR;rw[HC.out];exact kp2
    rw[ldBud];simp[hkb,budR]
end
theorem kn_mulB {q a b Y B:Nat} (hY:Y=a*B+b):q*Y=q*a*B+q*b:=by rw[hY,Nat.mul_add,Nat.mul_assoc]
theorem kn_overB {q r u a b d Y B:Nat} (hu:q*a+r=u) (hY:Y=a*B+b) (h:r*B+d<q*b):u*B+d<q*Y:=by
 rw[kn_mulB hY,←hu,Nat.add_mul];omega
theorem kn_inB {q r u a b d Y B:Nat} (hu:q*a+r=u) (hY:Y=a*B+b) (h:q*b≤r*B+d):q*Y≤u*B+d:=by
 rw[kn_mulB hY,←hu,Nat.add_mul];omega
theorem kn_twoB {u d1 d0 Y B:Nat} (hY:0<Y):((u*B+d1)*B+d0)/Y=(u*B+d1)/Y*B+((u*B+d1) % Y*B+d0)/Y∧((u*B+d1)*B+d0) % Y=((u*B+d1) % Y*B+d0) % Y:=by
 have h:=Nat.div_add_mod (u*B+d1) Y;obtain⟨N,hN⟩:∃N,u*B+d1=N:=⟨_,rfl⟩;rw[hN]at h⊢;have hx:N*B+d0=Y*(N/Y*B)+(N % Y*B+d0):=by
  rw[←Nat.mul_assoc,←Nat.add_assoc,←Nat.add_mul,h]
 rw[hx,Nat.mul_add_div hY,Nat.mul_add_mod];exact⟨rfl,rfl⟩
theorem kn_mul {q a b Y:Nat} (hY:Y=a*4294967296+b):q*Y=q*a*4294967296+q*b:=kn_mulB hY
theorem kn_over {q r u a b d Y:Nat} (hu:q*a+r=u) (hY:Y=a*4294967296+b) (h:r*4294967296+d<q*b):u*4294967296+d<q*Y:=kn_overB hu hY h
theorem kn_in {q r u a b d Y:Nat} (hu:q*a+r=u) (hY:Y=a*4294967296+b) (h:q*b≤r*4294967296+d):q*Y≤u*4294967296+d:=kn_inB hu hY h
structure KnI (u a b d Y q r:Nat):Prop where
 sum:q*a+r=u
 le:∃Q,Q=(u*4294967296+d)/Y∧Q≤q
 top:q≤4294967297
theorem KnI.start {u a b d Y:Nat} (hY:Y=a*4294967296+b) (ha:2147483648≤a) (hb:b<4294967296) (hd:d<4294967296) (hu:u<Y):KnI u a b d Y (u/a) (u-u/a*a)∧u-u/a*a<a:=by
 have ha0:0<a:=by omega
 have hY0:0<Y:=by omega
 obtain⟨q,hq⟩:∃q,u/a=q:=⟨_,rfl⟩;have h1:q*a≤u:=by rw[←hq];exact Nat.div_mul_le_self u a
 have h2:u<(q+1)*a:=by
  have:=Nat.lt_mul_div_succ u ha0;rw[Nat.mul_comm,hq]at this;exact this
 have h3:q<4294967298:=by
  rw[←hq,Nat.div_lt_iff_lt_mul ha0];omega
 rw[hq];refine⟨⟨by omega,⟨_,rfl,?_⟩,by omega⟩,?_⟩
 ·have:(u*4294967296+d)/Y<q+1:=by
   rw[Nat.div_lt_iff_lt_mul hY0,kn_mul hY];omega
  exact Nat.le_of_lt_succ this
 ·rw[Nat.add_mul,Nat.one_mul]at h2;omega
theorem KnI.q_lt {u a b d Y:Nat} (hY:Y=a*4294967296+b) (hu:u<Y) (hd:d<4294967296):(u*4294967296+d)/Y<4294967296:=by
 rw[Nat.div_lt_iff_lt_mul (by omega)];omega
theorem KnI.step {u a b d Y q r:Nat} (h:KnI u a b d Y q r) (hY:Y=a*4294967296+b) (hu:u<Y) (hd:d<4294967296) (hc:4294967296≤q∨r*4294967296+d<q*b):KnI u a b d Y (q-1) (r+a)∧1≤q∧q-1≤4294967296:=by
 have hY0:0<Y:=by omega
 obtain⟨Q,hQ,hle⟩:=h.le;have hq:Q<q:=by
  rcases hc with hc|hc
  ·rw[hQ];exact Nat.lt_of_lt_of_le (KnI.q_lt (b:=b) hY hu hd) hc
  ·rw[hQ];exact(Nat.div_lt_iff_lt_mul hY0).2 (kn_over h.sum hY hc)
 have ht:=h.top;refine⟨⟨?_,⟨Q,hQ,by omega⟩,by omega⟩,by omega,by omega⟩;have hs:=h.sum;obtain⟨p,rfl⟩:∃p,q=p+1:=⟨q-1,by omega⟩;rw[Nat.add_mul,Nat.one_mul]at hs;rw[Nat.add_sub_cancel];omega
theorem KnI.done {u a b d Y q r:Nat} (h:KnI u a b d Y q r) (hY:Y=a*4294967296+b) (hu:u<Y) (hc:q*b≤r*4294967296+d):q=(u*4294967296+d)/Y:=by
 have hY0:0<Y:=by omega
 have h1:q≤(u*4294967296+d)/Y:=(Nat.le_div_iff_mul_le hY0).2 (kn_in h.sum hY hc);obtain⟨Q,hQ,hle⟩:=h.le;rw[←hQ]at h1⊢;omega
theorem KnI.stop {u a b d Y q r:Nat} (h:KnI u a b d Y q r) (hY:Y=a*4294967296+b) (hu:u<Y) (hb:b<4294967296) (hq:q≤4294967296) (hr:4294967296≤r):q=(u*4294967296+d)/Y:=by
 refine h.done hY hu ?_;have h1:q*b≤4294967296*b:=Nat.mul_le_mul_right _ hq;omega
theorem KnI.fits {u a b d Y q r:Nat} (h:KnI u a b d Y q r) (hb:b<4294967296):q*b<18446744073709551616:=by
 have h1:q*b≤4294967297*b:=Nat.mul_le_mul_right _ h.top;omega
theorem kn_two {u d1 d0 Y:Nat} (hY:0<Y):((u*4294967296+d1)*4294967296+d0)/Y=(u*4294967296+d1)/Y*4294967296+((u*4294967296+d1) % Y*4294967296+d0)/Y∧((u*4294967296+d1)*4294967296+d0) % Y=((u*4294967296+d1) % Y*4294967296+d0) % Y:=kn_twoB hY
theorem dv_sumB {hi lo p B:Nat} (hB:0<B):((hi*p+lo*p/(B*B))*B+lo*p % (B*B)/B)*B+lo*p % (B*B) % B=(hi*(B*B)+lo)*p:=by
 have h1:=Nat.div_add_mod (lo*p) (B*B);have h2:=Nat.div_add_mod (lo*p % (B*B)) B;have h3:((hi*p+lo*p/(B*B))*B+lo*p % (B*B)/B)*B+lo*p % (B*B) % B=hi*p*(B*B)+(B*B*(lo*p/(B*B))+(B*(lo*p % (B*B)/B)+lo*p % (B*B) % B)):=by
  rw[Nat.add_mul,Nat.add_mul,Nat.add_mul,Nat.mul_assoc,Nat.mul_assoc (lo*p/(B*B)) B B,Nat.mul_comm (lo*p/(B*B)) (B*B),Nat.mul_comm (lo*p % (B*B)/B) B];omega
 rw[h3,h2,h1,Nat.add_mul (hi*(B*B))];congr 1;rw[Nat.mul_assoc hi p,Nat.mul_comm p,←Nat.mul_assoc hi]
theorem dv_ltB {hi lo y p C:Nat} (h:hi<y) (hl:lo<C) (hp:0<p):hi*p+lo*p/C<y*p:=by
 have h1:lo*p/C<p:=by
  rw[Nat.div_lt_iff_lt_mul (by omega),Nat.mul_comm p C];exact Nat.mul_lt_mul_of_pos_right hl hp
 have h2:(hi+1)*p≤y*p:=Nat.mul_le_mul_right _ h;rw[Nat.add_mul,Nat.one_mul]at h2;omega
theorem dv_law {hi lo y p:Nat} (hy:0<y) (hp:0<p):
  (hi*18446744073709551616+lo)/y=((hi*p+lo*p/18446744073709551616)*4294967296+lo*p % 18446744073709551616/4294967296)/(y*p)*4294967296+(((hi*p+lo*p/18446744073709551616)*4294967296+lo*p % 18446744073709551616/4294967296) % (y*p)*4294967296+lo*p % 18446744073709551616 % 4294967296)/(y*p)∧
  (hi*18446744073709551616+lo) % y=(((hi*p+lo*p/18446744073709551616)*4294967296+lo*p % 18446744073709551616/4294967296) % (y*p)*4294967296+lo*p % 18446744073709551616 % 4294967296) % (y*p)/p:=by
 have h0:=kn_two (u:=hi*p+lo*p/18446744073709551616) (d1:=lo*p % 18446744073709551616/4294967296) (d0:=lo*p % 18446744073709551616 % 4294967296) (Y:=y*p) (Nat.mul_pos hy hp);have h1:=dv_sumB (hi:=hi) (lo:=lo) (p:=p) (B:=4294967296) (by decide);rw[show(4294967296*4294967296:Nat)=18446744073709551616 from rfl]at h1;rw[h1,Nat.mul_div_mul_right _ _ hp,Nat.mul_mod_mul_right]at h0;refine⟨h0.1,?_⟩;rw[←h0.2,Nat.mul_div_cancel _ hp]
theorem dv_p {y:Nat} (h0:y≠0) (hy:y<18446744073709551616):∃s p:Nat,64-Lib.bitLen y=s∧Lib.bitLen y≤64∧s≤63∧2^s=p∧p*2^(64-s)=18446744073709551616∧0<p∧y*p<18446744073709551616∧9223372036854775808≤y*p:=by
 obtain⟨h1,h2,h3⟩:=Lib.bitLenAux_bounds 64 y hy h0;have h4:Lib.bitLen y≤64:=Lib.bitLen_le y 64 (by omega) hy;have e:Lib.bitLenAux 64 y=Lib.bitLen y:=rfl;rw[e]at h1 h2 h3;obtain⟨L,hL⟩:∃L,Lib.bitLen y=L:=⟨_,rfl⟩;rw[hL]at h1 h2 h3 h4⊢;refine⟨64-L,2^(64-L),rfl,h4,by omega,rfl,?_,Nat.two_pow_pos _,?_,?_⟩
 ·rw[←Nat.pow_add,show 64-L+(64-(64-L))=64 by omega]
 ·have h5:y*2^(64-L)<2^L*2^(64-L):=Nat.mul_lt_mul_of_pos_right h3 (Nat.two_pow_pos _);rw[←Nat.pow_add,show L+(64-L)=64 by omega]at h5;exact h5
 ·have h5:2^(L-1)*2^(64-L)≤y*2^(64-L):=Nat.mul_le_mul_right _ h2;rw[←Nat.pow_add,show L-1+(64-L)=63 by omega]at h5;exact h5
theorem dv_or {hi lo s p:Nat} (hp:2^s=p) (hq:p*2^(64-s)=18446744073709551616) (hl:lo<18446744073709551616):(hi*p|||lo/2^(64-s))=hi*p+lo*p/18446744073709551616:=by
 have hp0:0<p:=by rw[←hp];exact Nat.two_pow_pos _
 have h1:lo*p/18446744073709551616=lo/2^(64-s):=by
  rw[←hq,Nat.mul_comm p,Nat.mul_div_mul_right _ _ hp0]
 have h2:lo/2^(64-s)<2^s:=by
  rw[Nat.div_lt_iff_lt_mul (Nat.two_pow_pos _),hp,hq];exact hl
 have h3:=Nat.two_pow_add_eq_or_of_lt h2 hi;rw[hp,Nat.mul_comm p]at h3;rw[h1,h3]
theorem l8_get (i:Nat) (h:i<Lib.len8tab.size):(Lib.len8tab[i]'h).toNat=Lib.bitLen i∧Lib.bitLen i≤8:=by
 have h1:i<256:=by rw[Lib.len8tab_size]at h;exact h
 have h2:=Lib.len8_of (i:Int) (by omega) (by omega);have h3:=Lib.bitLen_le8' (i:Int) (by omega) (by omega);simp only[Int.toNat_natCast]at h2 h3;refine⟨?_,h3⟩;have h4:Lib.len8 (i:Int)=((Lib.len8tab[i]'h).toNat:Int):=by
  simp only[Lib.len8,Int.toNat_natCast,ByteArray.getElem?_lt' _ _ h,zE]
 omega
theorem lfin {m:Int} {n B X V:Nat} (hm:m=(n:Int)) (l1:V=B) (l2:B≤8) (hn:n≤56) (s:X=n+B):wrap64 (m+wrap64 (V:Int))=(X:Int):=by
 subst hm l1 s;simp only[wrap64];omega
theorem lfin0 {B V:Nat} (l1:V=B) (l2:B≤8):wrap64 (wrap64 (V:Int))=(B:Int):=by
 subst l1;simp only[wrap64];omega
theorem len64_c (x:Int) (w:World) (h0:0≤x) (h1:x≤18446744073709551615):
  Calls Tryz.prog 144 #[.int .u64 x] w fun e w'=>e= .returned (.int .i64 (Lib.bitLen x.toNat))∧w'=w:=by
 have hz:=Lib.len8tab_size;go_enter Tryz.func144,Tryz.ntmps144
 go_wp2
 all_goals first
  |(exfalso;omega)
  |(go_ret;refine⟨congrArg Ending.returned (congrArg (Value.int IntKind.i64) ?_),rfl⟩)
 all_goals first
  |(have s:=Lib.bitLen_shift56 x.toNat (by omega) (by omega);have e:(x/4294967296/65536/256).toNat=x.toNat/72057594037927936:=(by omega);have l:=l8_get (x/4294967296/65536/256).toNat (by omega);exact lfin (m:=56) (n:=56) rfl (l.1.trans (congrArg Lib.bitLen e)) (by rw[←e];exact l.2) (by decide) s)
  |(have s:=Lib.bitLen_shift48 x.toNat (by omega) (by omega);have e:(x/4294967296/65536).toNat=x.toNat/281474976710656:=(by omega);have l:=l8_get (x/4294967296/65536).toNat (by omega);exact lfin (m:=48) (n:=48) rfl (l.1.trans (congrArg Lib.bitLen e)) (by rw[←e];exact l.2) (by decide) s)
  |(have s:=Lib.bitLen_shift40 x.toNat (by omega) (by omega);have e:(x/4294967296/256).toNat=x.toNat/1099511627776:=(by omega);have l:=l8_get (x/4294967296/256).toNat (by omega);exact lfin (m:=40) (n:=40) rfl (l.1.trans (congrArg Lib.bitLen e)) (by rw[←e];exact l.2) (by decide) s)
  |(have s:=Lib.bitLen_shift32 x.toNat (by omega) (by omega);have e:(x/4294967296).toNat=x.toNat/4294967296:=(by omega);have l:=l8_get (x/4294967296).toNat (by omega);exact lfin (m:=32) (n:=32) rfl (l.1.trans (congrArg Lib.bitLen e)) (by rw[←e];exact l.2) (by decide) s)
  |(have s:=Lib.bitLen_shift24 x.toNat (by omega) (by omega);have e:(x/65536/256).toNat=x.toNat/16777216:=(by omega);have l:=l8_get (x/65536/256).toNat (by omega);exact lfin (m:=24) (n:=24) rfl (l.1.trans (congrArg Lib.bitLen e)) (by rw[←e];exact l.2) (by decide) s)
  |(have s:=Lib.bitLen_shift16 x.toNat (by omega) (by omega);have e:(x/65536).toNat=x.toNat/65536:=(by omega);have l:=l8_get (x/65536).toNat (by omega);exact lfin (m:=16) (n:=16) rfl (l.1.trans (congrArg Lib.bitLen e)) (by rw[←e];exact l.2) (by decide) s)
  |(have s:=Lib.bitLen_shift8 x.toNat (by omega) (by omega);have e:(x/256).toNat=x.toNat/256:=(by omega);have l:=l8_get (x/256).toNat (by omega);exact lfin (m:=8) (n:=8) rfl (l.1.trans (congrArg Lib.bitLen e)) (by rw[←e];exact l.2) (by decide) s)
  |(have l:=l8_get x.toNat (by omega);exact lfin0 l.1 l.2)
theorem lz64_c (x:Nat) (w:World) (h1:x<18446744073709551616):
  Calls Tryz.prog 132 #[.int .u64 (x:Int)] w fun e w'=>e= .returned (.int .i64 ((64:Int)-(Lib.bitLen x:Int)))∧w'=w:=by
 have hb:Lib.bitLen x≤64:=Lib.bitLen_le x 64 (by omega) h1;have H:=fun w=>len64_c (x:Int) w (by omega) (by omega);simp only[Int.toNat_natCast]at H;generalize Lib.bitLen x=L at *;have HH:=Hi H;clear H;go_enter Tryz.func132,Tryz.ntmps132;go_wp2_with fail;go_at_call 144;refine(HH.out _).mono ?_;rintro e w2 ⟨rfl,rfl⟩;go_wp2_with fail;go_ret;refine⟨congrArg Ending.returned (congrArg (Value.int IntKind.i64) ?_),rfl⟩;omega
structure DvF (hi lo y s p Y a b u g d1 d0:Nat):Prop where
 pw:2^s=p
 pq:p*2^(64-s)=18446744073709551616
 Yy:Y=y*p
 Yl:Y<18446744073709551616
 Yg:9223372036854775808≤Y
 aY:a=Y/4294967296
 bY:b=Y % 4294967296
 uu:u=hi*p+lo*p/18446744073709551616
 ul:u<Y
 gg:g=lo*p % 18446744073709551616
 d1g:d1=g/4294967296
 d0g:d0=g % 4294967296
theorem DvF.of {hi lo y:Nat} (hh:hi<y) (hy:y<18446744073709551616) (hl:lo<18446744073709551616):∃s p Y a b u g d1 d0:Nat,64-Lib.bitLen y=s∧Lib.bitLen y≤64∧s≤63∧DvF hi lo y s p Y a b u g d1 d0:=by
 obtain⟨s,p,h1,h2,h3,h4,h5,h6,h7,h8⟩:=dv_p (y:=y) (by omega) hy;exact⟨s,p,y*p,_,_,_,_,_,_,h1,h2,h3,h4,h5,rfl,h7,h8,rfl,rfl,rfl,dv_ltB hh hl h6,rfl,rfl,rfl⟩
theorem div64_c (hi lo y:Nat) (w:World) (hy:y<18446744073709551616) (hl:lo<18446744073709551616) (hh:hi<y) (h0:hi≠0):
  Calls Tryz.prog 119 #[.int .u64 (hi:Int),.int .u64 (lo:Int),.int .u64 (y:Int)] w fun e w'=>e= .returned (.tuple #[.int .u64 (((hi*18446744073709551616+lo)/y:Nat):Int),.int .u64 (((hi*18446744073709551616+lo) % y:Nat):Int)])∧Mod (fun _=>False) w w':=by
 obtain⟨s,p,Y,a,b,u,g,d1,d0,hs,hL,hs3,F⟩:=DvF.of hh hy hl;have H:=fun w=>lz64_c y w hy;have hLs:(64:Int)-(Lib.bitLen y:Int)=(s:Int):=by omega
 rw[hLs]at H;have HH:=Hi H;have HF:=Hi F;have hy0:¬(y=0):=by omega
 have hyI:((y:Int)==0)=false:=by simpa using hy0
 have hle:decide ((y:Int)≤(hi:Int))=false:=Df (by omega);have hh0:((hi:Int)==0)=false:=by simpa using h0
 have hws:IntKind.u64.wrap (s:Int)=(s:Int):=by rw[IntKind.wrap_u64];omega
 clear H hs hL hLs;go_enter Tryz.func119,Tryz.ntmps119;go_wp2_with fail;go_at_call 132;refine(HH.out _).mono ?_;rintro e w2 ⟨rfl,rfl⟩;have hmn:min s 64=s:=by omega
 have hpI:(2:Int)^s=(p:Int):=by rw[←F.pw];simp
 have hY:IntKind.u64.wrap ((y:Int)*(p:Int))=(Y:Int):=by
  rw[Mul64.mulN,←F.Yy];exact Mul64.wrapN _ F.Yl
 have haY:(Y:Int)/4294967296=(a:Int):=by rw[Mul64.divN,←F.aY]
 have hbY:bits .and .u64 (Y:Int) 4294967295=(b:Int):=by rw[Mul64.maskN _ F.Yl,←F.bY]
 obtain⟨hp,hhp⟩:∃hp,hi*p=hp:=⟨_,rfl⟩;obtain⟨lq,hlq⟩:∃lq,lo/2^(64-s)=lq:=⟨_,rfl⟩;have hor:(hp|||lq)=u:=by rw[←hhp,←hlq,F.uu];exact dv_or F.pw F.pq hl
 have hpl:hp≤u:=by rw[F.uu,hhp];exact Nat.le_add_right _ _
 have hlql:lq<18446744073709551616:=by rw[←hlq];exact Nat.lt_of_le_of_lt (Nat.div_le_self _ _) hl
 have hul:u<18446744073709551616:=Nat.lt_trans F.ul F.Yl;have hhpI:IntKind.u64.wrap ((hi:Int)*(p:Int))=(hp:Int):=by
  rw[Mul64.mulN,hhp];exact Mul64.wrapN _ (by omega)
 have hlqI:(lo:Int)/2^(64-s)=(lq:Int):=by rw[←hlq];simp
 have huI:bits .or .u64 (hp:Int) (lq:Int)=(u:Int):=by
  rw[bits_or_u64_nat hp lq (by omega) hlql,hor]
 have hgI:IntKind.u64.wrap ((lo:Int)*(p:Int))=(g:Int):=by rw[Mul64.mulN,Mul64.wrapM,←F.gg]
 have hgl:g<18446744073709551616:=by rw[F.gg];omega
 have hd1I:(g:Int)/4294967296=(d1:Int):=by rw[Mul64.divN,←F.d1g]
 have hd0I:bits .and .u64 (g:Int) 4294967295=(d0:Int):=by rw[Mul64.maskN _ hgl,←F.d0g]
 have hd1l:d1<4294967296:=by rw[F.d1g];omega
 have hd0l:d0<4294967296:=by rw[F.d0g];omega
 have hal:2147483648≤a:=by have:=F.aY;have:=F.Yg;omega
 have hal2:a<4294967296:=by have:=F.aY;have:=F.Yl;omega
 have hbl:b<4294967296:=by have:=F.bY;omega
 have hYab:Y=a*4294967296+b:=by have:=F.bY;have:=F.aY;omega
 have ha0:¬(a=0):=by omega
 have hK:=KnI.start hYab hal hbl hd1l F.ul;obtain⟨q0,hq0⟩:∃q0,u/a=q0:=⟨_,rfl⟩;obtain⟨m0,hm0⟩:∃m0,q0*a=m0:=⟨_,rfl⟩;obtain⟨r0,hr0⟩:∃r0,u-m0=r0:=⟨_,rfl⟩;rw[hq0,hm0,hr0]at hK;have hm0l:m0≤u:=by rw[←hm0,←hq0];exact Nat.div_mul_le_self u a
 have hq0I:(u:Int)/(a:Int)=(q0:Int):=by rw[←hq0];simp
 have hq0w:IntKind.u64.wrap (q0:Int)=(q0:Int):=by
  rw[←hq0];exact Mul64.wrapN _ (Nat.lt_of_le_of_lt (Nat.div_le_self u a) hul)
 have hm0I:IntKind.u64.wrap ((q0:Int)*(a:Int))=(m0:Int):=by
  rw[Mul64.mulN,hm0];exact Mul64.wrapN _ (by omega)
 have hr0I:IntKind.u64.wrap ((u:Int)-(m0:Int))=(r0:Int):=by rw[IntKind.wrap_u64];omega
 have HP:=Hi (Ai hal (Ai hal2 (Ai hbl (Ai hYab (Ai hd1l (Ai hd0l hul))))));have HK:=Hi (Ai hK.1 (show r0<4294967296 by have:=hK.2;omega));clear hK hm0l hr0 hm0 hq0 hal hal2 hbl hYab hgl hul hlql hpl hor hlq hhp F;go_upto_region 16 with fail;go_wp2_with fail;clear hY haY hbY hhpI hlqI huI hgI hd1I hd0I hq0I hq0w hm0I hr0I hpI;go_loopw [15,16] (fun s15 s16 ws=>∃q r:Nat,s15= .int .u64 (q:Int)∧s16= .int .u64 (r:Int)∧Hid (KnI u a b d1 Y q r∧r<4294967296)∧Mod (fun _=>False) w2 ws) (fun s15 _ _=>(intOf s15).toNat)
 case atStart=>exact⟨_,_,rfl,rfl,HK,(Mod.refl _ _)⟩
 case round=>
  obtain⟨q,r,rfl,rfl,HI,hm⟩:=hrel;by_cases hbig:4294967296≤q
  ·obtain⟨hst,hq1,hq2⟩:=HI.out.1.step HP.out.2.2.2.1 HF.out.ul HP.out.2.2.2.2.1 (.inl hbig);have hd:=Dt hbig;have hd2:decide ((4294967296:Int)≤(q:Int))=true:=Dt (by omega);have HBIG:=Hi hbig;clear hbig;obtain⟨qq,hqq⟩:∃qq,q-1=qq:=⟨_,rfl⟩;obtain⟨rr,hrr⟩:∃rr,r+a=rr:=⟨_,rfl⟩;rw[hqq,hrr]at hst;rw[hqq]at hq2;have hw1:IntKind.u64.wrap ((q:Int)-1)=(qq:Int):=by
    have:=HI.out.1.top;rw[IntKind.wrap_u64];omega
   have hw2:IntKind.u64.wrap ((r:Int)+(a:Int))=(rr:Int):=by
    have:=HI.out.2;have:=HP.out.2.1;rw[IntKind.wrap_u64];omega
   have HST:=Hi (Ai hst (Ai hq2 (Ai hq1 hqq)));clear hst hq2 hq1 hqq hrr;by_cases hover:4294967296≤rr
   ·have hv:=Dt hover;have hv2:decide ((4294967296:Int)≤(rr:Int))=true:=Dt (by omega);have HQ:Hid (qq=(u*4294967296+d1)/Y):=Hi (HST.out.1.stop HP.out.2.2.2.1 HF.out.ul HP.out.2.2.1 HST.out.2.1 hover);clear hover;have HQA:=HQ;clear HQ;obtain⟨v,hv⟩:∃v,(u*4294967296+d1) % Y=v:=⟨_,rfl⟩;have hvl:v<Y:=by rw[←hv];exact Nat.mod_lt _ (by have:=HF.out.Yg;omega)
    have hYl:=HF.out.Yl;obtain⟨x1,hx1⟩:∃x,u*4294967296 % 18446744073709551616=x:=⟨_,rfl⟩;obtain⟨x2,hx2⟩:∃x,(x1+d1) % 18446744073709551616=x:=⟨_,rfl⟩;obtain⟨x3,hx3⟩:∃x,qq*Y % 18446744073709551616=x:=⟨_,rfl⟩;have hdm:=Nat.div_add_mod (u*4294967296+d1) Y;rw[←HQA.out,hv,Nat.mul_comm Y]at hdm;obtain⟨qy,hqy⟩:∃qy,qq*Y=qy:=⟨_,rfl⟩;rw[hqy]at hdm hx3;have hu:=HP.out.2.2.2.2.2.2;have hx1I:IntKind.u64.wrap ((u:Int)*4294967296)=(x1:Int):=by rw[IntKind.wrap_u64];omega
    have hx2I:IntKind.u64.wrap ((x1:Int)+(d1:Int))=(x2:Int):=by rw[IntKind.wrap_u64];omega
    have hx3I:IntKind.u64.wrap ((qq:Int)*(Y:Int))=(x3:Int):=by rw[Mul64.mulN,hqy,Mul64.wrapM,hx3]
    have hx4I:IntKind.u64.wrap ((x2:Int)-(x3:Int))=(v:Int):=by rw[IntKind.wrap_u64];omega
    have HVL:=Hi (Ai hvl (Ai hv hqy));have hK:=KnI.start HP.out.2.2.2.1 HP.out.1 HP.out.2.2.1 HP.out.2.2.2.2.2.1 hvl;obtain⟨q0,hq0⟩:∃q0,v/a=q0:=⟨_,rfl⟩;obtain⟨m0,hm0⟩:∃m0,q0*a=m0:=⟨_,rfl⟩;obtain⟨r0,hr0⟩:∃r0,v-m0=r0:=⟨_,rfl⟩;rw[hq0,hm0,hr0]at hK;have hm0l:m0≤v:=by rw[←hm0,←hq0];exact Nat.div_mul_le_self v a
    have hq0I:(v:Int)/(a:Int)=(q0:Int):=by rw[←hq0];simp
    have hq0w:IntKind.u64.wrap (q0:Int)=(q0:Int):=by
     rw[←hq0];exact Mul64.wrapN _ (Nat.lt_of_le_of_lt (Nat.div_le_self v a) (by omega))
    have hm0I:IntKind.u64.wrap ((q0:Int)*(a:Int))=(m0:Int):=by
     rw[Mul64.mulN,hm0];exact Mul64.wrapN _ (by omega)
    have hr0I:IntKind.u64.wrap ((v:Int)-(m0:Int))=(r0:Int):=by rw[IntKind.wrap_u64];omega
    have HK2:=Hi (Ai hK.1 (show r0<4294967296 by have:=hK.2;have:=HP.out.2.1;omega));clear hK hm0l hr0 hm0 hq0 hvl hv hqy hdm hYl hu hx1 hx2 hx3;go_upto_region 23 with fail;go_wp2_with fail;clear hx1I hx2I hx3I hx4I hq0I hq0w hm0I hr0I;obtain⟨Q1,hQ1⟩:∃Q1,Q1=qq:=⟨_,rfl⟩;rw[←hQ1]at HQA HVL⊢;clear hQ1;go_loopw [18,16] (fun s18 s16 ws=>∃q r:Nat,s18= .int .u64 (q:Int)∧s16= .int .u64 (r:Int)∧Hid (KnI v a b d0 Y q r∧r<4294967296)∧Mod (fun _=>False) w2 ws) (fun s18 _ _=>(intOf s18).toNat)
    case atStart=>exact⟨_,_,rfl,rfl,HK2,hm⟩
    case round=>
     obtain⟨q,r,rfl,rfl,HI,hm⟩:=hrel;by_cases hbig:4294967296≤q
     ·obtain⟨hst,hq1,hq2⟩:=HI.out.1.step HP.out.2.2.2.1 HVL.out.1 HP.out.2.2.2.2.2.1 (.inl hbig);have hd:=Dt hbig;have hd2:decide ((4294967296:Int)≤(q:Int))=true:=Dt (by omega);have HBIG:=Hi hbig;clear hbig;obtain⟨qq,hqq⟩:∃qq,q-1=qq:=⟨_,rfl⟩;obtain⟨rr,hrr⟩:∃rr,r+a=rr:=⟨_,rfl⟩;rw[hqq,hrr]at hst;rw[hqq]at hq2;have hw1:IntKind.u64.wrap ((q:Int)-1)=(qq:Int):=by
       have:=HI.out.1.top;rw[IntKind.wrap_u64];omega
      have hw2:IntKind.u64.wrap ((r:Int)+(a:Int))=(rr:Int):=by
       have:=HI.out.2;have:=HP.out.2.1;rw[IntKind.wrap_u64];omega
      have HST:=Hi (Ai hst (Ai hq2 (Ai hq1 hqq)));clear hst hq2 hq1 hqq hrr;by_cases hover:4294967296≤rr
      ·have hv:=Dt hover;have hv2:decide ((4294967296:Int)≤(rr:Int))=true:=Dt (by omega);have HQ:Hid (qq=(v*4294967296+d0)/Y):=Hi (HST.out.1.stop HP.out.2.2.2.1 HVL.out.1 HP.out.2.2.1 HST.out.2.1 hover);clear hover;have HQB:=HQ;clear HQ;obtain⟨z,hz⟩:∃z,(v*4294967296+d0) % Y=z:=⟨_,rfl⟩;have hzl:z<Y:=by rw[←hz];exact Nat.mod_lt _ (by have:=HF.out.Yg;omega)
       have hYl:=HF.out.Yl;have hvl:=HVL.out.1;obtain⟨x1,hx1⟩:∃x,v*4294967296 % 18446744073709551616=x:=⟨_,rfl⟩;obtain⟨x2,hx2⟩:∃x,(x1+d0) % 18446744073709551616=x:=⟨_,rfl⟩;obtain⟨qy,hqy⟩:∃qy,qq*Y=qy:=⟨_,rfl⟩;obtain⟨x3,hx3⟩:∃x,qy % 18446744073709551616=x:=⟨_,rfl⟩;have hdm:=Nat.div_add_mod (v*4294967296+d0) Y;rw[←HQB.out,hz,Nat.mul_comm Y,hqy]at hdm;have hx1I:IntKind.u64.wrap ((v:Int)*4294967296)=(x1:Int):=by rw[IntKind.wrap_u64];omega
       have hx2I:IntKind.u64.wrap ((x1:Int)+(d0:Int))=(x2:Int):=by rw[IntKind.wrap_u64];omega
       have hx3I:IntKind.u64.wrap ((qq:Int)*(Y:Int))=(x3:Int):=by rw[Mul64.mulN,hqy,Mul64.wrapM,hx3]
       have hx4I:IntKind.u64.wrap ((x2:Int)-(x3:Int))=(z:Int):=by rw[IntKind.wrap_u64];omega
       have hQl:Q1<4294967296:=by rw[HQA.out];exact KnI.q_lt HP.out.2.2.2.1 HF.out.ul HP.out.2.2.2.2.1
       have hql:qq<4294967296:=by rw[HQB.out];exact KnI.q_lt HP.out.2.2.2.1 HVL.out.1 HP.out.2.2.2.2.2.1
       obtain⟨n1,hn1⟩:∃n,Q1*4294967296=n:=⟨_,rfl⟩;obtain⟨n2,hn2⟩:∃n,n1+qq=n:=⟨_,rfl⟩;have hn1I:IntKind.u64.wrap ((Q1:Int)*4294967296)=(n1:Int):=by rw[IntKind.wrap_u64];omega
       have hn2I:IntKind.u64.wrap ((n1:Int)+(qq:Int))=(n2:Int):=by rw[IntKind.wrap_u64];omega
       obtain⟨t,ht⟩:∃t,z/p=t:=⟨_,rfl⟩;have htI:(z:Int)/(p:Int)=(t:Int):=by rw[←ht];simp
       have hpI:(2:Int)^s=(p:Int):=by rw[←HF.out.pw];simp
       have hp0:0<p:=by rw[←HF.out.pw];exact Nat.two_pow_pos _
       have hfin:=dv_law (hi:=hi) (lo:=lo) (show 0<y by omega) hp0;rw[←HF.out.uu,←HF.out.gg,←HF.out.d1g,←HF.out.d0g,←HF.out.Yy,←HQA.out,HVL.out.2.1,←HQB.out,hz,ht,hn1,hn2]at hfin;have HFIN:=Hi hfin;clear hfin ht hn2 hn1 hQl hql hdm hx3 hqy hx2 hx1 hzl hYl hvl hz hp0;go_wp2_with fail
       go_ret2
       rw[HFIN.out.1,HFIN.out.2];exact⟨rfl,hm⟩
      ·have hv:=Df hover;have hv2:decide ((4294967296:Int)≤(rr:Int))=false:=Df (by omega);have HV:=Hi (show rr<4294967296 by omega);clear hover;go_wp2_with fail;go_roundw
       case rel=>exact⟨qq,rr,rfl,rfl,Hi ⟨HST.out.1,HV.out⟩,hm⟩
       case measure=>have:=HST.out.2.2;simp[intOf];omega
     ·have hd:=Df hbig;have hd2:decide ((4294967296:Int)≤(q:Int))=false:=Df (by omega);obtain⟨qb,hqb⟩:∃qb,q*b=qb:=⟨_,rfl⟩;obtain⟨rb,hrb⟩:∃rb,r*4294967296=rb:=⟨_,rfl⟩;have hqbl:qb<18446744073709551616:=by rw[←hqb];exact HI.out.1.fits HP.out.2.2.1
      have hrl:=HI.out.2;have hw3:IntKind.u64.wrap ((q:Int)*(b:Int))=(qb:Int):=by
       rw[Mul64.mulN,hqb];exact Mul64.wrapN _ hqbl
      have hw4:IntKind.u64.wrap (4294967296*(r:Int))=(rb:Int):=by rw[IntKind.wrap_u64];omega
      have hdl:=HP.out.2.2.2.2.2.1;have hw5:IntKind.u64.wrap ((rb:Int)+(d0:Int))=((rb+d0:Nat):Int):=by rw[IntKind.wrap_u64];omega
      obtain⟨rx,hrx⟩:∃rx,rb+d0=rx:=⟨_,rfl⟩;rw[hrx]at hw5;by_cases hmore:rx<qb
      ·obtain⟨hst,hq1,hq2⟩:=HI.out.1.step HP.out.2.2.2.1 HVL.out.1 HP.out.2.2.2.2.2.1 (.inr (by rw[hqb,hrb,hrx];exact hmore));have hm1:=Dt hmore;have hm2:decide ((rx:Int)<(qb:Int))=true:=Dt (by omega);have HBIG:=Hi hbig;clear hbig hmore hqb hrb hrx hqbl hdl hrl;obtain⟨qq,hqq⟩:∃qq,q-1=qq:=⟨_,rfl⟩;obtain⟨rr,hrr⟩:∃rr,r+a=rr:=⟨_,rfl⟩;rw[hqq,hrr]at hst;rw[hqq]at hq2;have hw1:IntKind.u64.wrap ((q:Int)-1)=(qq:Int):=by
        have:=HI.out.1.top;rw[IntKind.wrap_u64];omega
       have hw2:IntKind.u64.wrap ((r:Int)+(a:Int))=(rr:Int):=by
        have:=HI.out.2;have:=HP.out.2.1;rw[IntKind.wrap_u64];omega
       have HST:=Hi (Ai hst (Ai hq2 (Ai hq1 hqq)));clear hst hq2 hq1 hqq hrr;by_cases hover:4294967296≤rr
       ·have hv:=Dt hover;have hv2:decide ((4294967296:Int)≤(rr:Int))=true:=Dt (by omega);have HQ:Hid (qq=(v*4294967296+d0)/Y):=Hi (HST.out.1.stop HP.out.2.2.2.1 HVL.out.1 HP.out.2.2.1 HST.out.2.1 hover);clear hover;have HQB:=HQ;clear HQ;obtain⟨z,hz⟩:∃z,(v*4294967296+d0) % Y=z:=⟨_,rfl⟩;have hzl:z<Y:=by rw[←hz];exact Nat.mod_lt _ (by have:=HF.out.Yg;omega)
        have hYl:=HF.out.Yl;have hvl:=HVL.out.1;obtain⟨x1,hx1⟩:∃x,v*4294967296 % 18446744073709551616=x:=⟨_,rfl⟩;obtain⟨x2,hx2⟩:∃x,(x1+d0) % 18446744073709551616=x:=⟨_,rfl⟩;obtain⟨qy,hqy⟩:∃qy,qq*Y=qy:=⟨_,rfl⟩;obtain⟨x3,hx3⟩:∃x,qy % 18446744073709551616=x:=⟨_,rfl⟩;have hdm:=Nat.div_add_mod (v*4294967296+d0) Y;rw[←HQB.out,hz,Nat.mul_comm Y,hqy]at hdm;have hx1I:IntKind.u64.wrap ((v:Int)*4294967296)=(x1:Int):=by rw[IntKind.wrap_u64];omega
        have hx2I:IntKind.u64.wrap ((x1:Int)+(d0:Int))=(x2:Int):=by rw[IntKind.wrap_u64];omega
        have hx3I:IntKind.u64.wrap ((qq:Int)*(Y:Int))=(x3:Int):=by rw[Mul64.mulN,hqy,Mul64.wrapM,hx3]
        have hx4I:IntKind.u64.wrap ((x2:Int)-(x3:Int))=(z:Int):=by rw[IntKind.wrap_u64];omega
        have hQl:Q1<4294967296:=by rw[HQA.out];exact KnI.q_lt HP.out.2.2.2.1 HF.out.ul HP.out.2.2.2.2.1
        have hql:qq<4294967296:=by rw[HQB.out];exact KnI.q_lt HP.out.2.2.2.1 HVL.out.1 HP.out.2.2.2.2.2.1
        obtain⟨n1,hn1⟩:∃n,Q1*4294967296=n:=⟨_,rfl⟩;obtain⟨n2,hn2⟩:∃n,n1+qq=n:=⟨_,rfl⟩;have hn1I:IntKind.u64.wrap ((Q1:Int)*4294967296)=(n1:Int):=by rw[IntKind.wrap_u64];omega
        have hn2I:IntKind.u64.wrap ((n1:Int)+(qq:Int))=(n2:Int):=by rw[IntKind.wrap_u64];omega
        obtain⟨t,ht⟩:∃t,z/p=t:=⟨_,rfl⟩;have htI:(z:Int)/(p:Int)=(t:Int):=by rw[←ht];simp
        have hpI:(2:Int)^s=(p:Int):=by rw[←HF.out.pw];simp
        have hp0:0<p:=by rw[←HF.out.pw];exact Nat.two_pow_pos _
        have hfin:=dv_law (hi:=hi) (lo:=lo) (show 0<y by omega) hp0;rw[←HF.out.uu,←HF.out.gg,←HF.out.d1g,←HF.out.d0g,←HF.out.Yy,←HQA.out,HVL.out.2.1,←HQB.out,hz,ht,hn1,hn2]at hfin;have HFIN:=Hi hfin;clear hfin ht hn2 hn1 hQl hql hdm hx3 hqy hx2 hx1 hzl hYl hvl hz hp0;go_wp2_with fail
        go_ret2
        rw[HFIN.out.1,HFIN.out.2];exact⟨rfl,hm⟩
       ·have hv:=Df hover;have hv2:decide ((4294967296:Int)≤(rr:Int))=false:=Df (by omega);have HV:=Hi (show rr<4294967296 by omega);clear hover;go_wp2_with fail;go_roundw
        case rel=>exact⟨qq,rr,rfl,rfl,Hi ⟨HST.out.1,HV.out⟩,hm⟩
        case measure=>have:=HST.out.2.2;simp[intOf];omega
      ·have hm1:=Df hmore;have hm2:decide ((rx:Int)<(qb:Int))=false:=Df (by omega);have HQ:Hid (q=(v*4294967296+d0)/Y):=Hi (HI.out.1.done HP.out.2.2.2.1 HVL.out.1 (by rw[hqb,hrb,hrx];omega));clear hbig hmore hqb hrb hrx hqbl hdl hrl;have HQB:=HQ;clear HQ;obtain⟨z,hz⟩:∃z,(v*4294967296+d0) % Y=z:=⟨_,rfl⟩;have hzl:z<Y:=by rw[←hz];exact Nat.mod_lt _ (by have:=HF.out.Yg;omega)
       have hYl:=HF.out.Yl;have hvl:=HVL.out.1;obtain⟨x1,hx1⟩:∃x,v*4294967296 % 18446744073709551616=x:=⟨_,rfl⟩;obtain⟨x2,hx2⟩:∃x,(x1+d0) % 18446744073709551616=x:=⟨_,rfl⟩;obtain⟨qy,hqy⟩:∃qy,q*Y=qy:=⟨_,rfl⟩;obtain⟨x3,hx3⟩:∃x,qy % 18446744073709551616=x:=⟨_,rfl⟩;have hdm:=Nat.div_add_mod (v*4294967296+d0) Y;rw[←HQB.out,hz,Nat.mul_comm Y,hqy]at hdm;have hx1I:IntKind.u64.wrap ((v:Int)*4294967296)=(x1:Int):=by rw[IntKind.wrap_u64];omega
       have hx2I:IntKind.u64.wrap ((x1:Int)+(d0:Int))=(x2:Int):=by rw[IntKind.wrap_u64];omega
       have hx3I:IntKind.u64.wrap ((q:Int)*(Y:Int))=(x3:Int):=by rw[Mul64.mulN,hqy,Mul64.wrapM,hx3]
       have hx4I:IntKind.u64.wrap ((x2:Int)-(x3:Int))=(z:Int):=by rw[IntKind.wrap_u64];omega
       have hQl:Q1<4294967296:=by rw[HQA.out];exact KnI.q_lt HP.out.2.2.2.1 HF.out.ul HP.out.2.2.2.2.1
       have hql:q<4294967296:=by rw[HQB.out];exact KnI.q_lt HP.out.2.2.2.1 HVL.out.1 HP.out.2.2.2.2.2.1
       obtain⟨n1,hn1⟩:∃n,Q1*4294967296=n:=⟨_,rfl⟩;obtain⟨n2,hn2⟩:∃n,n1+q=n:=⟨_,rfl⟩;have hn1I:IntKind.u64.wrap ((Q1:Int)*4294967296)=(n1:Int):=by rw[IntKind.wrap_u64];omega
       have hn2I:IntKind.u64.wrap ((n1:Int)+(q:Int))=(n2:Int):=by rw[IntKind.wrap_u64];omega
       obtain⟨t,ht⟩:∃t,z/p=t:=⟨_,rfl⟩;have htI:(z:Int)/(p:Int)=(t:Int):=by rw[←ht];simp
       have hpI:(2:Int)^s=(p:Int):=by rw[←HF.out.pw];simp
       have hp0:0<p:=by rw[←HF.out.pw];exact Nat.two_pow_pos _
       have hfin:=dv_law (hi:=hi) (lo:=lo) (show 0<y by omega) hp0;rw[←HF.out.uu,←HF.out.gg,←HF.out.d1g,←HF.out.d0g,←HF.out.Yy,←HQA.out,HVL.out.2.1,←HQB.out,hz,ht,hn1,hn2]at hfin;have HFIN:=Hi hfin;clear hfin ht hn2 hn1 hQl hql hdm hx3 hqy hx2 hx1 hzl hYl hvl hz hp0;go_wp2_with fail
       go_ret2
       rw[HFIN.out.1,HFIN.out.2];exact⟨rfl,hm⟩
   ·have hv:=Df hover;have hv2:decide ((4294967296:Int)≤(rr:Int))=false:=Df (by omega);have HV:=Hi (show rr<4294967296 by omega);clear hover;go_wp2_with fail;go_roundw
    case rel=>exact⟨qq,rr,rfl,rfl,Hi ⟨HST.out.1,HV.out⟩,hm⟩
    case measure=>have:=HST.out.2.2;simp[intOf];omega
  ·have hd:=Df hbig;have hd2:decide ((4294967296:Int)≤(q:Int))=false:=Df (by omega);obtain⟨qb,hqb⟩:∃qb,q*b=qb:=⟨_,rfl⟩;obtain⟨rb,hrb⟩:∃rb,r*4294967296=rb:=⟨_,rfl⟩;have hqbl:qb<18446744073709551616:=by rw[←hqb];exact HI.out.1.fits HP.out.2.2.1
   have hrl:=HI.out.2;have hw3:IntKind.u64.wrap ((q:Int)*(b:Int))=(qb:Int):=by
    rw[Mul64.mulN,hqb];exact Mul64.wrapN _ hqbl
   have hw4:IntKind.u64.wrap (4294967296*(r:Int))=(rb:Int):=by rw[IntKind.wrap_u64];omega
   have hdl:=HP.out.2.2.2.2.1;have hw5:IntKind.u64.wrap ((rb:Int)+(d1:Int))=((rb+d1:Nat):Int):=by rw[IntKind.wrap_u64];omega
   obtain⟨rx,hrx⟩:∃rx,rb+d1=rx:=⟨_,rfl⟩;rw[hrx]at hw5;by_cases hmore:rx<qb
   ·obtain⟨hst,hq1,hq2⟩:=HI.out.1.step HP.out.2.2.2.1 HF.out.ul HP.out.2.2.2.2.1 (.inr (by rw[hqb,hrb,hrx];exact hmore));have hm1:=Dt hmore;have hm2:decide ((rx:Int)<(qb:Int))=true:=Dt (by omega);have HBIG:=Hi hbig;clear hbig hmore hqb hrb hrx hqbl hdl hrl;obtain⟨qq,hqq⟩:∃qq,q-1=qq:=⟨_,rfl⟩;obtain⟨rr,hrr⟩:∃rr,r+a=rr:=⟨_,rfl⟩;rw[hqq,hrr]at hst;rw[hqq]at hq2;have hw1:IntKind.u64.wrap ((q:Int)-1)=(qq:Int):=by
     have:=HI.out.1.top;rw[IntKind.wrap_u64];omega
    have hw2:IntKind.u64.wrap ((r:Int)+(a:Int))=(rr:Int):=by
     have:=HI.out.2;have:=HP.out.2.1;rw[IntKind.wrap_u64];omega
    have HST:=Hi (Ai hst (Ai hq2 (Ai hq1 hqq)));clear hst hq2 hq1 hqq hrr;by_cases hover:4294967296≤rr
    ·have hv:=Dt hover;have hv2:decide ((4294967296:Int)≤(rr:Int))=true:=Dt (by omega);have HQ:Hid (qq=(u*4294967296+d1)/Y):=Hi (HST.out.1.stop HP.out.2.2.2.1 HF.out.ul HP.out.2.2.1 HST.out.2.1 hover);clear hover;have HQA:=HQ;clear HQ;obtain⟨v,hv⟩:∃v,(u*4294967296+d1) % Y=v:=⟨_,rfl⟩;have hvl:v<Y:=by rw[←hv];exact Nat.mod_lt _ (by have:=HF.out.Yg;omega)
     have hYl:=HF.out.Yl;obtain⟨x1,hx1⟩:∃x,u*4294967296 % 18446744073709551616=x:=⟨_,rfl⟩;obtain⟨x2,hx2⟩:∃x,(x1+d1) % 18446744073709551616=x:=⟨_,rfl⟩;obtain⟨x3,hx3⟩:∃x,qq*Y % 18446744073709551616=x:=⟨_,rfl⟩;have hdm:=Nat.div_add_mod (u*4294967296+d1) Y;rw[←HQA.out,hv,Nat.mul_comm Y]at hdm;obtain⟨qy,hqy⟩:∃qy,qq*Y=qy:=⟨_,rfl⟩;rw[hqy]at hdm hx3;have hu:=HP.out.2.2.2.2.2.2;have hx1I:IntKind.u64.wrap ((u:Int)*4294967296)=(x1:Int):=by rw[IntKind.wrap_u64];omega
     have hx2I:IntKind.u64.wrap ((x1:Int)+(d1:Int))=(x2:Int):=by rw[IntKind.wrap_u64];omega
     have hx3I:IntKind.u64.wrap ((qq:Int)*(Y:Int))=(x3:Int):=by rw[Mul64.mulN,hqy,Mul64.wrapM,hx3]
     have hx4I:IntKind.u64.wrap ((x2:Int)-(x3:Int))=(v:Int):=by rw[IntKind.wrap_u64];omega
     have HVL:=Hi (Ai hvl (Ai hv hqy));have hK:=KnI.start HP.out.2.2.2.1 HP.out.1 HP.out.2.2.1 HP.out.2.2.2.2.2.1 hvl;obtain⟨q0,hq0⟩:∃q0,v/a=q0:=⟨_,rfl⟩;obtain⟨m0,hm0⟩:∃m0,q0*a=m0:=⟨_,rfl⟩;obtain⟨r0,hr0⟩:∃r0,v-m0=r0:=⟨_,rfl⟩;rw[hq0,hm0,hr0]at hK;have hm0l:m0≤v:=by rw[←hm0,←hq0];exact Nat.div_mul_le_self v a
     have hq0I:(v:Int)/(a:Int)=(q0:Int):=by rw[←hq0];simp
     have hq0w:IntKind.u64.wrap (q0:Int)=(q0:Int):=by
      rw[←hq0];exact Mul64.wrapN _ (Nat.lt_of_le_of_lt (Nat.div_le_self v a) (by omega))
     have hm0I:IntKind.u64.wrap ((q0:Int)*(a:Int))=(m0:Int):=by
      rw[Mul64.mulN,hm0];exact Mul64.wrapN _ (by omega)
     have hr0I:IntKind.u64.wrap ((v:Int)-(m0:Int))=(r0:Int):=by rw[IntKind.wrap_u64];omega
     have HK2:=Hi (Ai hK.1 (show r0<4294967296 by have:=hK.2;have:=HP.out.2.1;omega));clear hK hm0l hr0 hm0 hq0 hvl hv hqy hdm hYl hu hx1 hx2 hx3;go_upto_region 23 with fail;go_wp2_with fail;clear hx1I hx2I hx3I hx4I hq0I hq0w hm0I hr0I;obtain⟨Q1,hQ1⟩:∃Q1,Q1=qq:=⟨_,rfl⟩;rw[←hQ1]at HQA HVL⊢;clear hQ1;go_loopw [18,16] (fun s18 s16 ws=>∃q r:Nat,s18= .int .u64 (q:Int)∧s16= .int .u64 (r:Int)∧Hid (KnI v a b d0 Y q r∧r<4294967296)∧Mod (fun _=>False) w2 ws) (fun s18 _ _=>(intOf s18).toNat)
     case atStart=>exact⟨_,_,rfl,rfl,HK2,hm⟩
     case round=>
      obtain⟨q,r,rfl,rfl,HI,hm⟩:=hrel;by_cases hbig:4294967296≤q
      ·obtain⟨hst,hq1,hq2⟩:=HI.out.1.step HP.out.2.2.2.1 HVL.out.1 HP.out.2.2.2.2.2.1 (.inl hbig);have hd:=Dt hbig;have hd2:decide ((4294967296:Int)≤(q:Int))=true:=Dt (by omega);have HBIG:=Hi hbig;clear hbig;obtain⟨qq,hqq⟩:∃qq,q-1=qq:=⟨_,rfl⟩;obtain⟨rr,hrr⟩:∃rr,r+a=rr:=⟨_,rfl⟩;rw[hqq,hrr]at hst;rw[hqq]at hq2;have hw1:IntKind.u64.wrap ((q:Int)-1)=(qq:Int):=by
        have:=HI.out.1.top;rw[IntKind.wrap_u64];omega
       have hw2:IntKind.u64.wrap ((r:Int)+(a:Int))=(rr:Int):=by
        have:=HI.out.2;have:=HP.out.2.1;rw[IntKind.wrap_u64];omega
       have HST:=Hi (Ai hst (Ai hq2 (Ai hq1 hqq)));clear hst hq2 hq1 hqq hrr;by_cases hover:4294967296≤rr
       ·have hv:=Dt hover;have hv2:decide ((4294967296:Int)≤(rr:Int))=true:=Dt (by omega);have HQ:Hid (qq=(v*4294967296+d0)/Y):=Hi (HST.out.1.stop HP.out.2.2.2.1 HVL.out.1 HP.out.2.2.1 HST.out.2.1 hover);clear hover;have HQB:=HQ;clear HQ;obtain⟨z,hz⟩:∃z,(v*4294967296+d0) % Y=z:=⟨_,rfl⟩;have hzl:z<Y:=by rw[←hz];exact Nat.mod_lt _ (by have:=HF.out.Yg;omega)
        have hYl:=HF.out.Yl;have hvl:=HVL.out.1;obtain⟨x1,hx1⟩:∃x,v*4294967296 % 18446744073709551616=x:=⟨_,rfl⟩;obtain⟨x2,hx2⟩:∃x,(x1+d0) % 18446744073709551616=x:=⟨_,rfl⟩;obtain⟨qy,hqy⟩:∃qy,qq*Y=qy:=⟨_,rfl⟩;obtain⟨x3,hx3⟩:∃x,qy % 18446744073709551616=x:=⟨_,rfl⟩;have hdm:=Nat.div_add_mod (v*4294967296+d0) Y;rw[←HQB.out,hz,Nat.mul_comm Y,hqy]at hdm;have hx1I:IntKind.u64.wrap ((v:Int)*4294967296)=(x1:Int):=by rw[IntKind.wrap_u64];omega
        have hx2I:IntKind.u64.wrap ((x1:Int)+(d0:Int))=(x2:Int):=by rw[IntKind.wrap_u64];omega
        have hx3I:IntKind.u64.wrap ((qq:Int)*(Y:Int))=(x3:Int):=by rw[Mul64.mulN,hqy,Mul64.wrapM,hx3]
        have hx4I:IntKind.u64.wrap ((x2:Int)-(x3:Int))=(z:Int):=by rw[IntKind.wrap_u64];omega
        have hQl:Q1<4294967296:=by rw[HQA.out];exact KnI.q_lt HP.out.2.2.2.1 HF.out.ul HP.out.2.2.2.2.1
        have hql:qq<4294967296:=by rw[HQB.out];exact KnI.q_lt HP.out.2.2.2.1 HVL.out.1 HP.out.2.2.2.2.2.1
        obtain⟨n1,hn1⟩:∃n,Q1*4294967296=n:=⟨_,rfl⟩;obtain⟨n2,hn2⟩:∃n,n1+qq=n:=⟨_,rfl⟩;have hn1I:IntKind.u64.wrap ((Q1:Int)*4294967296)=(n1:Int):=by rw[IntKind.wrap_u64];omega
        have hn2I:IntKind.u64.wrap ((n1:Int)+(qq:Int))=(n2:Int):=by rw[IntKind.wrap_u64];omega
        obtain⟨t,ht⟩:∃t,z/p=t:=⟨_,rfl⟩;have htI:(z:Int)/(p:Int)=(t:Int):=by rw[←ht];simp
        have hpI:(2:Int)^s=(p:Int):=by rw[←HF.out.pw];simp
        have hp0:0<p:=by rw[←HF.out.pw];exact Nat.two_pow_pos _
        have hfin:=dv_law (hi:=hi) (lo:=lo) (show 0<y by omega) hp0;rw[←HF.out.uu,←HF.out.gg,←HF.out.d1g,←HF.out.d0g,←HF.out.Yy,←HQA.out,HVL.out.2.1,←HQB.out,hz,ht,hn1,hn2]at hfin;have HFIN:=Hi hfin;clear hfin ht hn2 hn1 hQl hql hdm hx3 hqy hx2 hx1 hzl hYl hvl hz hp0;go_wp2_with fail
        go_ret2
        rw[HFIN.out.1,HFIN.out.2];exact⟨rfl,hm⟩
       ·have hv:=Df hover;have hv2:decide ((4294967296:Int)≤(rr:Int))=false:=Df (by omega);have HV:=Hi (show rr<4294967296 by omega);clear hover;go_wp2_with fail;go_roundw
        case rel=>exact⟨qq,rr,rfl,rfl,Hi ⟨HST.out.1,HV.out⟩,hm⟩
        case measure=>have:=HST.out.2.2;simp[intOf];omega
      ·have hd:=Df hbig;have hd2:decide ((4294967296:Int)≤(q:Int))=false:=Df (by omega);obtain⟨qb,hqb⟩:∃qb,q*b=qb:=⟨_,rfl⟩;obtain⟨rb,hrb⟩:∃rb,r*4294967296=rb:=⟨_,rfl⟩;have hqbl:qb<18446744073709551616:=by rw[←hqb];exact HI.out.1.fits HP.out.2.2.1
       have hrl:=HI.out.2;have hw3:IntKind.u64.wrap ((q:Int)*(b:Int))=(qb:Int):=by
        rw[Mul64.mulN,hqb];exact Mul64.wrapN _ hqbl
       have hw4:IntKind.u64.wrap (4294967296*(r:Int))=(rb:Int):=by rw[IntKind.wrap_u64];omega
       have hdl:=HP.out.2.2.2.2.2.1;have hw5:IntKind.u64.wrap ((rb:Int)+(d0:Int))=((rb+d0:Nat):Int):=by rw[IntKind.wrap_u64];omega
       obtain⟨rx,hrx⟩:∃rx,rb+d0=rx:=⟨_,rfl⟩;rw[hrx]at hw5;by_cases hmore:rx<qb
       ·obtain⟨hst,hq1,hq2⟩:=HI.out.1.step HP.out.2.2.2.1 HVL.out.1 HP.out.2.2.2.2.2.1 (.inr (by rw[hqb,hrb,hrx];exact hmore));have hm1:=Dt hmore;have hm2:decide ((rx:Int)<(qb:Int))=true:=Dt (by omega);have HBIG:=Hi hbig;clear hbig hmore hqb hrb hrx hqbl hdl hrl;obtain⟨qq,hqq⟩:∃qq,q-1=qq:=⟨_,rfl⟩;obtain⟨rr,hrr⟩:∃rr,r+a=rr:=⟨_,rfl⟩;rw[hqq,hrr]at hst;rw[hqq]at hq2;have hw1:IntKind.u64.wrap ((q:Int)-1)=(qq:Int):=by
         have:=HI.out.1.top;rw[IntKind.wrap_u64];omega
        have hw2:IntKind.u64.wrap ((r:Int)+(a:Int))=(rr:Int):=by
         have:=HI.out.2;have:=HP.out.2.1;rw[IntKind.wrap_u64];omega
        have HST:=Hi (Ai hst (Ai hq2 (Ai hq1 hqq)));clear hst hq2 hq1 hqq hrr;by_cases hover:4294967296≤rr
        ·have hv:=Dt hover;have hv2:decide ((4294967296:Int)≤(rr:Int))=true:=Dt (by omega);have HQ:Hid (qq=(v*4294967296+d0)/Y):=Hi (HST.out.1.stop HP.out.2.2.2.1 HVL.out.1 HP.out.2.2.1 HST.out.2.1 hover);clear hover;have HQB:=HQ;clear HQ;obtain⟨z,hz⟩:∃z,(v*4294967296+d0) % Y=z:=⟨_,rfl⟩;have hzl:z<Y:=by rw[←hz];exact Nat.mod_lt _ (by have:=HF.out.Yg;omega)
         have hYl:=HF.out.Yl;have hvl:=HVL.out.1;obtain⟨x1,hx1⟩:∃x,v*4294967296 % 18446744073709551616=x:=⟨_,rfl⟩;obtain⟨x2,hx2⟩:∃x,(x1+d0) % 18446744073709551616=x:=⟨_,rfl⟩;obtain⟨qy,hqy⟩:∃qy,qq*Y=qy:=⟨_,rfl⟩;obtain⟨x3,hx3⟩:∃x,qy % 18446744073709551616=x:=⟨_,rfl⟩;have hdm:=Nat.div_add_mod (v*4294967296+d0) Y;rw[←HQB.out,hz,Nat.mul_comm Y,hqy]at hdm;have hx1I:IntKind.u64.wrap ((v:Int)*4294967296)=(x1:Int):=by rw[IntKind.wrap_u64];omega
         have hx2I:IntKind.u64.wrap ((x1:Int)+(d0:Int))=(x2:Int):=by rw[IntKind.wrap_u64];omega
         have hx3I:IntKind.u64.wrap ((qq:Int)*(Y:Int))=(x3:Int):=by rw[Mul64.mulN,hqy,Mul64.wrapM,hx3]
         have hx4I:IntKind.u64.wrap ((x2:Int)-(x3:Int))=(z:Int):=by rw[IntKind.wrap_u64];omega
         have hQl:Q1<4294967296:=by rw[HQA.out];exact KnI.q_lt HP.out.2.2.2.1 HF.out.ul HP.out.2.2.2.2.1
         have hql:qq<4294967296:=by rw[HQB.out];exact KnI.q_lt HP.out.2.2.2.1 HVL.out.1 HP.out.2.2.2.2.2.1
         obtain⟨n1,hn1⟩:∃n,Q1*4294967296=n:=⟨_,rfl⟩;obtain⟨n2,hn2⟩:∃n,n1+qq=n:=⟨_,rfl⟩;have hn1I:IntKind.u64.wrap ((Q1:Int)*4294967296)=(n1:Int):=by rw[IntKind.wrap_u64];omega
         have hn2I:IntKind.u64.wrap ((n1:Int)+(qq:Int))=(n2:Int):=by rw[IntKind.wrap_u64];omega
         obtain⟨t,ht⟩:∃t,z/p=t:=⟨_,rfl⟩;have htI:(z:Int)/(p:Int)=(t:Int):=by rw[←ht];simp
         have hpI:(2:Int)^s=(p:Int):=by rw[←HF.out.pw];simp
         have hp0:0<p:=by rw[←HF.out.pw];exact Nat.two_pow_pos _
         have hfin:=dv_law (hi:=hi) (lo:=lo) (show 0<y by omega) hp0;rw[←HF.out.uu,←HF.out.gg,←HF.out.d1g,←HF.out.d0g,←HF.out.Yy,←HQA.out,HVL.out.2.1,←HQB.out,hz,ht,hn1,hn2]at hfin;have HFIN:=Hi hfin;clear hfin ht hn2 hn1 hQl hql hdm hx3 hqy hx2 hx1 hzl hYl hvl hz hp0;go_wp2_with fail
         go_ret2
         rw[HFIN.out.1,HFIN.out.2];exact⟨rfl,hm⟩
        ·have hv:=Df hover;have hv2:decide ((4294967296:Int)≤(rr:Int))=false:=Df (by omega);have HV:=Hi (show rr<4294967296 by omega);clear hover;go_wp2_with fail;go_roundw
         case rel=>exact⟨qq,rr,rfl,rfl,Hi ⟨HST.out.1,HV.out⟩,hm⟩
         case measure=>have:=HST.out.2.2;simp[intOf];omega
       ·have hm1:=Df hmore;have hm2:decide ((rx:Int)<(qb:Int))=false:=Df (by omega);have HQ:Hid (q=(v*4294967296+d0)/Y):=Hi (HI.out.1.done HP.out.2.2.2.1 HVL.out.1 (by rw[hqb,hrb,hrx];omega));clear hbig hmore hqb hrb hrx hqbl hdl hrl;have HQB:=HQ;clear HQ;obtain⟨z,hz⟩:∃z,(v*4294967296+d0) % Y=z:=⟨_,rfl⟩;have hzl:z<Y:=by rw[←hz];exact Nat.mod_lt _ (by have:=HF.out.Yg;omega)
        have hYl:=HF.out.Yl;have hvl:=HVL.out.1;obtain⟨x1,hx1⟩:∃x,v*4294967296 % 18446744073709551616=x:=⟨_,rfl⟩;obtain⟨x2,hx2⟩:∃x,(x1+d0) % 18446744073709551616=x:=⟨_,rfl⟩;obtain⟨qy,hqy⟩:∃qy,q*Y=qy:=⟨_,rfl⟩;obtain⟨x3,hx3⟩:∃x,qy % 18446744073709551616=x:=⟨_,rfl⟩;have hdm:=Nat.div_add_mod (v*4294967296+d0) Y;rw[←HQB.out,hz,Nat.mul_comm Y,hqy]at hdm;have hx1I:IntKind.u64.wrap ((v:Int)*4294967296)=(x1:Int):=by rw[IntKind.wrap_u64];omega
        have hx2I:IntKind.u64.wrap ((x1:Int)+(d0:Int))=(x2:Int):=by rw[IntKind.wrap_u64];omega
        have hx3I:IntKind.u64.wrap ((q:Int)*(Y:Int))=(x3:Int):=by rw[Mul64.mulN,hqy,Mul64.wrapM,hx3]
        have hx4I:IntKind.u64.wrap ((x2:Int)-(x3:Int))=(z:Int):=by rw[IntKind.wrap_u64];omega
        have hQl:Q1<4294967296:=by rw[HQA.out];exact KnI.q_lt HP.out.2.2.2.1 HF.out.ul HP.out.2.2.2.2.1
        have hql:q<4294967296:=by rw[HQB.out];exact KnI.q_lt HP.out.2.2.2.1 HVL.out.1 HP.out.2.2.2.2.2.1
        obtain⟨n1,hn1⟩:∃n,Q1*4294967296=n:=⟨_,rfl⟩;obtain⟨n2,hn2⟩:∃n,n1+q=n:=⟨_,rfl⟩;have hn1I:IntKind.u64.wrap ((Q1:Int)*4294967296)=(n1:Int):=by rw[IntKind.wrap_u64];omega
        have hn2I:IntKind.u64.wrap ((n1:Int)+(q:Int))=(n2:Int):=by rw[IntKind.wrap_u64];omega
        obtain⟨t,ht⟩:∃t,z/p=t:=⟨_,rfl⟩;have htI:(z:Int)/(p:Int)=(t:Int):=by rw[←ht];simp
        have hpI:(2:Int)^s=(p:Int):=by rw[←HF.out.pw];simp
        have hp0:0<p:=by rw[←HF.out.pw];exact Nat.two_pow_pos _
        have hfin:=dv_law (hi:=hi) (lo:=lo) (show 0<y by omega) hp0;rw[←HF.out.uu,←HF.out.gg,←HF.out.d1g,←HF.out.d0g,←HF.out.Yy,←HQA.out,HVL.out.2.1,←HQB.out,hz,ht,hn1,hn2]at hfin;have HFIN:=Hi hfin;clear hfin ht hn2 hn1 hQl hql hdm hx3 hqy hx2 hx1 hzl hYl hvl hz hp0;go_wp2_with fail
        go_ret2
        rw[HFIN.out.1,HFIN.out.2];exact⟨rfl,hm⟩
    ·have hv:=Df hover;have hv2:decide ((4294967296:Int)≤(rr:Int))=false:=Df (by omega);have HV:=Hi (show rr<4294967296 by omega);clear hover;go_wp2_with fail;go_roundw
     case rel=>exact⟨qq,rr,rfl,rfl,Hi ⟨HST.out.1,HV.out⟩,hm⟩
     case measure=>have:=HST.out.2.2;simp[intOf];omega
   ·have hm1:=Df hmore;have hm2:decide ((rx:Int)<(qb:Int))=false:=Df (by omega);have HQ:Hid (q=(u*4294967296+d1)/Y):=Hi (HI.out.1.done HP.out.2.2.2.1 HF.out.ul (by rw[hqb,hrb,hrx];omega));clear hbig hmore hqb hrb hrx hqbl hdl hrl;have HQA:=HQ;clear HQ;obtain⟨v,hv⟩:∃v,(u*4294967296+d1) % Y=v:=⟨_,rfl⟩;have hvl:v<Y:=by rw[←hv];exact Nat.mod_lt _ (by have:=HF.out.Yg;omega)
    have hYl:=HF.out.Yl;obtain⟨x1,hx1⟩:∃x,u*4294967296 % 18446744073709551616=x:=⟨_,rfl⟩;obtain⟨x2,hx2⟩:∃x,(x1+d1) % 18446744073709551616=x:=⟨_,rfl⟩;obtain⟨x3,hx3⟩:∃x,q*Y % 18446744073709551616=x:=⟨_,rfl⟩;have hdm:=Nat.div_add_mod (u*4294967296+d1) Y;rw[←HQA.out,hv,Nat.mul_comm Y]at hdm;obtain⟨qy,hqy⟩:∃qy,q*Y=qy:=⟨_,rfl⟩;rw[hqy]at hdm hx3;have hu:=HP.out.2.2.2.2.2.2;have hx1I:IntKind.u64.wrap ((u:Int)*4294967296)=(x1:Int):=by rw[IntKind.wrap_u64];omega
    have hx2I:IntKind.u64.wrap ((x1:Int)+(d1:Int))=(x2:Int):=by rw[IntKind.wrap_u64];omega
    have hx3I:IntKind.u64.wrap ((q:Int)*(Y:Int))=(x3:Int):=by rw[Mul64.mulN,hqy,Mul64.wrapM,hx3]
    have hx4I:IntKind.u64.wrap ((x2:Int)-(x3:Int))=(v:Int):=by rw[IntKind.wrap_u64];omega
    have HVL:=Hi (Ai hvl (Ai hv hqy));have hK:=KnI.start HP.out.2.2.2.1 HP.out.1 HP.out.2.2.1 HP.out.2.2.2.2.2.1 hvl;obtain⟨q0,hq0⟩:∃q0,v/a=q0:=⟨_,rfl⟩;obtain⟨m0,hm0⟩:∃m0,q0*a=m0:=⟨_,rfl⟩;obtain⟨r0,hr0⟩:∃r0,v-m0=r0:=⟨_,rfl⟩;rw[hq0,hm0,hr0]at hK;have hm0l:m0≤v:=by rw[←hm0,←hq0];exact Nat.div_mul_le_self v a
    have hq0I:(v:Int)/(a:Int)=(q0:Int):=by rw[←hq0];simp
    have hq0w:IntKind.u64.wrap (q0:Int)=(q0:Int):=by
     rw[←hq0];exact Mul64.wrapN _ (Nat.lt_of_le_of_lt (Nat.div_le_self v a) (by omega))
    have hm0I:IntKind.u64.wrap ((q0:Int)*(a:Int))=(m0:Int):=by
     rw[Mul64.mulN,hm0];exact Mul64.wrapN _ (by omega)
    have hr0I:IntKind.u64.wrap ((v:Int)-(m0:Int))=(r0:Int):=by rw[IntKind.wrap_u64];omega
    have HK2:=Hi (Ai hK.1 (show r0<4294967296 by have:=hK.2;have:=HP.out.2.1;omega));clear hK hm0l hr0 hm0 hq0 hvl hv hqy hdm hYl hu hx1 hx2 hx3;go_upto_region 23 with fail;go_wp2_with fail;clear hx1I hx2I hx3I hx4I hq0I hq0w hm0I hr0I;obtain⟨Q1,hQ1⟩:∃Q1,Q1=q:=⟨_,rfl⟩;rw[←hQ1]at HQA HVL⊢;clear hQ1;go_loopw [18,16] (fun s18 s16 ws=>∃q r:Nat,s18= .int .u64 (q:Int)∧s16= .int .u64 (r:Int)∧Hid (KnI v a b d0 Y q r∧r<4294967296)∧Mod (fun _=>False) w2 ws) (fun s18 _ _=>(intOf s18).toNat)
    case atStart=>exact⟨_,_,rfl,rfl,HK2,hm⟩
    case round=>
     obtain⟨q,r,rfl,rfl,HI,hm⟩:=hrel;by_cases hbig:4294967296≤q
     ·obtain⟨hst,hq1,hq2⟩:=HI.out.1.step HP.out.2.2.2.1 HVL.out.1 HP.out.2.2.2.2.2.1 (.inl hbig);have hd:=Dt hbig;have hd2:decide ((4294967296:Int)≤(q:Int))=true:=Dt (by omega);have HBIG:=Hi hbig;clear hbig;obtain⟨qq,hqq⟩:∃qq,q-1=qq:=⟨_,rfl⟩;obtain⟨rr,hrr⟩:∃rr,r+a=rr:=⟨_,rfl⟩;rw[hqq,hrr]at hst;rw[hqq]at hq2;have hw1:IntKind.u64.wrap ((q:Int)-1)=(qq:Int):=by
       have:=HI.out.1.top;rw[IntKind.wrap_u64];omega
      have hw2:IntKind.u64.wrap ((r:Int)+(a:Int))=(rr:Int):=by
       have:=HI.out.2;have:=HP.out.2.1;rw[IntKind.wrap_u64];omega
      have HST:=Hi (Ai hst (Ai hq2 (Ai hq1 hqq)));clear hst hq2 hq1 hqq hrr;by_cases hover:4294967296≤rr
      ·have hv:=Dt hover;have hv2:decide ((4294967296:Int)≤(rr:Int))=true:=Dt (by omega);have HQ:Hid (qq=(v*4294967296+d0)/Y):=Hi (HST.out.1.stop HP.out.2.2.2.1 HVL.out.1 HP.out.2.2.1 HST.out.2.1 hover);clear hover;have HQB:=HQ;clear HQ;obtain⟨z,hz⟩:∃z,(v*4294967296+d0) % Y=z:=⟨_,rfl⟩;have hzl:z<Y:=by rw[←hz];exact Nat.mod_lt _ (by have:=HF.out.Yg;omega)
       have hYl:=HF.out.Yl;have hvl:=HVL.out.1;obtain⟨x1,hx1⟩:∃x,v*4294967296 % 18446744073709551616=x:=⟨_,rfl⟩;obtain⟨x2,hx2⟩:∃x,(x1+d0) % 18446744073709551616=x:=⟨_,rfl⟩;obtain⟨qy,hqy⟩:∃qy,qq*Y=qy:=⟨_,rfl⟩;obtain⟨x3,hx3⟩:∃x,qy % 18446744073709551616=x:=⟨_,rfl⟩;have hdm:=Nat.div_add_mod (v*4294967296+d0) Y;rw[←HQB.out,hz,Nat.mul_comm Y,hqy]at hdm;have hx1I:IntKind.u64.wrap ((v:Int)*4294967296)=(x1:Int):=by rw[IntKind.wrap_u64];omega
       have hx2I:IntKind.u64.wrap ((x1:Int)+(d0:Int))=(x2:Int):=by rw[IntKind.wrap_u64];omega
       have hx3I:IntKind.u64.wrap ((qq:Int)*(Y:Int))=(x3:Int):=by rw[Mul64.mulN,hqy,Mul64.wrapM,hx3]
       have hx4I:IntKind.u64.wrap ((x2:Int)-(x3:Int))=(z:Int):=by rw[IntKind.wrap_u64];omega
       have hQl:Q1<4294967296:=by rw[HQA.out];exact KnI.q_lt HP.out.2.2.2.1 HF.out.ul HP.out.2.2.2.2.1
       have hql:qq<4294967296:=by rw[HQB.out];exact KnI.q_lt HP.out.2.2.2.1 HVL.out.1 HP.out.2.2.2.2.2.1
       obtain⟨n1,hn1⟩:∃n,Q1*4294967296=n:=⟨_,rfl⟩;obtain⟨n2,hn2⟩:∃n,n1+qq=n:=⟨_,rfl⟩;have hn1I:IntKind.u64.wrap ((Q1:Int)*4294967296)=(n1:Int):=by rw[IntKind.wrap_u64];omega
       have hn2I:IntKind.u64.wrap ((n1:Int)+(qq:Int))=(n2:Int):=by rw[IntKind.wrap_u64];omega
       obtain⟨t,ht⟩:∃t,z/p=t:=⟨_,rfl⟩;have htI:(z:Int)/(p:Int)=(t:Int):=by rw[←ht];simp
       have hpI:(2:Int)^s=(p:Int):=by rw[←HF.out.pw];simp
       have hp0:0<p:=by rw[←HF.out.pw];exact Nat.two_pow_pos _
       have hfin:=dv_law (hi:=hi) (lo:=lo) (show 0<y by omega) hp0;rw[←HF.out.uu,←HF.out.gg,←HF.out.d1g,←HF.out.d0g,←HF.out.Yy,←HQA.out,HVL.out.2.1,←HQB.out,hz,ht,hn1,hn2]at hfin;have HFIN:=Hi hfin;clear hfin ht hn2 hn1 hQl hql hdm hx3 hqy hx2 hx1 hzl hYl hvl hz hp0;go_wp2_with fail
       go_ret2
       rw[HFIN.out.1,HFIN.out.2];exact⟨rfl,hm⟩
      ·have hv:=Df hover;have hv2:decide ((4294967296:Int)≤(rr:Int))=false:=Df (by omega);have HV:=Hi (show rr<4294967296 by omega);clear hover;go_wp2_with fail;go_roundw
       case rel=>exact⟨qq,rr,rfl,rfl,Hi ⟨HST.out.1,HV.out⟩,hm⟩
       case measure=>have:=HST.out.2.2;simp[intOf];omega
     ·have hd:=Df hbig;have hd2:decide ((4294967296:Int)≤(q:Int))=false:=Df (by omega);obtain⟨qb,hqb⟩:∃qb,q*b=qb:=⟨_,rfl⟩;obtain⟨rb,hrb⟩:∃rb,r*4294967296=rb:=⟨_,rfl⟩;have hqbl:qb<18446744073709551616:=by rw[←hqb];exact HI.out.1.fits HP.out.2.2.1
      have hrl:=HI.out.2;have hw3:IntKind.u64.wrap ((q:Int)*(b:Int))=(qb:Int):=by
       rw[Mul64.mulN,hqb];exact Mul64.wrapN _ hqbl
      have hw4:IntKind.u64.wrap (4294967296*(r:Int))=(rb:Int):=by rw[IntKind.wrap_u64];omega
      have hdl:=HP.out.2.2.2.2.2.1;have hw5:IntKind.u64.wrap ((rb:Int)+(d0:Int))=((rb+d0:Nat):Int):=by rw[IntKind.wrap_u64];omega
      obtain⟨rx,hrx⟩:∃rx,rb+d0=rx:=⟨_,rfl⟩;rw[hrx]at hw5;by_cases hmore:rx<qb
      ·obtain⟨hst,hq1,hq2⟩:=HI.out.1.step HP.out.2.2.2.1 HVL.out.1 HP.out.2.2.2.2.2.1 (.inr (by rw[hqb,hrb,hrx];exact hmore));have hm1:=Dt hmore;have hm2:decide ((rx:Int)<(qb:Int))=true:=Dt (by omega);have HBIG:=Hi hbig;clear hbig hmore hqb hrb hrx hqbl hdl hrl;obtain⟨qq,hqq⟩:∃qq,q-1=qq:=⟨_,rfl⟩;obtain⟨rr,hrr⟩:∃rr,r+a=rr:=⟨_,rfl⟩;rw[hqq,hrr]at hst;rw[hqq]at hq2;have hw1:IntKind.u64.wrap ((q:Int)-1)=(qq:Int):=by
        have:=HI.out.1.top;rw[IntKind.wrap_u64];omega
       have hw2:IntKind.u64.wrap ((r:Int)+(a:Int))=(rr:Int):=by
        have:=HI.out.2;have:=HP.out.2.1;rw[IntKind.wrap_u64];omega
       have HST:=Hi (Ai hst (Ai hq2 (Ai hq1 hqq)));clear hst hq2 hq1 hqq hrr;by_cases hover:4294967296≤rr
       ·have hv:=Dt hover;have hv2:decide ((4294967296:Int)≤(rr:Int))=true:=Dt (by omega);have HQ:Hid (qq=(v*4294967296+d0)/Y):=Hi (HST.out.1.stop HP.out.2.2.2.1 HVL.out.1 HP.out.2.2.1 HST.out.2.1 hover);clear hover;have HQB:=HQ;clear HQ;obtain⟨z,hz⟩:∃z,(v*4294967296+d0) % Y=z:=⟨_,rfl⟩;have hzl:z<Y:=by rw[←hz];exact Nat.mod_lt _ (by have:=HF.out.Yg;omega)
        have hYl:=HF.out.Yl;have hvl:=HVL.out.1;obtain⟨x1,hx1⟩:∃x,v*4294967296 % 18446744073709551616=x:=⟨_,rfl⟩;obtain⟨x2,hx2⟩:∃x,(x1+d0) % 18446744073709551616=x:=⟨_,rfl⟩;obtain⟨qy,hqy⟩:∃qy,qq*Y=qy:=⟨_,rfl⟩;obtain⟨x3,hx3⟩:∃x,qy % 18446744073709551616=x:=⟨_,rfl⟩;have hdm:=Nat.div_add_mod (v*4294967296+d0) Y;rw[←HQB.out,hz,Nat.mul_comm Y,hqy]at hdm;have hx1I:IntKind.u64.wrap ((v:Int)*4294967296)=(x1:Int):=by rw[IntKind.wrap_u64];omega
        have hx2I:IntKind.u64.wrap ((x1:Int)+(d0:Int))=(x2:Int):=by rw[IntKind.wrap_u64];omega
        have hx3I:IntKind.u64.wrap ((qq:Int)*(Y:Int))=(x3:Int):=by rw[Mul64.mulN,hqy,Mul64.wrapM,hx3]
        have hx4I:IntKind.u64.wrap ((x2:Int)-(x3:Int))=(z:Int):=by rw[IntKind.wrap_u64];omega
        have hQl:Q1<4294967296:=by rw[HQA.out];exact KnI.q_lt HP.out.2.2.2.1 HF.out.ul HP.out.2.2.2.2.1
        have hql:qq<4294967296:=by rw[HQB.out];exact KnI.q_lt HP.out.2.2.2.1 HVL.out.1 HP.out.2.2.2.2.2.1
        obtain⟨n1,hn1⟩:∃n,Q1*4294967296=n:=⟨_,rfl⟩;obtain⟨n2,hn2⟩:∃n,n1+qq=n:=⟨_,rfl⟩;have hn1I:IntKind.u64.wrap ((Q1:Int)*4294967296)=(n1:Int):=by rw[IntKind.wrap_u64];omega
        have hn2I:IntKind.u64.wrap ((n1:Int)+(qq:Int))=(n2:Int):=by rw[IntKind.wrap_u64];omega
        obtain⟨t,ht⟩:∃t,z/p=t:=⟨_,rfl⟩;have htI:(z:Int)/(p:Int)=(t:Int):=by rw[←ht];simp
        have hpI:(2:Int)^s=(p:Int):=by rw[←HF.out.pw];simp
        have hp0:0<p:=by rw[←HF.out.pw];exact Nat.two_pow_pos _
        have hfin:=dv_law (hi:=hi) (lo:=lo) (show 0<y by omega) hp0;rw[←HF.out.uu,←HF.out.gg,←HF.out.d1g,←HF.out.d0g,←HF.out.Yy,←HQA.out,HVL.out.2.1,←HQB.out,hz,ht,hn1,hn2]at hfin;have HFIN:=Hi hfin;clear hfin ht hn2 hn1 hQl hql hdm hx3 hqy hx2 hx1 hzl hYl hvl hz hp0;go_wp2_with fail
        go_ret2
        rw[HFIN.out.1,HFIN.out.2];exact⟨rfl,hm⟩
       ·have hv:=Df hover;have hv2:decide ((4294967296:Int)≤(rr:Int))=false:=Df (by omega);have HV:=Hi (show rr<4294967296 by omega);clear hover;go_wp2_with fail;go_roundw
        case rel=>exact⟨qq,rr,rfl,rfl,Hi ⟨HST.out.1,HV.out⟩,hm⟩
        case measure=>have:=HST.out.2.2;simp[intOf];omega
      ·have hm1:=Df hmore;have hm2:decide ((rx:Int)<(qb:Int))=false:=Df (by omega);have HQ:Hid (q=(v*4294967296+d0)/Y):=Hi (HI.out.1.done HP.out.2.2.2.1 HVL.out.1 (by rw[hqb,hrb,hrx];omega));clear hbig hmore hqb hrb hrx hqbl hdl hrl;have HQB:=HQ;clear HQ;obtain⟨z,hz⟩:∃z,(v*4294967296+d0) % Y=z:=⟨_,rfl⟩;have hzl:z<Y:=by rw[←hz];exact Nat.mod_lt _ (by have:=HF.out.Yg;omega)
       have hYl:=HF.out.Yl;have hvl:=HVL.out.1;obtain⟨x1,hx1⟩:∃x,v*4294967296 % 18446744073709551616=x:=⟨_,rfl⟩;obtain⟨x2,hx2⟩:∃x,(x1+d0) % 18446744073709551616=x:=⟨_,rfl⟩;obtain⟨qy,hqy⟩:∃qy,q*Y=qy:=⟨_,rfl⟩;obtain⟨x3,hx3⟩:∃x,qy % 18446744073709551616=x:=⟨_,rfl⟩;have hdm:=Nat.div_add_mod (v*4294967296+d0) Y;rw[←HQB.out,hz,Nat.mul_comm Y,hqy]at hdm;have hx1I:IntKind.u64.wrap ((v:Int)*4294967296)=(x1:Int):=by rw[IntKind.wrap_u64];omega
       have hx2I:IntKind.u64.wrap ((x1:Int)+(d0:Int))=(x2:Int):=by rw[IntKind.wrap_u64];omega
       have hx3I:IntKind.u64.wrap ((q:Int)*(Y:Int))=(x3:Int):=by rw[Mul64.mulN,hqy,Mul64.wrapM,hx3]
       have hx4I:IntKind.u64.wrap ((x2:Int)-(x3:Int))=(z:Int):=by rw[IntKind.wrap_u64];omega
       have hQl:Q1<4294967296:=by rw[HQA.out];exact KnI.q_lt HP.out.2.2.2.1 HF.out.ul HP.out.2.2.2.2.1
       have hql:q<4294967296:=by rw[HQB.out];exact KnI.q_lt HP.out.2.2.2.1 HVL.out.1 HP.out.2.2.2.2.2.1
       obtain⟨n1,hn1⟩:∃n,Q1*4294967296=n:=⟨_,rfl⟩;obtain⟨n2,hn2⟩:∃n,n1+q=n:=⟨_,rfl⟩;have hn1I:IntKind.u64.wrap ((Q1:Int)*4294967296)=(n1:Int):=by rw[IntKind.wrap_u64];omega
       have hn2I:IntKind.u64.wrap ((n1:Int)+(q:Int))=(n2:Int):=by rw[IntKind.wrap_u64];omega
       obtain⟨t,ht⟩:∃t,z/p=t:=⟨_,rfl⟩;have htI:(z:Int)/(p:Int)=(t:Int):=by rw[←ht];simp
       have hpI:(2:Int)^s=(p:Int):=by rw[←HF.out.pw];simp
       have hp0:0<p:=by rw[←HF.out.pw];exact Nat.two_pow_pos _
       have hfin:=dv_law (hi:=hi) (lo:=lo) (show 0<y by omega) hp0;rw[←HF.out.uu,←HF.out.gg,←HF.out.d1g,←HF.out.d0g,←HF.out.Yy,←HQA.out,HVL.out.2.1,←HQB.out,hz,ht,hn1,hn2]at hfin;have HFIN:=Hi hfin;clear hfin ht hn2 hn1 hQl hql hdm hx3 hqy hx2 hx1 hzl hYl hvl hz hp0;go_wp2_with fail
       go_ret2
       rw[HFIN.out.1,HFIN.out.2];exact⟨rfl,hm⟩
theorem div0_c (lo y:Nat) (w:World) (hy:y<18446744073709551616) (hl:lo<18446744073709551616) (h0:0<y):
  Calls Tryz.prog 119 #[.int .u64 0,.int .u64 (lo:Int),.int .u64 (y:Int)] w fun e w'=>e= .returned (.tuple #[.int .u64 ((lo/y:Nat):Int),.int .u64 ((lo % y:Nat):Int)])∧Mod (fun _=>False) w w':=by
 obtain⟨q,hq⟩:∃q,lo/y=q:=⟨_,rfl⟩;obtain⟨r,hr⟩:∃r,lo % y=r:=⟨_,rfl⟩;have hql:q<18446744073709551616:=by rw[←hq];exact Nat.lt_of_le_of_lt (Nat.div_le_self _ _) hl
 have hrl:r<18446744073709551616:=by rw[←hr];exact Nat.lt_of_le_of_lt (Nat.mod_le _ _) hl
 have hqI:(lo:Int)/(y:Int)=(q:Int):=by rw[←hq];simp
 have hrI:(lo:Int).tmod (y:Int)=(r:Int):=by rw[←hr,Int.tmod_eq_emod_of_nonneg (by omega)];simp
 have hqw:IntKind.u64.wrap (q:Int)=(q:Int):=Mul64.wrapN _ hql;have hrw:IntKind.u64.wrap (r:Int)=(r:Int):=Mul64.wrapN _ hrl;have hyn:¬(y=0):=by omega
 have hle:decide ((y:Int)≤0)=false:=Df (by omega);have hye:((y:Int)==0)=false:=by simpa using hyn
 rw[hq,hr];clear hq hr;go_enter Tryz.func119,Tryz.ntmps119;go_upto_region 6 with fail;refine ZP [0,0,0,0,0,0,0,0] ?_
 iterate 8 refine Zv ?_
 refine TD.nil (fun w1 hr=> ?_);have m1:=hr.mod;go_wp2_with fail
 go_ret2
 exact⟨rfl,m1⟩
theorem bW2 (a:UInt64) (w:World):(Instr.buildSlice 213 2 #[(0,u64v a),(1,.int .u64 1)]).run Tryz.prog w= .ok (.slice (some ⟨w.heap.size,0,none⟩) 2 2) (w.alloc (.cells #[u64v a,u64v 1] 25)):=by kernel_rfl
theorem timG_over {a b d:UInt64} {up:Bool} (h:d.toNat≤a.toNat*b.toNat/18446744073709551616):timG a b d up=18446744073709551615:=if_pos h
theorem timG_up {a b d:UInt64} {up:Bool} (h:¬d.toNat≤a.toNat*b.toNat/18446744073709551616) (h2:up=true∧0<a.toNat*b.toNat % d.toNat):timG a b d up=sat (UInt64.ofNat (a.toNat*b.toNat/d.toNat)) 1:=by unfold timG;rw[if_neg h,if_pos h2]
theorem timG_in {a b d:UInt64} {up:Bool} (h:¬d.toNat≤a.toNat*b.toNat/18446744073709551616) (h2:¬(up=true∧0<a.toNat*b.toNat % d.toNat)):timG a b d up=UInt64.ofNat (a.toNat*b.toNat/d.toNat):=by unfold timG;rw[if_neg h,if_neg h2]
theorem timG_q {x d:Nat} (h:¬d≤x/18446744073709551616):x/d<18446744073709551616∧0<d:=by
 have h0:0<d:=by omega
 refine⟨?_,h0⟩;rw[Nat.div_lt_iff_lt_mul h0];have:=Nat.div_add_mod x 18446744073709551616;have:=Nat.mod_lt x (show 0<18446744073709551616 by decide);have h1:(x/18446744073709551616+1)*18446744073709551616≤d*18446744073709551616:=Nat.mul_le_mul_right _ (by omega);rw[Nat.add_mul,Nat.mul_comm d]at h1;omega
theorem times_c (a b d:UInt64) (up:Bool) (w:World):Calls Tryz.prog 87 #[u64v a,u64v b,u64v d,.bool up] w fun e w'=>e= .returned (u64v (timG a b d up))∧Mod (fun _=>False) w w':=by
 have hT:=mul_c a b;obtain⟨hi,hhi⟩:∃hi,a.toNat*b.toNat/18446744073709551616=hi:=⟨_,rfl⟩;obtain⟨lo,hlo⟩:∃lo,a.toNat*b.toNat % 18446744073709551616=lo:=⟨_,rfl⟩;have hsum:hi*18446744073709551616+lo=a.toNat*b.toNat:=by
  rw[←hhi,←hlo,Nat.mul_comm];exact Nat.div_add_mod _ _
 have hll:lo<18446744073709551616:=by rw[←hlo];exact Nat.mod_lt _ (by decide)
 rw[hhi,hlo]at hT;have HT:=Hi hT;by_cases hc:d.toNat≤hi
 ·have HE:Hid (timG a b d up=18446744073709551615):=Hi (timG_over (by rw[hhi];exact hc));have hc1:decide ((d.toNat:Int)≤(hi:Int))=true:=Dt (by omega);have hc2:=Dt hc;clear hT hc hhi hlo hsum hll;go_enter Tryz.func87,Tryz.ntmps87;go_wp2_with fail;go_at_call 118;refine(HT.out _).mono ?_;rintro e w2 ⟨rfl,rfl⟩;go_wp2_with fail;go_ret;exact⟨by rw[HE.out];rfl,Mod.refl _ _⟩
 ·have HN:Hid (¬d.toNat≤a.toNat*b.toNat/18446744073709551616):=Hi (by rw[hhi];exact hc);have hq:=(timG_q HN.out).1;have hd0:=(timG_q HN.out).2;have hdl:=d.toNat_lt;have hc1:decide ((d.toNat:Int)≤(hi:Int))=false:=Df (by omega);have hc2:=Df hc;obtain⟨q,hqq⟩:∃q,a.toNat*b.toNat/d.toNat=q:=⟨_,rfl⟩;obtain⟨r,hrr⟩:∃r,a.toNat*b.toNat % d.toNat=r:=⟨_,rfl⟩;rw[hqq]at hq;obtain⟨z,hz⟩:∃z,UInt64.ofNat q=z:=⟨_,rfl⟩;have hzq:(z.toNat:Int)=(q:Int):=by rw[←hz,UInt64.toNat_ofNat',Nat.mod_eq_of_lt hq]
  have HQ:=Hi (Ai hz (Ai hqq hrr));have HD:Hid (∀w,Calls Tryz.prog 119 #[.int .u64 (hi:Int),.int .u64 (lo:Int),u64v d] w fun e w'=>e= .returned (.tuple #[u64v z,.int .u64 (r:Int)])∧Mod (fun _=>False) w w'):=Hi (fun w=>by
   by_cases h0:hi=0
   ·have h:=div0_c lo d.toNat w hdl hll hd0;rw[h0,Nat.zero_mul,Nat.zero_add]at hsum;rw[hsum,hqq,hrr,←hzq,←hsum]at h;rw[h0];exact h
   ·have h:=div64_c hi lo d.toNat w hdl hll (by omega) h0;rw[hsum,hqq,hrr,←hzq]at h;exact h)
  clear hT hc hhi hlo hsum hll hq hd0 hdl hqq hrr hz hzq;have hbl:=bW2;go_enter Tryz.func87,Tryz.ntmps87;go_wp2_with fail;go_at_call 118;refine(HT.out _).mono ?_;rintro e w2 ⟨rfl,rfl⟩;go_wp2_with fail;go_at_call 119;refine(HD.out _).mono ?_;rintro e w3 ⟨rfl,m3⟩;have HM:=Hi m3;clear m3;go_upto_region 5 with fail;cases up with
  |true=>
   by_cases hr0:0<r
   ·have hr1:decide ((r:Int)>0)=true:=Dt (by omega);have hr2:decide ((0:Int)<(r:Int))=true:=Dt (by omega);have hr3:=Dt hr0;have HE:Hid (timG a b d true=sat z 1):=Hi (by rw[timG_up HN.out ⟨rfl,by rw[HQ.out.2.2];exact hr0⟩,HQ.out.2.1,HQ.out.1]);clear hr0;go_upto_region 6 with fail;refine wp_gpass0 (T0:=fun _=>False) (K:=fun _ _=>True) (κ:=fun i=>[0,3,6,0].getD i 0) (υ:=fun i=>[[],[],[35],[]].getD i []) [0,1,2,3] (by kernel_rfl) (by kernel_rfl) (Good.true).cl (trivial) (fun _ h=>h.elim) ?_;have gK:=Good.true;refine Zg ?_;(refine TG.bslice (by simp only[zK];rfl) rfl (by rfl) rfl rfl ?hx10 (hbl z) (fun p35 hp35 _=> ?n10);(case hx10=>(simp only[List.map_toArray,List.map_cons,List.map_nil,zM];(try rfl)));try simp only[zL]);(refine ZG (fun v=>v=u64v (sat z 1)) gK ?_ (s:=fun T wq kq ltq hSq ub=>by have kp35:=ub.box (p:=p35) (by first|exact Bx.set_same _ _ _|(simp only[Bx.set_same];rfl)) (by first|decide|exact List.mem_singleton.2 rfl|simp);dsimp only[Value.cells]at kp35;have nUp35:=(ub p35 _ (by first|exact Bx.set_same _ _ _|(simp only[Bx.set_same];rfl)) (by first|decide|exact List.mem_singleton.2 rfl|simp)).1;exact(wsum_c p35 z 1 wq kp35).mono (fun e w' h=>⟨_,h.1,rfl,h.2⟩));rintro v11 hC;subst hC;try simp only[zL]);refine Zg ?_;refine TG.nil (fun w5 ⟨TR,hr⟩=> ?_);obtain⟨gp35,nTp35,kp35⟩:=hr.b p35;clear gK;have m5:=HM.out.then0 hr.mod;clear hr;go_wp2_with fail;go_ret;exact⟨by rw[HE.out];rfl,m5⟩
   ·have hr1:decide ((r:Int)>0)=false:=Df (by omega);have hr2:decide ((0:Int)<(r:Int))=false:=Df (by omega);have hr3:=Df hr0;have HE:Hid (timG a b d true=z):=Hi (by rw[timG_in HN.out (fun h=>hr0 (by rw[←HQ.out.2.2];exact h.2)),HQ.out.2.1,HQ.out.1]);clear hr0;go_wp2_with fail;go_ret;exact⟨by rw[HE.out];rfl,HM.out⟩
  |false=>
   have HE:Hid (timG a b d false=z):=Hi (by rw[timG_in HN.out (fun h=>by cases h.1),HQ.out.2.1,HQ.out.1]);go_wp2_with fail;go_ret;exact⟨by rw[HE.out];rfl,HM.out⟩
section
theorem ldPay (w:World) (b o:Nat):(Instr.loadAt 202 (.pointer (some ⟨b,o,none⟩))).run Tryz.prog w=
   match w.heap[b]? with
   |some (.cells cs _ _)=>if o+4≤cs.size then .ok (.agg (cs.extract o (o+4))) w else farL Tryz.prog w 202 b o
   |_=>farL Tryz.prog w 202 b o:=load_rule (d:=_) Tryz.underlying202 rfl (by kernel_rfl) w b o
theorem stPay (w:World) (b o:Nat) (xs:Array Value):(Instr.storeAt 202 (.pointer (some ⟨b,o,none⟩)) (.agg xs)).run Tryz.prog w=
   match w.heap[b]? with
   |some (.cells cs U (0,0))=>
    if o+4≤cs.size∧xs.size=4∧xs.all (·.oneCell')=true then .ok () (setBlock w b (.cells (if o=0∧4=cs.size then xs else wr cs o xs.toList) U (0,0)))else farS Tryz.prog w 202 b o (.agg xs)
   |_=>farS Tryz.prog w 202 b o (.agg xs):=store_rule (by kernel_rfl) w b o xs
theorem wlPay (dst:Option Tmp) (x:Operand) (ty:TypeId) (pos:String) (after:Array Edge) (g:Option (Nat×Bool)) (a:Act) (w:World) (K:Act→World→Prop) (Q:Exit→Act→World→Prop):
  Oper.wp Tryz.prog {dst:=dst,op:= .load 202 x,type:=ty,pos:=pos,after:=after,guard:=g} a w K Q=
   (match a.eval x with
   | .pointer (some ⟨b,o,none⟩)=>
    (match w.heap[b]? with
    |some (.cells cs _ _)=>if o+4≤cs.size then K (a.put dst (.agg (cs.extract o (o+4)))) w else farW Tryz.prog {dst:=dst,op:= .load 202 x,type:=ty,pos:=pos,after:=after,guard:=g} a w K Q
    |_=>farW Tryz.prog {dst:=dst,op:= .load 202 x,type:=ty,pos:=pos,after:=after,guard:=g} a w K Q)
   |_=>farW Tryz.prog {dst:=dst,op:= .load 202 x,type:=ty,pos:=pos,after:=after,guard:=g} a w K Q):=wp_load_rule (d:=_) Tryz.underlying202 rfl (by kernel_rfl) dst x ty pos after g a w K Q
theorem alPay (w:World):(Instr.alloc 202 true (.tuple #[])).run Tryz.prog w= .ok (.pointer (some ⟨w.heap.size,0,none⟩)) (w.alloc (.cells #[.int .i64 0,.int .u64 0,.int .u64 0,.int .i64 0] 202)):=
 run_alloc_row (z:= .agg #[.int .i64 0,.int .u64 0,.int .u64 0,.int .i64 0]) (fun w=>by kernel_rfl) w
attribute [local go_sem↓] wlPay ldPay stPay
def payR (n:Nat) (u p:UInt64) (bad:Int):Array Value:= #[.int .i64 (n:Int),u64v u,u64v p,.int .i64 bad]
theorem payR_size (n:Nat) (u p:UInt64) (bad:Int):(payR n u p bad).size=4:=rfl
theorem payR_all (n:Nat) (u p:UInt64) (bad:Int):(payR n u p bad).extract 0 4=payR n u p bad:=rfl
theorem payR_one (n:Nat) (u p:UInt64) (bad:Int):(payR n u p bad).all (·.oneCell') 0 4=true:=by simp[payR,Value.oneCell']
theorem payR0 (n:Nat) (u p:UInt64) (bad:Int):(payR n u p bad)[0]? =some (.int .i64 (n:Int)):=rfl
theorem payR1 (n:Nat) (u p:UInt64) (bad:Int):(payR n u p bad)[1]? =some (u64v u):=rfl
theorem payR2 (n:Nat) (u p:UInt64) (bad:Int):(payR n u p bad)[2]? =some (u64v p):=rfl
theorem payR0' (n:Nat) (u p:UInt64) (bad:Int) (h:0<(payR n u p bad).size):(payR n u p bad)[0]= .int .i64 (n:Int):=rfl
theorem payR1' (n:Nat) (u p:UInt64) (bad:Int) (h:1<(payR n u p bad).size):(payR n u p bad)[1]=u64v u:=rfl
theorem payR2' (n:Nat) (u p:UInt64) (bad:Int) (h:2<(payR n u p bad).size):(payR n u p bad)[2]=u64v p:=rfl
attribute [local go_sem] payR_size payR_all payR_one payR0 payR1 payR2 payR0' payR1' payR2'
theorem base_c (n:Nat) (hn:n<1000000) (u p:UInt64) (bad:Int) (w:World):Calls Tryz.prog 84 #[.agg (payR n u p bad)] w fun e w'=>e= .returned (u64v (tim (UInt64.ofNat n) 5000))∧Mod (fun _=>False) w w':=by
 have hm:max 0 (n:Int)=(n:Int):=by omega
 have hw:IntKind.u64.wrap (n:Int)=((UInt64.ofNat n).toNat:Int):=by rw[Mul64.wrapN n (by omega),UInt64.toNat_ofNat',Nat.mod_eq_of_lt (by omega)]
 have HT:=Hi (fun w=>times1_c (UInt64.ofNat n) 5000 w);obtain⟨z,hz⟩:∃z,UInt64.ofNat n=z:=⟨_,rfl⟩;rw[hz]at hw HT⊢;clear hz;go_enter Tryz.func84,Tryz.ntmps84;go_upto_region 0 with fail;refine ZP0 [3,0] ?_;refine Zb fun p1 hp1=> ?_;refine Zv ?_;refine TD.nil (fun w1 hr=> ?_);obtain⟨gp1,kp1⟩:=hr.b p1;have m1:=hr.mod;clear hr;go_wp2_with fail;go_at_call 87;refine(HT.out _).mono ?_;rintro e w2 ⟨rfl,m2⟩;go_wp2_with fail;go_ret;exact⟨rfl,m1.then0 m2⟩
theorem half_u (z:UInt64):((z/2).toNat:Int)=IntKind.u64.wrap ((z.toNat:Int)/2):=by
 have:=z.toNat_lt;rw[UInt64.toNat_div,IntKind.wrap_u64,show(2:UInt64).toNat=2 from rfl];omega
theorem kept_c (n:Nat) (hn:n<1000000) (u p:UInt64) (bad:Int) (w:World):Calls Tryz.prog 88 #[.agg (payR n u p bad)] w fun e w'=>e= .returned (u64v (tim (UInt64.ofNat n) 5000/2))∧Mod (fun _=>False) w w':=by
 have HB:=Hi (fun w=>base_c n hn u p bad w);obtain⟨z,hz⟩:∃z,tim (UInt64.ofNat n) 5000=z:=⟨_,rfl⟩;rw[hz]at HB⊢;have hh:=half_u z;have HH:=Hi hh;clear hz hh;go_enter Tryz.func88,Tryz.ntmps88;go_upto_region 0 with fail;refine ZP0 [3,0] ?_;refine Zb fun p1 hp1=> ?_;refine Zv ?_;refine TD.nil (fun w1 hr=> ?_);obtain⟨gp1,kp1⟩:=hr.b p1;have m1:=hr.mod;clear hr;go_wp2_with fail;go_at_call 84;refine(HB.out _).mono ?_;rintro e w2 ⟨rfl,m2⟩;go_wp2_with fail;go_ret;refine⟨?_,m1.then0 m2⟩;show Ending.returned (.int .u64 _)=Ending.returned (.int .u64 _);rw[HH.out]
theorem offer_c (n:Nat) (u p:UInt64) (bad:Int) (w:World):Calls Tryz.prog 85 #[.agg (payR n u p bad)] w fun e w'=>e= .returned (u64v (timG p u 1000000 true))∧Mod (fun _=>False) w w':=by
 have HT:=Hi (fun w=>times_c p u 1000000 true w);go_enter Tryz.func85,Tryz.ntmps85;go_upto_region 0 with fail;refine ZP0 [3,0] ?_;refine Zb fun p1 hp1=> ?_;refine Zv ?_;refine TD.nil (fun w1 hr=> ?_);obtain⟨gp1,kp1⟩:=hr.b p1;have m1:=hr.mod;clear hr;go_wp2_with fail;go_at_call 87;refine(HT.out _).mono ?_;rintro e w2 ⟨rfl,m2⟩;go_wp2_with fail;go_ret;exact⟨rfl,m1.then0 m2⟩
theorem bs2 (a b:UInt64) (w:World):(Instr.buildSlice 213 2 #[(0,u64v a),(1,u64v b)]).run Tryz.prog w= .ok (.slice (some ⟨w.heap.size,0,none⟩) 2 2) (w.alloc (.cells #[u64v a,u64v b] 25)):=by kernel_rfl
abbrev payF (f:Nat) (r:Array Value):Value:= .func (.func f) #[.agg r] #[]
theorem bothB_c (n:Nat) (hn:n<1000000) (u p:UInt64) (bad:Int) (w:World):Calls Tryz.prog 83 #[payF 84 (payR n u p bad),payF 85 (payR n u p bad)] w fun e w'=>e= .returned (u64v (sat (tim (UInt64.ofNat n) 5000) (timG p u 1000000 true)))∧Mod (fun _=>False) w w':=by
 have HB:=Hi (fun w=>base_c n hn u p bad w);have HO:=Hi (fun w=>offer_c n u p bad w);obtain⟨z,hz⟩:∃z,(tim (UInt64.ofNat n) 5000)=z:=⟨_,rfl⟩;obtain⟨y,hy⟩:∃y,timG p u 1000000 true=y:=⟨_,rfl⟩;rw[hz]at HB⊢;rw[hy]at HO⊢;have hbs:=bs2 z y;clear hz hy;go_enter Tryz.func83,Tryz.ntmps83;go_wp2_with fail;refine(HB.out _).mono ?_;rintro e w2 ⟨rfl,m2⟩;go_wp2_with fail;refine(HO.out _).mono ?_;rintro e w3 ⟨rfl,m3⟩;go_wp2_with fail;go_at_call 47;refine(wsum_c w3.heap.size z y _ (heap_alloc_new _ _)).mono ?_;rintro e w4 ⟨rfl,m4⟩;go_wp2_with fail;go_ret;exact⟨rfl,(m2.then0 m3).then0 (((Mod.refl (fun _=>False) w3).alloc _).then0 m4)⟩
theorem bothK_c (n:Nat) (hn:n<1000000) (u p:UInt64) (bad:Int) (w:World):Calls Tryz.prog 83 #[payF 88 (payR n u p bad),payF 85 (payR n u p bad)] w fun e w'=>e= .returned (u64v (sat (tim (UInt64.ofNat n) 5000/2) (timG p u 1000000 true)))∧Mod (fun _=>False) w w':=by
 have HB:=Hi (fun w=>kept_c n hn u p bad w);have HO:=Hi (fun w=>offer_c n u p bad w);obtain⟨z,hz⟩:∃z,(tim (UInt64.ofNat n) 5000/2)=z:=⟨_,rfl⟩;obtain⟨y,hy⟩:∃y,timG p u 1000000 true=y:=⟨_,rfl⟩;rw[hz]at HB⊢;rw[hy]at HO⊢;have hbs:=bs2 z y;clear hz hy;go_enter Tryz.func83,Tryz.ntmps83;go_wp2_with fail;refine(HB.out _).mono ?_;rintro e w2 ⟨rfl,m2⟩;go_wp2_with fail;refine(HO.out _).mono ?_;rintro e w3 ⟨rfl,m3⟩;go_wp2_with fail;go_at_call 47;refine(wsum_c w3.heap.size z y _ (heap_alloc_new _ _)).mono ?_;rintro e w4 ⟨rfl,m4⟩;go_wp2_with fail;go_ret;exact⟨rfl,(m2.then0 m3).then0 (((Mod.refl (fun _=>False) w3).alloc _).then0 m4)⟩
theorem ldBgd (w:World) (b o:Nat):(Instr.loadAt 56 (.pointer (some ⟨b,o,none⟩))).run Tryz.prog w=
   match w.heap[b]? with
   |some (.cells cs _ _)=>if o+3≤cs.size then .ok (.agg (cs.extract o (o+3))) w else farL Tryz.prog w 56 b o
   |_=>farL Tryz.prog w 56 b o:=load_rule (d:=_) Tryz.underlying56 rfl (by kernel_rfl) w b o
attribute [local go_sem↓] ldBgd
def bgR (u p:UInt64) (bad:Int):Array Value:= #[u64v u,u64v p,.int .i64 bad]
theorem bgR_size (u p:UInt64) (bad:Int):(bgR u p bad).size=3:=rfl
theorem bgR_all (u p:UInt64) (bad:Int):(bgR u p bad).extract 0 3=bgR u p bad:=rfl
attribute [local go_sem] bgR_size bgR_all
theorem bPay (n:Nat) (u p:UInt64) (bad:Int) (w:World):(Instr.build 202 #[(0,.int .i64 (n:Int)),(1,.agg (bgR u p bad))]).run Tryz.prog w= .ok (.agg (payR n u p bad)) w:=by kernel_rfl
theorem fee_c (n:Nat) (hn:n<1000000) (u p:UInt64) (bad:Int) (w:World):Calls Tryz.prog 39 #[.int .i64 (n:Int),.agg (bgR u p bad)] w fun e w'=>e= .returned (u64v (feeF (UInt64.ofNat n) u p))∧Mod (fun _=>False) w w':=by
 have HB:=Hi (fun w=>bothB_c n hn u p bad w);obtain⟨z,hz⟩:∃z,feeF (UInt64.ofNat n) u p=z:=⟨_,rfl⟩;rw[show sat (tim (UInt64.ofNat n) 5000) (timG p u 1000000 true)=z from hz]at HB;rw[hz];have hbp:=bPay n u p bad;have hmf:=hmf;clear hz;go_enter Tryz.func39,Tryz.ntmps39;go_upto_region 0 with fail;refine ZP0 [3,0] ?_;refine Zb fun p3 hp3=> ?_;refine Zv ?_;refine TD.nil (fun w1 hr=> ?_);obtain⟨gp3,kp3⟩:=hr.b p3;have m1:=hr.mod;clear hr;go_upto_region 1 with fail;have Lkp3:=Ls kp3;refine ZP0 [0,1,0,3,4] ?_;refine Zv ?_;refine Zd ?_;refine Zu hbp ?_;refine Za alPay fun p5 hp5=> ?_;refine Zt ?_;refine TD.nil (fun w2 hr=> ?_);replace kp3:=hr.q kp3;obtain⟨gp5,kp5⟩:=hr.b p5;have m2:=m1.then0 hr.mod;clear hr;go_wp2_with fail;go_at_call 83;refine(HB.out _).mono ?_;rintro e w3 ⟨rfl,m3⟩;go_wp2_with fail;go_ret;exact⟨rfl,m2.then0 m3⟩
theorem bs2' (a:UInt64) (w:World):(Instr.buildSlice 213 2 #[(0,u64v a),(1,.int .u64 1)]).run Tryz.prog w= .ok (.slice (some ⟨w.heap.size,0,none⟩) 2 2) (w.alloc (.cells #[u64v a,u64v 1] 25)):=by kernel_rfl
theorem prio_c (n:Nat) (hn:n<1000000) (u p c:UInt64) (bad:Int) (w:World):Calls Tryz.prog 42 #[.int .i64 (n:Int),.agg (bgR u p bad),u64v c] w fun e w'=>e= .returned (u64v (priF (UInt64.ofNat n) u p c))∧Mod (fun _=>False) w w':=by
 have HB:=Hi (fun w=>bothK_c n hn u p bad w);obtain⟨z,hz⟩:∃z,sat (tim (UInt64.ofNat n) 5000/2) (timG p u 1000000 true)=z:=⟨_,rfl⟩;obtain⟨y,hy⟩:∃y,sat c 1=y:=⟨_,rfl⟩;have HR:Hid (priF (UInt64.ofNat n) u p c=timG z 1000000 y false):=Hi (by unfold priF;rw[hz,hy]);rw[hz]at HB;have HY:=Hi hy;have HT:=Hi (fun w=>times_c z 1000000 y false w);have hbp:=bPay n u p bad;have hbs:=bs2' c;have hmf:=hmf;rw[HR.out];obtain⟨x,hx⟩:∃x,timG z 1000000 y false=x:=⟨_,rfl⟩;rw[hx]at HT⊢;clear hz hy hx HR;go_enter Tryz.func42,Tryz.ntmps42;go_upto_region 0 with fail;refine ZP0 [3,0] ?_;refine Zb fun p4 hp4=> ?_;refine Zv ?_;refine TD.nil (fun w1 hr=> ?_);obtain⟨gp4,kp4⟩:=hr.b p4;have m1:=hr.mod;clear hr;go_upto_region 1 with fail;have Lkp4:=Ls kp4;refine ZP0 [0,1,0,3,4] ?_;refine Zv ?_;refine Zd ?_;refine Zu hbp ?_;refine Za alPay fun p7 hp7=> ?_;refine Zt ?_;refine TD.nil (fun w2 hr=> ?_);replace kp4:=hr.q kp4;obtain⟨gp7,kp7⟩:=hr.b p7;have m2:=m1.then0 hr.mod;clear hr;go_wp2_with fail;go_at_call 83;refine(HB.out _).mono ?_;rintro e w3 ⟨rfl,m3⟩;replace m2:=m2.then0 m3;clear m3;go_wp2_with fail;go_at_call 47;refine(wsum_c w3.heap.size c 1 _ (heap_alloc_new _ _)).mono ?_;rintro e w4 ⟨rfl,m4⟩;replace m2:=m2.then0 (((Mod.refl (fun _=>False) w3).alloc _).then0 m4);rw[HY.out];clear m4;go_wp2_with fail;go_at_call 87;refine(HT.out _).mono ?_;rintro e w5 ⟨rfl,m5⟩;go_wp2_with fail;go_ret;exact⟨rfl,m2.then0 m5⟩
end
section
open Go.RowKit Go.Extern.Stop Go.Stop Go.Extern
theorem eiTypeOf (v:Value) (w:World):(Extern.ReflectliteType.typeOf #[.iface 59 v]).run Tryz.prog w= .ok (.iface 240 (.agg #[.pointer (some ⟨4,59,none⟩)])) w:=by kernel_rfl
def cmpM:Array Value→Sem Value:=Extern.ReflectliteType.method fun t=>do Extern.Rtype.noPackHeld "Comparable" t;pure (.bool (←typeInfo t).comparable)
theorem eiComparable (w:World):(cmpM #[.agg #[.pointer (some ⟨4,59,none⟩)]]).run Tryz.prog w= .ok (.bool true) w:=by kernel_rfl
theorem eiMethod (v:Value) (w:World):(Go.method 431 240 v "Comparable").run Tryz.prog w= .ok (177,v) w:=by kernel_rfl
theorem eiNoIs (v:Value) (xT:TypeId) (w:World):(Instr.typeAssert (.iface 59 v) xT 242 true).run Tryz.prog w= .ok (.tuple #[.nilIface,.bool false]) w:=run_typeAssert_lacksB Tryz.underlying242 (by kernel_rfl) (by kernel_rfl) v xT w
theorem eiNoUnwrap (v:Value) (xT:TypeId) (w:World):(Instr.typeAssert (.iface 59 v) xT 245 true).run Tryz.prog w= .ok (.tuple #[.nilIface,.bool false]) w:=run_typeAssert_lacksB Tryz.underlying245 (by kernel_rfl) (by kernel_rfl) v xT w
theorem eiNoUnwraps (v:Value) (xT:TypeId) (w:World):(Instr.typeAssert (.iface 59 v) xT 247 true).run Tryz.prog w= .ok (.tuple #[.nilIface,.bool false]) w:=run_typeAssert_lacksB Tryz.underlying247 (by kernel_rfl) (by kernel_rfl) v xT w
theorem eis_c (a b:Int) (w:World):Calls Tryz.prog 72 #[.iface 59 (.int .i64 a),.iface 59 (.int .i64 b),.bool true] w fun e w'=>e= .returned (.bool (decide (a=b)))∧w'=w:=by
 have nE:=eiNoIs;have uE:=eiNoUnwrap;have vE:=eiNoUnwraps;have heq0:∀w:World,(binOp .eql 183 (.iface 59 (.int .i64 a)) (.iface 59 (.int .i64 b))).run Tryz.prog w= .ok (.bool (a==b)) w:=fun w=>Go.Lib.run_eql_iface_int (P:=Tryz.prog) (k:= .i64) w a b Tryz.underlying183 (by kernel_rfl) Tryz.underlying59;by_cases h:a=b
 ·have hab:(a==b)=true:=by simp[h]
  have heq:∀w:World,(binOp .eql 183 (.iface 59 (.int .i64 a)) (.iface 59 (.int .i64 b))).run Tryz.prog w= .ok (.bool (a==b)) w:=heq0;simp only[hab]at heq;clear heq0;rw[Dt h];subst h;clear hab;go_enter Tryz.func72,Tryz.ntmps72
  go_wp2
  refine wp_loop_rounds 1 ?_;rw[rounds_succ]
  go_wp2
  go_ret;exact⟨rfl,rfl⟩
 ·have hab:(a==b)=false:=by simp[h]
  have heq:∀w:World,(binOp .eql 183 (.iface 59 (.int .i64 a)) (.iface 59 (.int .i64 b))).run Tryz.prog w= .ok (.bool (a==b)) w:=heq0;simp only[hab]at heq;clear heq0;rw[Df h];clear h hab;go_enter Tryz.func72,Tryz.ntmps72
  go_wp2
  refine wp_loop_rounds 1 ?_;rw[rounds_succ]
  go_wp2
  go_ret;exact⟨rfl,rfl⟩
theorem eIs_c (a b:Int) (w:World):Calls Tryz.prog 31 #[.iface 59 (.int .i64 a),.iface 59 (.int .i64 b)] w fun e w'=>e= .returned (.bool (decide (a=b)))∧w'=w:=by
 have h8:= @run_callFunc_extern Tryz.prog 71 _ Extern.ReflectliteType.typeOf Tryz.func71 (by kernel_rfl) (by kernel_rfl) (by kernel_rfl) (by kernel_rfl);have h32:= @run_callFunc_extern Tryz.prog 177 _ cmpM Tryz.func177 (by kernel_rfl) (by kernel_rfl) (by kernel_rfl) (by kernel_rfl);have tT:=eiTypeOf;have cT:=eiComparable;have mR:=eiMethod;have nE:=eiNoIs;have uE:=eiNoUnwrap;have vE:=eiNoUnwraps;go_enter Tryz.func31,Tryz.ntmps31;go_wp2_with fail;go_at_call 72;refine(eis_c a b _).mono ?_;rintro e w2 ⟨rfl,rfl⟩;go_wp2_with fail;go_ret;exact⟨rfl,rfl⟩
theorem wrong_c (a:Int) (w:World):Calls Tryz.prog 33 #[.int .i64 a] w fun e w'=>e= .returned (.bool (!decide (a=0)))∧w'=w:=by
 go_enter Tryz.func33,Tryz.ntmps33;go_wp2_with fail;go_at_call 31;refine(eIs_c a 0 _).mono ?_;rintro e w2 ⟨rfl,rfl⟩;go_wp2_with fail;go_ret;exact⟨by first|rfl|simp,rfl⟩
end
end Go.Proofs.YtceodkliooeccaaGreatDoor