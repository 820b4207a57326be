/- The lemmas of the proof, part XO6: how the program and its data lie in memory, and what its functions do. -/
import Derived.Test.YtceodkliooeccaaGreatDoorXR5
import Derived.Laws.CopyRow
import Derived.Laws.MakeOwn
import Derived.Shelf.Abstract
import Derived.OwnWalk
set_option linter.unusedSimpArgs false
set_option linter.unusedVariables false
set_option linter.unusedSectionVars false

set_option maxRecDepth 20000
set_option maxHeartbeats 6400000
namespace Go.Proofs.YtceodkliooeccaaGreatDoor
open Go.RowKit
open Go.ChangeMaps (setBlock)
attribute [local go_sem↓] eqKey1 ldKey ldSg ldTc stKey stSg stTc wlKey wlTc
attribute [local go_sem] Value.cells cell_blk frozen_blk kc_ext kc_one kc_one0 kc_size one_bool one_int one_map one_ptr one_slice sgc_ext sgc_one' sgc_one0 sgc_size txr0 txr0' txr38 txr38' txr39 txr39' txr_all txr_one txr_one' txr_size zKey_size zTx_size
section
attribute [local go_sem↓] wlMsg ldMsg stMsg ldRole stRole
attribute [local go_sem] mgx_size mgx_ext mgx_one mgx_one0 mg0 mg1 mg2 mg3 mg4 mg37 mg38 mg37' mg38' mgx_hs mg0' mg4' zRole_size
theorem mg1R' {v0:Bool} {h0 h1 h2:UInt8} {ka:Option Addr} {kn kc':Nat} {rc:Key} {ia:Option Addr} {n1 c1:Nat} {la:Option Addr} {n2 c2:Nat} (h:1<(mgx v0 h0 h1 h2 ka kn kc' rc ia n1 c1 la n2 c2).size):(mgx v0 h0 h1 h2 ka kn kc' rc ia n1 c1 la n2 c2)[1]=u8v h0:=at_get (mg1 ..) h
theorem mg2R' {v0:Bool} {h0 h1 h2:UInt8} {ka:Option Addr} {kn kc':Nat} {rc:Key} {ia:Option Addr} {n1 c1:Nat} {la:Option Addr} {n2 c2:Nat} (h:2<(mgx v0 h0 h1 h2 ka kn kc' rc ia n1 c1 la n2 c2).size):(mgx v0 h0 h1 h2 ka kn kc' rc ia n1 c1 la n2 c2)[2]=u8v h1:=at_get (mg2 ..) h
theorem mg3R' {v0:Bool} {h0 h1 h2:UInt8} {ka:Option Addr} {kn kc':Nat} {rc:Key} {ia:Option Addr} {n1 c1:Nat} {la:Option Addr} {n2 c2:Nat} (h:3<(mgx v0 h0 h1 h2 ka kn kc' rc ia n1 c1 la n2 c2).size):(mgx v0 h0 h1 h2 ka kn kc' rc ia n1 c1 la n2 c2)[3]=u8v h2:=at_get (mg3 ..) h
attribute [local go_sem] mg1R' mg2R' mg3R'
theorem bRole3 (k:Key) (a b:Bool) (w:World):(Instr.build 192 #[(0,.agg (kc k)),(1,.bool a),(2,.bool b)]).run Tryz.prog w= .ok (.agg (rcr ⟨k,a,b⟩)) w:=by
 refine run_build_struct (z:= .agg zRole) (places:= #[(0,32),(32,1),(33,1)]) Tryz.underlying192 (fun w=>by kernel_rfl) (fun w=>by kernel_rfl) ?_ w;show Instr.fill _ zRole [(0,_),(1,_),(2,_)]=_;rw[fill_cons (off:=0) (n:=32) rfl (by simp[Value.cells]) (by rw[zRole_size];omega),fill_cons (off:=32) (n:=1) rfl (by simp[Value.cells]) (by rw[wr_size,zRole_size];omega),fill_cons (off:=33) (n:=1) rfl (by simp[Value.cells]) (by rw[wr_size,wr_size,zRole_size];omega)];show some _=some _;congr 1;apply Array.toList_inj.1;have hk:(kc k).toList.length=32:=by simp
 rw[wr_list _ _ _ (by rw[wr_size,wr_size,zRole_size];simp[Value.cells]),wr_list _ _ _ (by rw[wr_size,zRole_size];simp[Value.cells]),wr_list _ _ _ (by rw[zRole_size];simp[Value.cells])];simp only[Value.cells,List.take_zero,List.nil_append,hk];unfold rcr rc kx zRole;have h1:(kc k).toList.take 33=(kc k).toList:=List.take_of_length_le (by omega);have h2:(kc k).toList.drop 34=[]:=List.drop_of_length_le (by omega);have h3:(kc k).toList.take 32=(kc k).toList:=List.take_of_length_le (by omega);have h4:(kc k).toList.drop 33=[]:=List.drop_of_length_le (by omega);simp[List.take_append,List.drop_append,hk,h1,h2,h3,h4]
theorem bsRole (r:Role) (w:World):(Instr.buildSlice 54 1 #[(0,.agg (rcr r))]).run Tryz.prog w= .ok (.slice (some ⟨w.heap.size,0,none⟩) 1 1) (w.alloc (.cells (rcr r) 192)):=by
 obtain⟨i0,z,hi,hz,hz1,hz2,hz3⟩:=rolesT.info;refine run_buildSlice w _ _ 1 _ _ i0 _ Tryz.underlying54 hi hz (by rw[hz1];omega) (by rw[hz1];omega) ?_;rw[hz1];show Instr.fill _ _ [(0,_)]=_;have hs:(rcr r).size=34:=rolesT.size r;rw[fill_cons (off:=0) (n:=34) rfl (by simp[Value.cells,hs]) (by simp[Value.cells,hz3,size_madeCells])];show some (wr _ 0 (rcr r).toList)=_;rw[wr_whole (rcr r) _ (by simp[Value.cells,hs,hz3,size_madeCells])]
theorem ownL_snoc {m:MsP} {l:List Key} {i:Nat} {k:Key} (h:l[i]? =some k):(l.take (i+1)).mapIdx (ownRP m)=(l.take i).mapIdx (ownRP m)++[ownRP m i k]:=by
 obtain⟨hi,_⟩:=List.getElem?_eq_some_iff.1 h;rw[List.take_add_one,h];show(l.take i++[k]).mapIdx (ownRP m)=_;rw[List.mapIdx_append];simp only[List.mapIdx_cons,List.mapIdx_nil,List.length_take];rw[Nat.min_eq_left (by omega)];simp
theorem own11_c (x:RdR) (w:World) (hK:SlAt kc 32 w x.ks.a x.ks.l) (hb:x.ks.l.length≤1000000):Calls Tryz.prog 78 #[.agg (msr x)] w fun e w'=>∃v,e= .returned v∧SlOwn rcr 34 192 w' w.heap.size v (x.ks.l.mapIdx (ownRP (msgP x)))∧Mod (fun _=>False) w w':=by
 obtain⟨n,hn⟩:∃n,x.ks.l.length=n:=⟨_,rfl⟩;obtain⟨s,hs⟩:∃s,x.h0.toNat=s:=⟨_,rfl⟩;obtain⟨a,ha⟩:∃a,x.h1.toNat=a:=⟨_,rfl⟩;obtain⟨c,hc⟩:∃c,x.h2.toNat=c:=⟨_,rfl⟩;have hsb:s<256:=by rw[←hs];exact x.h0.toNat_lt
 have hab:a<256:=by rw[←ha];exact x.h1.toNat_lt
 have hcb:c<256:=by rw[←hc];exact x.h2.toNat_lt
 have hws:IntKind.i64.wrap (s:Int)=(s:Int):=by rw[IntKind.wrap_i64];omega
 have hwa:IntKind.i64.wrap (a:Int)=(a:Int):=by rw[IntKind.wrap_i64];omega
 have hwc:IntKind.i64.wrap (c:Int)=(c:Int):=by rw[IntKind.wrap_i64];omega
 rw[hn]at hb;have HX:=Hi (Ai hK (Ai hn (Ai hs (Ai ha hc))));have hw1:IntKind.i64.wrap ((s:Int)-(a:Int))=(s:Int)-(a:Int):=by rw[IntKind.wrap_i64];omega
 have hw2:IntKind.i64.wrap ((n:Int)-(c:Int))=(n:Int)-(c:Int):=by rw[IntKind.wrap_i64];omega
 show Calls Tryz.prog 78 #[.agg (mgx x.v0 x.h0 x.h1 x.h2 x.ks.a x.ks.l.length x.ks.c x.rc x.ins.a x.ins.l.length x.ins.c x.lks.a x.lks.l.length x.lks.c)] w _;rw[hn];clear hK;go_enter Tryz.func78,Tryz.ntmps78;go_upto_region 0 with fail;refine ZP0 [3,0] ?_;refine Zb fun p1 hp1=> ?_;refine Zv ?_;refine TD.nil (fun w1 hr=> ?_);obtain⟨gp1,kp1⟩:=hr.b p1;have HM1:=Hi hr.mod;have HP1:Hid (w.heap.size≤p1):=Hi gp1;clear hr;go_wp2_with fail;go_loopw [2,15] (fun s2 s15 ws=>∃i:Nat,i≤n∧s15= .int .i64 (i:Int)∧Hid (SlOwn rcr 34 192 ws w.heap.size s2 ((x.ks.l.take i).mapIdx (ownRP (msgP x)))∧s2.ownBlock≠some p1)∧Hid (Mod (fun _=>False) w ws)∧ws.heap[p1]? =some (.cells (mgx x.v0 x.h0 x.h1 x.h2 x.ks.a n x.ks.c x.rc x.ins.a x.ins.l.length x.ins.c x.lks.a x.lks.l.length x.lks.c) 51 (0,0))) (fun _ s15 _=>n-(intOf s15).toNat)
 case atStart=>exact⟨0,Nat.zero_le _,rfl,Hi ⟨SlOwn.nil _ _,fun h=>by cases h⟩,HM1,kp1⟩
 case round=>
  clear kp1;obtain⟨i,hi,rfl,HO,HM,kp1⟩:=hrel;by_cases hlt:i<n
  ·have hd:=Dt hlt;obtain⟨k,hk⟩:∃k,x.ks.l[i]? =some k:=⟨_,List.getElem?_eq_getElem (by have:=HX.out.2.1;omega)⟩;obtain⟨g,o,C,U,fr,hga,kg,he,hle⟩:=(HX.out.1.mod0 HM.out).block hk;have HT:=Hi (ownL_snoc (m:=msgP x) hk);clear hk;go_upto_region 4 with fail;have Lkg:=Ls kg;have Lkp1:=Ls kp1;refine ZP0 [0,0,1,3,0,4] ?_
   iterate 3 first|refine Zv ?_|refine Zd ?_
   refine Za alKey fun p5 hp5=> ?_;refine Zv ?_;refine Zt ?_;refine TD.nil (fun w3 hr=> ?_);replace kg:=hr.q kg;replace kp1:=hr.q kp1;obtain⟨gp5,kp5⟩:=hr.b p5;have HM3:=Hi (HM.out.then0 hr.mod);have HO3:=Hi (HO.out.1.mod0 hr.mod);clear hr he hle kg;go_upto_region 5 with fail;have Lkp1:=Ls kp1;have Lkp5:=Ls kp5;refine ZP [0,1,0,0,0,1,0,0,0] ?_
   iterate 9 first|refine Zv ?_|refine Zd ?_
   refine TD.nil (fun w4 hr=> ?_);replace kp1:=hr.q kp1;replace kp5:=hr.q kp5;have HM4:=Hi (HM3.out.then0 hr.mod);have HO4:=Hi (HO3.out.mod0 hr.mod);clear hr;by_cases hsg:i<s
   ·have hd2:=Dt hsg;obtain⟨wt,hwt⟩:∃q,decide ((i:Int)<(s:Int)-(a:Int))=q:=⟨_,rfl⟩;have HRO:Hid (ownRP (msgP x) i k=⟨k,true,wt⟩):=Hi (by
     unfold ownRP msgP;simp only;rw[HX.out.2.2.1,HX.out.2.2.2.1,if_pos hsg,hd2,hwt])
    go_upto_region 7 with fail;have Lkp1:=Ls kp1;have Lkp5:=Ls kp5;refine ZP [0,0,0,1,0,0,0] ?_
    iterate 7 first|refine Zv ?_|refine Zd ?_
    refine TD.nil (fun w5 hr=> ?_);replace kp1:=hr.q kp1;replace kp5:=hr.q kp5;have HM5:=Hi (HM4.out.then0 hr.mod);have HO5:=Hi (HO4.out.mod0 hr.mod);clear hr;have hb:=bRole3 k true wt;have hbs:=bsRole ⟨k,true,wt⟩;obtain⟨a2,c2,rfl,_⟩:=HO5.out.at rolesT;generalize hll:((x.ks.l.take i).mapIdx (ownRP (msgP x))).length=ll at *;have HLL:Hid (ll=i):=Hi (by rw[←hll,List.length_mapIdx,List.length_take];have:=HX.out.2.1;omega);clear hll;go_upto_region 8 with fail;have Lkp5:=Ls kp5;have Lkp1:=Ls kp1;refine ZP0 [0,1,0,0,0,0,0,0,0,0,0,3,5,0] ?_
    iterate 10 first|refine Zv ?_|refine Zd ?_
    refine Zu hb ?_;refine Zy hbs fun p46 hp46=> ?_;refine Zi fun w6 hr=> ?_;replace kp5:=hr.q kp5;replace kp1:=hr.q kp1;obtain⟨gp46,kp46⟩:=hr.b p46;have HM6:=Hi (HM5.out.then0 hr.mod);obtain⟨v5,w7,hap,hO7,m7,hn7⟩:=SlOwn.append rolesT (q:=[⟨k,true,wt⟩]) (c:=1) (HO5.out.mod0 hr.mod) (SlAt.one kp46 _ rfl (rolesT.size _)) (by have:=HLL.out;simp only[List.length_mapIdx,List.length_take,List.length_singleton];have:=HX.out.2.1;omega) (by decide) HM6.out.size 54;have hlo:=HO5.out.lt;have HO7:Hid (SlOwn rcr 34 192 w7 w.heap.size v5 ((x.ks.l.take (i+1)).mapIdx (ownRP (msgP x)))∧v5.ownBlock≠some p1):=Hi ⟨by rw[HT.out,HRO.out];exact hO7,fun e=>by
     rcases hn7 with h|h
     ·exact HO.out.2 (h.symm.trans e)
     ·rw[h]at e;cases e;have:=Ls kp1;omega⟩
    have HM7:Hid (Mod (fun _=>False) w w7):=Hi (HM6.out.then m7 (fun j hj e=>by have:=(hlo j e).1;omega));replace kp1:=m7.at kp1 (fun e=>HO.out.2 e);clear hr hO7 m7 hn7 hlo hb hbs kp46 kp5;refine ZA hap ?_;refine Ze ?_;refine TE.nil ?_;go_wp2_with fail;go_roundw
    case rel=>exact⟨i+1,by omega,by go_num,HO7,HM7,kp1⟩
    case measure=>simp[intOf];omega
   ·have hd2:=Df hsg;obtain⟨wt,hwt⟩:∃q,decide ((i:Int)<(n:Int)-(c:Int))=q:=⟨_,rfl⟩;have HRO:Hid (ownRP (msgP x) i k=⟨k,false,wt⟩):=Hi (by
     unfold ownRP msgP;simp only;rw[HX.out.2.2.1,HX.out.2.2.2.2,HX.out.2.1,if_neg hsg,hd2,hwt])
    have HM5:=HM4;have HO5:=HO4;have hb:=bRole3 k false wt;have hbs:=bsRole ⟨k,false,wt⟩;obtain⟨a2,c2,rfl,_⟩:=HO5.out.at rolesT;generalize hll:((x.ks.l.take i).mapIdx (ownRP (msgP x))).length=ll at *;have HLL:Hid (ll=i):=Hi (by rw[←hll,List.length_mapIdx,List.length_take];have:=HX.out.2.1;omega);clear hll;go_upto_region 8 with fail;have Lkp5:=Ls kp5;have Lkp1:=Ls kp1;refine ZP0 [0,1,0,0,0,0,0,0,0,0,0,3,5,0] ?_
    iterate 10 first|refine Zv ?_|refine Zd ?_
    refine Zu hb ?_;refine Zy hbs fun p46 hp46=> ?_;refine Zi fun w6 hr=> ?_;replace kp5:=hr.q kp5;replace kp1:=hr.q kp1;obtain⟨gp46,kp46⟩:=hr.b p46;have HM6:=Hi (HM5.out.then0 hr.mod);obtain⟨v5,w7,hap,hO7,m7,hn7⟩:=SlOwn.append rolesT (q:=[⟨k,false,wt⟩]) (c:=1) (HO5.out.mod0 hr.mod) (SlAt.one kp46 _ rfl (rolesT.size _)) (by have:=HLL.out;simp only[List.length_mapIdx,List.length_take,List.length_singleton];have:=HX.out.2.1;omega) (by decide) HM6.out.size 54;have hlo:=HO5.out.lt;have HO7:Hid (SlOwn rcr 34 192 w7 w.heap.size v5 ((x.ks.l.take (i+1)).mapIdx (ownRP (msgP x)))∧v5.ownBlock≠some p1):=Hi ⟨by rw[HT.out,HRO.out];exact hO7,fun e=>by
     rcases hn7 with h|h
     ·exact HO.out.2 (h.symm.trans e)
     ·rw[h]at e;cases e;have:=Ls kp1;omega⟩
    have HM7:Hid (Mod (fun _=>False) w w7):=Hi (HM6.out.then m7 (fun j hj e=>by have:=(hlo j e).1;omega));replace kp1:=m7.at kp1 (fun e=>HO.out.2 e);clear hr hO7 m7 hn7 hlo hb hbs kp46 kp5;refine ZA hap ?_;refine Ze ?_;refine TE.nil ?_;go_wp2_with fail;go_roundw
    case rel=>exact⟨i+1,by omega,by go_num,HO7,HM7,kp1⟩
    case measure=>simp[intOf];omega
  ·have hd:=Df hlt;obtain rfl:n=i:=by omega
   have HF:Hid (SlOwn rcr 34 192 wr w.heap.size _ (x.ks.l.mapIdx (ownRP (msgP x)))):=Hi (by
    have:=HO.out.1;rw[List.take_of_length_le (by have:=HX.out.2.1;omega)]at this;exact this)
   go_wp2_with fail;go_ret;exact⟨_,rfl,HF.out,HM.out⟩
end
section
theorem run_copyN {P:Program} (w:World) (dT sT ty elem:TypeId) (g o dLen dCap:Nat) (a:Addr) (sLen sCap:Nat) (cur:Array Value) (t:TypeId) (cs:List Value) {k m:Nat}
  (hu:P.underlying dT=some (.slice elem)) (hs:(P.info? elem).map (·.size)=some k) (hm:m=Nat.min sLen dLen)
  (hg:w.heap[g]? =some (.cells cur t (0,0))) (hn:cs.length=m*k)
  (hsrc:∀j v,cs[j]? =some v→w.cell? (a.add j)=some v) (hfit:o+cs.length≤cur.size) (h1:∀v∈cs,v.oneCell'=true):
  (Builtin.copy_ #[dT,sT] ty #[.slice (some ⟨g,o,none⟩) dLen dCap,.slice (some a) sLen sCap]).run P w=
   .ok (goInt m) (w.setRow g (cur.toList.take o++cs++cur.toList.drop (o+cs.length)).toArray):=by
 have hl:=run_loadCells_list (P:=P) w a cs hsrc;have hst:=run_storeCells_at P g o t cs 0 cur w hg (by simpa using hfit) h1;cases hq:P.info? elem with
 |none=>simp[hq]at hs
 |some i=>
  have hi:i.size=k:=by simpa[hq] using hs
  simp[Builtin.copy_,run_underlying hu,Builtin.lenOf,Builtin.firstCells,sizeOf,typeInfo,hq,hi,←hm,←hn,hl,hst]
section
variable {α:Type} {f:α→Array Value} {n B:Nat} {P:Program} {T E:TypeId}
theorem sl_cells (hT:ElT P T E f n B) {w:World} {ad:Addr} {q:List α} (hq:SlAt f n w (some ad) q):∀j u,(cellsOf f q)[j]? =some u→w.cell? (ad.add j)=some u:=fun j u hu=>by
 have hj:j<(cellsOf f q).length:=(List.getElem?_eq_some_iff.1 hu).1;rw[cellsOf_len hT.size q]at hj;have hn:=hT.pos;have hd:j/n<q.length:=Nat.div_lt_of_lt_mul (by rw[Nat.mul_comm];exact hj);obtain⟨x,hx⟩:∃x,q[j/n]? =some x:=⟨_,List.getElem?_eq_getElem hd⟩;obtain⟨b,o,C,U,fr,ha,hb,he,hsz⟩:=hq.block hx;cases ha;have hjm:j/n*n+j % n=j:=by rw[Nat.mul_comm];exact Nat.div_add_mod j n
 have hlt:=Nat.mod_lt j hn;have hget:=cellsOf_get hT.size q (j/n) x hx;have hv:(f x)[j % n]? =some u:=by
  have h1:=congrArg (fun L=>L[j % n]?) hget;simp only[List.getElem?_take,List.getElem?_drop,hlt,if_true,hjm]at h1;rw[hu]at h1;simpa using h1.symm
 have hcell:=cell_in hb he hv;have hadd:(⟨b,o,none⟩:Addr).add j=⟨b,o+j/n*n+j % n,none⟩:=by
  rw[Nat.add_assoc,hjm];unfold Addr.add;split<;>simp_all
 rw[hadd];exact hcell
theorem copyT (hT:ElT P T E f n B) {w:World} {q:List α} {ad:Addr} (hq:SlAt f n w (some ad) q) {p cap c:Nat} {cur:Array Value} {ty:TypeId} (hp:w.heap[p]? =some (.cells cur E (0,0))) (hc:cur.size=q.length*n):
  (Builtin.copy_ #[T,T] ty #[.slice (some ⟨p,0,none⟩) q.length cap,.slice (some ad) q.length c]).run P w= .ok (goInt q.length) (setBlock w p (.cells (cellsOf f q).toArray E (0,0))):=by
 obtain⟨i0,z,hi,hz,hz1,hz2,hz3⟩:=hT.info;have hlen:=cellsOf_len hT.size q;have h:=run_copyN (P:=P) (m:=q.length) (k:=n) w T T ty E p 0 q.length cap ad q.length c cur E (cellsOf f q) hT.u (by rw[hi];exact congrArg some hz1) (Nat.min_self _).symm hp hlen (sl_cells hT hq) (by rw[hlen,hc];omega) (fun u hu=>by
  obtain⟨x,_,hx⟩:=List.mem_flatMap.1 hu;exact hT.one x u hx)
 have e:(List.take 0 cur.toList++cellsOf f q++List.drop (0+(cellsOf f q).length) cur.toList).toArray=(cellsOf f q).toArray:=by
  rw[List.take_zero,List.nil_append,List.drop_of_length_le (by rw[Array.length_toList,hc,hlen];omega),List.append_nil]
 rw[h,setRow_blk hp,e]
theorem copyT0 (hT:ElT P T E f n B) (w:World) {p m cap:Nat} {ty:TypeId}:(Builtin.copy_ #[T,T] ty #[.slice (some ⟨p,0,none⟩) m cap,.slice none 0 0]).run P w= .ok (goInt 0) w:=by
 obtain⟨i0,z,hi,hz,hz1,hz2,hz3⟩:=hT.info;exact run_copy_nil (P:=P) w T T ty E ⟨p,0,none⟩ m cap hT.u (by rw[hi];rfl)
theorem makeT (hT:ElT P T E f n B) (m:Nat) (hm:m*B≤281474976710656) (hm2:m≤9223372036854775807):∃cur:Array Value,cur.size=m*n∧∀w:World,(Instr.makeSlice T (.int .i64 (m:Int)) (.int .i64 (m:Int))).run P w= .ok (.slice (some ⟨w.heap.size,0,none⟩) m m) (w.alloc (.cells cur E)):=by
 obtain⟨i0,z,hi,hz,hz1,hz2,hz3⟩:=hT.info;have hB:(i0.bytes:Int)*(m:Int)≤281474976710656:=by
  rw[hz2,←Int.natCast_mul,Nat.mul_comm];omega
 refine⟨madeCells z.cells (m*i0.size),?_,fun w=> ?_⟩
 ·rw[hz1];exact size_madeCells ..
 ·have h:=run_make (P:=P) w T E i0 z hT.u hi hz .i64 .i64 (m:Int) (m:Int) (by omega) (by omega) hB (by omega);simpa using h
theorem NewS.made (hT:ElT P T E f n B) {w:World} {base p:Nat} {q:List α} (hb:base≤p) (hp:w.heap[p]? =some (.cells (cellsOf f q).toArray E (0,0))):NewS f n E base w (.slice (some ⟨p,0,none⟩) q.length q.length) q:=by
 refine .inr ⟨p,_,rfl,hb,hp,fun i x hx=> ?_⟩;have hl:=cellsOf_len hT.size q;have hi:=(List.getElem?_eq_some_iff.1 hx).1;have h1:(i+1)*n≤q.length*n:=Nat.mul_le_mul_right _ hi;rw[Nat.add_mul,Nat.one_mul]at h1;refine⟨?_,by simp[hl];omega⟩;apply Array.toList_inj.1;rw[←cellsOf_get hT.size q i x hx];simp[List.take_drop,Nat.add_comm]
end
end
section
attribute [local go_sem↓] wlLo ldLo stLo wlIn ldIn stIn
theorem txr2 (x:RdR):(txr x)[2]? =some (.int .u8 (x.h0.toNat:Int)):=mx_pre (i:=2) (by simp[rpre])
theorem txr5 (x:RdR):(txr x)[5]? =some (.slice x.ks.a x.ks.l.length x.ks.c):=mx_pre (i:=5) (by simp[rpre])
theorem txr2' (x:RdR) (h:2<(txr x).size):(txr x)[2]= .int .u8 (x.h0.toNat:Int):=at_get (txr2 x) h
theorem txr5' (x:RdR) (h:5<(txr x).size):(txr x)[5]= .slice x.ks.a x.ks.l.length x.ks.c:=at_get (txr5 x) h
theorem txr_hd (x:RdR):(txr x).extract 2 5= #[.int .u8 (x.h0.toNat:Int),.int .u8 (x.h1.toNat:Int),.int .u8 (x.h2.toNat:Int)]:=by
 have:=part_of (pre:=((rpre x).drop 1).take 2) (mid:=[u8v x.h0,u8v x.h1,u8v x.h2]) (post:=((rpre x).drop 6)++(x.rc.l.map bc++(rpost x).take 2)) (a:=2) (b:=5) rfl rfl;simp[txr,mx,rpre]
theorem lor_size (x:LoR):(lor x).size=34:=kx_size _ _
theorem lor_one (x:LoR):(lor x).all (·.oneCell') 0 34=true:=all_of (lor_size x) (kx_one _ _ rfl)
theorem zLo_size:zLo.size=34:=lor_size _
theorem lor32' (x:LoR) (h:32<(lor x).size):(lor x)[32]= .slice x.w.a x.w.l.length x.w.c:=at_get (lor32 x) h
theorem lor33' (x:LoR) (h:33<(lor x).size):(lor x)[33]= .slice x.r.a x.r.l.length x.r.c:=at_get (lor33 x) h
attribute [local go_sem] txr2 txr5 txr2' txr5' txr_hd lor32 lor33 lor32' lor33' zLo_size lor_size lor_one
def loSum (l:List LoR):Nat:=(l.map (fun x=>x.w.l.length+x.r.l.length)).sum
theorem loSum_snoc {l:List LoR} {i:Nat} {x:LoR} (h:l[i]? =some x):loSum (l.take (i+1))=loSum (l.take i)+(x.w.l.length+x.r.l.length):=by
 rw[List.take_add_one,h];simp[loSum]
theorem loSum_leB {l:List LoR} {B:Nat} (h:∀x∈l,x.w.l.length+x.r.l.length≤B):∀i,loSum (l.take i)≤i*B
 |0=>by simp[loSum]
 |i+1=>by
  have ih:=loSum_leB h i;rw[Nat.succ_mul];cases hx:l[i]? with
  |none=>
   have:l.take (i+1)=l.take i:=by rw[List.take_add_one,hx];simp
   rw[this];omega
  |some x=>
   rw[loSum_snoc hx];have:=h x (List.mem_of_getElem? hx);omega
theorem loSum_le {l:List LoR} (h:∀x∈l,x.w.l.length≤1000000∧x.r.l.length≤1000000) (i:Nat):loSum (l.take i)≤i*2000000:=loSum_leB (fun x hx=>by have:=h x hx;omega) i
theorem tot_eq (x:RdR):totP (txP x)=x.ks.l.length+loSum x.lks.l:=by
 simp[totP,txP,msgP,loSum,loP,List.map_map,Function.comp_def]
theorem total_c (x:RdR) (w:World) (h:TxRd w x):Calls Tryz.prog 126 #[.agg (txr x)] w fun e w'=>e= .returned (.int .i64 ((totP (txP x):Nat):Int))∧Mod (fun _=>False) w w':=by
 rw[tot_eq];have HX:=Hi h;obtain⟨nK,hnK⟩:∃n,x.ks.l.length=n:=⟨_,rfl⟩;obtain⟨nL,hnL⟩:∃n,x.lks.l.length=n:=⟨_,rfl⟩;have hbK:nK≤1000000:=by rw[←hnK];exact h.2.1.2
 have hbL:nL≤1000000:=by rw[←hnL];exact h.2.2.2.2.1
 have hT:=loSum_le (l:=x.lks.l) (fun y hy=>⟨(h.2.2.2.2.2 y hy).1.2,(h.2.2.2.2.2 y hy).2.2⟩);have HT:=Hi hT;have HN:=Hi (Ai hnK hnL);rw[hnK];clear h hT;go_enter Tryz.func126,Tryz.ntmps126;go_upto_region 0 with fail;refine ZP0 [3,0] ?_;refine Zb fun p1 hp1=> ?_;refine Zv ?_;refine TD.nil (fun w1 hr=> ?_);obtain⟨gp1,kp1⟩:=hr.b p1;have m1:=hr.mod;clear hr;go_wp2_with fail;go_loopw [3,14] (fun s3 s14 ws=>∃i t:Nat,i≤nL∧s14= .int .i64 (i:Int)∧s3= .int .i64 (t:Int)∧Hid (t=nK+loSum (x.lks.l.take i))∧Mod (fun _=>False) w ws) (fun _ s14 _=>nL-(intOf s14).toNat)
 case atStart=>exact⟨0,nK,by omega,rfl,by first|rfl|simp[hnK],Hi (by simp[loSum]),m1⟩
 case round=>
  obtain⟨i,t,hi,rfl,rfl,HTT,hm⟩:=hrel;by_cases hlt:i<nL
  ·have hd:=Dt hlt;obtain⟨y,hy⟩:∃y,x.lks.l[i]? =some y:=⟨_,List.getElem?_eq_getElem (by omega)⟩;obtain⟨g,o,C,U,fr,hga,kg,he,hle⟩:=((HX.out.mod0 hm).2.2.2.1).block hy;have hy1:=(HX.out.2.2.2.2.2 y (List.mem_of_getElem? hy)).1.2;have hy2:=(HX.out.2.2.2.2.2 y (List.mem_of_getElem? hy)).2.2;have htb:t≤1000000+i*2000000:=by have:=HT.out i;have:=HTT.out;omega
   have HS:=Hi (loSum_snoc hy);obtain⟨a,ha⟩:∃a,y.w.l.length=a:=⟨_,rfl⟩;obtain⟨b,hb⟩:∃b,y.r.l.length=b:=⟨_,rfl⟩;rw[ha]at hy1;rw[hb]at hy2;have hw1:IntKind.i64.wrap ((a:Int)+(b:Int))=((a+b:Nat):Int):=by rw[IntKind.wrap_i64];omega
   obtain⟨s,hs⟩:∃s,a+b=s:=⟨_,rfl⟩;rw[hs]at hw1;have hw2:IntKind.i64.wrap ((t:Int)+(s:Int))=((t+s:Nat):Int):=by rw[IntKind.wrap_i64];omega
   clear hy;go_upto_region 4 with fail;have Lkg:=Ls kg;refine ZP0 [0,1,3,4] ?_;refine Zv ?_;refine Zd ?_;refine Za alLo fun p5 hp5=> ?_;refine Zt ?_;refine TD.nil (fun w3 hr=> ?_);replace kg:=hr.q kg;obtain⟨gp5,kp5⟩:=hr.b p5;have hm3:=hm.then0 hr.mod;clear hr he hle kg;go_wp2_with fail;go_roundw
   case rel=>exact⟨i+1,t+s,by omega,by go_num,rfl,Hi (by rw[HS.out,HTT.out];omega),hm3⟩
   case measure=>simp[intOf];omega
  ·obtain rfl:nL=i:=by omega
   have HE:Hid (t=nK+loSum x.lks.l):=Hi (by
    have:=HTT.out;rw[List.take_of_length_le (by omega)]at this;exact this)
   go_wp2_with fail;go_ret;exact⟨by rw[HE.out];rfl,hm⟩
theorem signed_c (x:RdR) (w:World):Calls Tryz.prog 109 #[.agg (txr x)] w fun e w'=>e= .returned (.bool (signedP (txP x)))∧Mod (fun _=>False) w w':=by
 have hP:signedP (txP x)=(decide (0<x.h0.toNat)&&decide (x.sg.l.length=x.h0.toNat)):=rfl;rw[hP];obtain⟨n,hn⟩:∃n,x.sg.l.length=n:=⟨_,rfl⟩;obtain⟨k,hk⟩:∃k,x.h0.toNat=k:=⟨_,rfl⟩;have hkb:k<256:=by rw[←hk];exact x.h0.toNat_lt
 have hw:IntKind.i64.wrap (k:Int)=(k:Int):=by rw[IntKind.wrap_i64];omega
 rw[hn,hk];go_enter Tryz.func109,Tryz.ntmps109;go_upto_region 0 with fail;refine ZP0 [3,0] ?_;refine Zb fun p1 hp1=> ?_;refine Zv ?_;refine TD.nil (fun w1 hr=> ?_);obtain⟨gp1,kp1⟩:=hr.b p1;have m1:=hr.mod;clear hr;by_cases h0:0<k
 ·have hd1:=Dt h0;by_cases h1:n=k
  ·have hd2:=Dt h1;go_wp2_with fail;go_ret;exact⟨by first|rfl|(simp[h0,h1];done)|(simp[h0,h1];omega),m1⟩
  ·have hd2:=Df h1;go_wp2_with fail;go_ret;exact⟨by first|rfl|(simp[h0,h1];done)|(simp[h0,h1];omega),m1⟩
 ·have hd1:=Df h0;go_wp2_with fail;go_ret;exact⟨by first|rfl|(simp[h0];done)|(simp[h0];omega),m1⟩
theorem few_c (x:RdR) (w:World) (h:TxRd w x):Calls Tryz.prog 112 #[.agg (txr x)] w fun e w'=>e= .returned (.bool (fewP (txP x)))∧Mod (fun _=>False) w w':=by
 have HX:=Hi h;clear h;unfold fewP;obtain⟨t,ht⟩:∃t,totP (txP x)=t:=⟨_,rfl⟩;rw[ht];go_enter Tryz.func112,Tryz.ntmps112;go_upto_region 0 with fail;refine ZP0 [3,0] ?_;refine Zb fun p1 hp1=> ?_;refine Zv ?_;refine TD.nil (fun w1 hr=> ?_);obtain⟨gp1,kp1⟩:=hr.b p1;have m1:=hr.mod;clear hr;go_wp2_with fail;go_at_call 126;refine(total_c x _ (HX.out.mod0 m1)).mono ?_;rintro e w2 ⟨rfl,m2⟩;have m3:=m1.trans m2;rw[ht];go_wp2_with fail;go_ret;exact⟨by first|rfl|(simp;done)|(simp;omega),m3⟩
end
section
attribute [local go_sem↓] wlLo ldLo stLo wlIn ldIn stIn
theorem inrR_size (y:InR):(inr y).size=3:=rfl
theorem inrR_all (y:InR):(inr y).extract 0 3=inr y:=rfl
theorem zInR_size:zIn.size=3:=rfl
attribute [local go_sem] txr2 txr5 txr2' txr5' txr_hd lor32 lor33 lor32' lor33' zLo_size lor_size lor_one inrR_size inrR_all zInR_size
theorem idxL_c (a:Option Addr) (l:List LoR) (c:Nat) (w:World) (hl:SlAt lor 34 w a l) (hb:l.length≤1000000) (p:LoR→Bool) (hF:∀y∈l,∀w1,Mod (fun _=>False) w w1→Calls Tryz.prog 125 #[.agg (lor y)] w1 fun e w'=>e= .returned (.bool (p y))∧Mod (fun _=>False) w1 w'):
  Calls Tryz.prog 141 #[.slice a l.length c,.func (.func 125) #[] #[]] w fun e w'=>(∃r:Int,e= .returned (.int .i64 r)∧decide (r≥0)=l.any p)∧Mod (fun _=>False) w w':=by
 obtain⟨n,hn⟩:∃n,l.length=n:=⟨_,rfl⟩;have HL:=Hi (Ai hl (Ai hF hn));rw[hn]at hb⊢;clear hl hF hn;go_enter Tryz.func141,Tryz.ntmps141;go_wp2_with fail;go_loopw [8] (fun s8 ws=>∃i:Nat,i≤n∧s8= .int .i64 (i:Int)∧Hid ((l.take i).any p=false)∧Mod (fun _=>False) w ws) (fun s8 _=>n-(intOf s8).toNat)
 case atStart=>exact⟨0,Nat.zero_le _,rfl,Hi (by simp),Mod.refl _ _⟩
 case round=>
  obtain⟨i,hi,rfl,HN,hm⟩:=hrel;by_cases hlt:i<n
  ·have hd:=Dt hlt;obtain⟨y,hy⟩:∃y,l[i]? =some y:=⟨_,List.getElem?_eq_getElem (by have:=HL.out.2.2;omega)⟩;obtain⟨g,o,C,U,fr,ha,kg,he,hle⟩:=(HL.out.1.mod0 hm).block hy;have HY:=Hi hy;have HM:=Hi hm;subst ha;skip;clear hy hm;go_wp2_with fail;go_at_call 125;refine(HL.out.2.1 y (List.mem_of_getElem? HY.out) _ HM.out).mono ?_;rintro e w2 ⟨rfl,m2⟩;have hm2:=HM.out.trans m2;have HT:=Hi (show(l.take (i+1)).any p=((l.take i).any p||p y)by rw[List.take_add_one,HY.out];simp);have HW:Hid (p y=true→l.any p=true):=Hi (fun h=>List.any_eq_true.2 ⟨y,List.mem_of_getElem? HY.out,h⟩);clear m2;cases hp:p y with
   |true=>
    have HA:=Hi (HW.out hp);clear hp;go_wp2_with fail;go_ret;exact⟨⟨_,rfl,by rw[HA.out];exact Dt (by omega)⟩,hm2⟩
   |false=>
    have HT2:Hid ((l.take (i+1)).any p=false):=Hi (by rw[HT.out,HN.out,hp];rfl);clear hp;go_wp2_with fail;go_roundw
    case rel=>exact⟨i+1,by omega,by go_num,HT2,hm2⟩
    case measure=>simp[intOf];omega
  ·have hd:=Df hlt;have HE:Hid (l.any p=false):=Hi (by
    have:=HN.out;rw[List.take_of_length_le (by have:=HL.out.2.2;omega)]at this;exact this)
   clear HL HN;go_wp2_with fail;go_ret;exact⟨⟨_,rfl,by rw[HE.out];rfl⟩,hm⟩
theorem contL_c (a:Option Addr) (l:List LoR) (c:Nat) (w:World) (hl:SlAt lor 34 w a l) (hb:l.length≤1000000) (p:LoR→Bool) (hF:∀y∈l,∀w1,Mod (fun _=>False) w w1→Calls Tryz.prog 125 #[.agg (lor y)] w1 fun e w'=>e= .returned (.bool (p y))∧Mod (fun _=>False) w1 w'):
  Calls Tryz.prog 124 #[.slice a l.length c,.func (.func 125) #[] #[]] w fun e w'=>e= .returned (.bool (l.any p))∧Mod (fun _=>False) w w':=by
 have HI:=Hi (idxL_c a l c w hl hb p hF);obtain⟨n,hn⟩:∃n,l.length=n:=⟨_,rfl⟩;obtain⟨b,hbb⟩:∃b,l.any p=b:=⟨_,rfl⟩;have hI:=HI.out;simp only[hn,hbb]at hI;have HI2:=Hi hI;rw[hn,hbb];clear hl hF hb hI HI hn hbb;go_enter Tryz.func124,Tryz.ntmps124;go_wp2_with fail;go_at_call 141;refine HI2.out.mono ?_;rintro e w2 ⟨⟨r,rfl,hr⟩,m2⟩;go_wp2_with fail;go_ret;exact⟨by first|rfl|(rw[←hr])|simp_all,m2⟩
theorem idxI_c (q1 q2:Nat) (a:Option Addr) (l:List InR) (c:Nat) (w:World) (hl:SlAt inr 3 w a l) (hb:l.length≤1000000) (p:InR→Bool) (hF:∀y∈l,∀w1,Mod (fun _=>False) w w1→Calls Tryz.prog 128 #[.agg (inr y),pV q1,pV q2] w1 fun e w'=>e= .returned (.bool (p y))∧Mod (fun _=>False) w1 w'):
  Calls Tryz.prog 142 #[.slice a l.length c,.func (.func 128) #[] #[pV q1,pV q2]] w fun e w'=>(∃r:Int,e= .returned (.int .i64 r)∧decide (r≥0)=l.any p)∧Mod (fun _=>False) w w':=by
 obtain⟨n,hn⟩:∃n,l.length=n:=⟨_,rfl⟩;have HL:=Hi (Ai hl (Ai hF hn));rw[hn]at hb⊢;clear hl hF hn;go_enter Tryz.func142,Tryz.ntmps142;go_wp2_with fail;go_loopw [8] (fun s8 ws=>∃i:Nat,i≤n∧s8= .int .i64 (i:Int)∧Hid ((l.take i).any p=false)∧Mod (fun _=>False) w ws) (fun s8 _=>n-(intOf s8).toNat)
 case atStart=>exact⟨0,Nat.zero_le _,rfl,Hi (by simp),Mod.refl _ _⟩
 case round=>
  obtain⟨i,hi,rfl,HN,hm⟩:=hrel;by_cases hlt:i<n
  ·have hd:=Dt hlt;obtain⟨y,hy⟩:∃y,l[i]? =some y:=⟨_,List.getElem?_eq_getElem (by have:=HL.out.2.2;omega)⟩;obtain⟨g,o,C,U,fr,ha,kg,he,hle⟩:=(HL.out.1.mod0 hm).block hy;have HY:=Hi hy;have HM:=Hi hm;subst ha;skip;clear hy hm;go_wp2_with fail;go_at_call 128;refine(HL.out.2.1 y (List.mem_of_getElem? HY.out) _ HM.out).mono ?_;rintro e w2 ⟨rfl,m2⟩;have hm2:=HM.out.trans m2;have HT:=Hi (show(l.take (i+1)).any p=((l.take i).any p||p y)by rw[List.take_add_one,HY.out];simp);have HW:Hid (p y=true→l.any p=true):=Hi (fun h=>List.any_eq_true.2 ⟨y,List.mem_of_getElem? HY.out,h⟩);clear m2;cases hp:p y with
   |true=>
    have HA:=Hi (HW.out hp);clear hp;go_wp2_with fail;go_ret;exact⟨⟨_,rfl,by rw[HA.out];exact Dt (by omega)⟩,hm2⟩
   |false=>
    have HT2:Hid ((l.take (i+1)).any p=false):=Hi (by rw[HT.out,HN.out,hp];rfl);clear hp;go_wp2_with fail;go_roundw
    case rel=>exact⟨i+1,by omega,by go_num,HT2,hm2⟩
    case measure=>simp[intOf];omega
  ·have hd:=Df hlt;have HE:Hid (l.any p=false):=Hi (by
    have:=HN.out;rw[List.take_of_length_le (by have:=HL.out.2.2;omega)]at this;exact this)
   clear HL HN;go_wp2_with fail;go_ret;exact⟨⟨_,rfl,by rw[HE.out];rfl⟩,hm⟩
theorem contI_c (q1 q2:Nat) (a:Option Addr) (l:List InR) (c:Nat) (w:World) (hl:SlAt inr 3 w a l) (hb:l.length≤1000000) (p:InR→Bool) (hF:∀y∈l,∀w1,Mod (fun _=>False) w w1→Calls Tryz.prog 128 #[.agg (inr y),pV q1,pV q2] w1 fun e w'=>e= .returned (.bool (p y))∧Mod (fun _=>False) w1 w'):
  Calls Tryz.prog 127 #[.slice a l.length c,.func (.func 128) #[] #[pV q1,pV q2]] w fun e w'=>e= .returned (.bool (l.any p))∧Mod (fun _=>False) w w':=by
 have HI:=Hi (idxI_c q1 q2 a l c w hl hb p hF);obtain⟨n,hn⟩:∃n,l.length=n:=⟨_,rfl⟩;obtain⟨b,hbb⟩:∃b,l.any p=b:=⟨_,rfl⟩;have hI:=HI.out;simp only[hn,hbb]at hI;have HI2:=Hi hI;rw[hn,hbb];clear hl hF hb hI HI hn hbb;go_enter Tryz.func127,Tryz.ntmps127;go_wp2_with fail;go_at_call 142;refine HI2.out.mono ?_;rintro e w2 ⟨⟨r,rfl,hr⟩,m2⟩;go_wp2_with fail;go_ret;exact⟨by first|rfl|(rw[←hr])|simp_all,m2⟩
theorem idxB_c (q1:Nat) (a:Option Addr) (l:List UInt8) (c:Nat) (w:World) (hl:SlAt uc 1 w a l) (hb:l.length≤1000000) (p:UInt8→Bool) (hF:∀y∈l,∀w1,Mod (fun _=>False) w w1→Calls Tryz.prog 129 #[u8v y,pV q1] w1 fun e w'=>e= .returned (.bool (p y))∧Mod (fun _=>False) w1 w'):
  Calls Tryz.prog 143 #[.slice a l.length c,.func (.func 129) #[] #[pV q1]] w fun e w'=>(∃r:Int,e= .returned (.int .i64 r)∧decide (r≥0)=l.any p)∧Mod (fun _=>False) w w':=by
 obtain⟨n,hn⟩:∃n,l.length=n:=⟨_,rfl⟩;have HL:=Hi (Ai hl (Ai hF hn));rw[hn]at hb⊢;clear hl hF hn;go_enter Tryz.func143,Tryz.ntmps143;go_wp2_with fail;go_loopw [8] (fun s8 ws=>∃i:Nat,i≤n∧s8= .int .i64 (i:Int)∧Hid ((l.take i).any p=false)∧Mod (fun _=>False) w ws) (fun s8 _=>n-(intOf s8).toNat)
 case atStart=>exact⟨0,Nat.zero_le _,rfl,Hi (by simp),Mod.refl _ _⟩
 case round=>
  obtain⟨i,hi,rfl,HN,hm⟩:=hrel;by_cases hlt:i<n
  ·have hd:=Dt hlt;obtain⟨y,hy⟩:∃y,l[i]? =some y:=⟨_,List.getElem?_eq_getElem (by have:=HL.out.2.2;omega)⟩;obtain⟨g,o,C,U,fr,ha,kg,he,hle⟩:=(HL.out.1.mod0 hm).block hy;have HY:=Hi hy;have HM:=Hi hm;subst ha;have c0:=cellC (j:=0) he (v:=u8v y) rfl;simp only[Nat.mul_one,Nat.add_zero]at c0;clear hy hm;go_wp2_with fail;go_at_call 129;refine(HL.out.2.1 y (List.mem_of_getElem? HY.out) _ HM.out).mono ?_;rintro e w2 ⟨rfl,m2⟩;have hm2:=HM.out.trans m2;have HT:=Hi (show(l.take (i+1)).any p=((l.take i).any p||p y)by rw[List.take_add_one,HY.out];simp);have HW:Hid (p y=true→l.any p=true):=Hi (fun h=>List.any_eq_true.2 ⟨y,List.mem_of_getElem? HY.out,h⟩);clear m2;cases hp:p y with
   |true=>
    have HA:=Hi (HW.out hp);clear hp;go_wp2_with fail;go_ret;exact⟨⟨_,rfl,by rw[HA.out];exact Dt (by omega)⟩,hm2⟩
   |false=>
    have HT2:Hid ((l.take (i+1)).any p=false):=Hi (by rw[HT.out,HN.out,hp];rfl);clear hp;go_wp2_with fail;go_roundw
    case rel=>exact⟨i+1,by omega,by go_num,HT2,hm2⟩
    case measure=>simp[intOf];omega
  ·have hd:=Df hlt;have HE:Hid (l.any p=false):=Hi (by
    have:=HN.out;rw[List.take_of_length_le (by have:=HL.out.2.2;omega)]at this;exact this)
   clear HL HN;go_wp2_with fail;go_ret;exact⟨⟨_,rfl,by rw[HE.out];rfl⟩,hm⟩
theorem contB_c (q1:Nat) (a:Option Addr) (l:List UInt8) (c:Nat) (w:World) (hl:SlAt uc 1 w a l) (hb:l.length≤1000000) (p:UInt8→Bool) (hF:∀y∈l,∀w1,Mod (fun _=>False) w w1→Calls Tryz.prog 129 #[u8v y,pV q1] w1 fun e w'=>e= .returned (.bool (p y))∧Mod (fun _=>False) w1 w'):
  Calls Tryz.prog 130 #[.slice a l.length c,.func (.func 129) #[] #[pV q1]] w fun e w'=>e= .returned (.bool (l.any p))∧Mod (fun _=>False) w w':=by
 have HI:=Hi (idxB_c q1 a l c w hl hb p hF);obtain⟨n,hn⟩:∃n,l.length=n:=⟨_,rfl⟩;obtain⟨b,hbb⟩:∃b,l.any p=b:=⟨_,rfl⟩;have hI:=HI.out;simp only[hn,hbb]at hI;have HI2:=Hi hI;rw[hn,hbb];clear hl hF hb hI HI hn hbb;go_enter Tryz.func130,Tryz.ntmps130;go_wp2_with fail;go_at_call 143;refine HI2.out.mono ?_;rintro e w2 ⟨⟨r,rfl,hr⟩,m2⟩;go_wp2_with fail;go_ret;exact⟨by first|rfl|(rw[←hr])|simp_all,m2⟩
end
section
attribute [local go_sem↓] wlLo ldLo stLo wlIn ldIn stIn ldHdr stHdr
attribute [local go_sem] txr2 txr5 txr2' txr5' txr_hd lor32 lor33 lor32' lor33' zLo_size lor_size lor_one inrR_size inrR_all zInR_size
theorem inrR0 (y:InR):(inr y)[0]? =some (.int .u8 (y.p.toNat:Int)):=rfl
theorem inrR1 (y:InR):(inr y)[1]? =some (.slice y.a.a y.a.l.length y.a.c):=rfl
theorem inrR0' (y:InR) (h:0<(inr y).size):(inr y)[0]= .int .u8 (y.p.toNat:Int):=rfl
theorem inrR1' (y:InR) (h:1<(inr y).size):(inr y)[1]= .slice y.a.a y.a.l.length y.a.c:=rfl
theorem zHdrR_size:zHdr.size=3:=rfl
attribute [local go_sem] inrR0 inrR1 inrR0' inrR1' zHdrR_size
theorem looked1_c (y:LoR) (w:World) (h1:y.w.l.length≤1000000) (h2:y.r.l.length≤1000000):Calls Tryz.prog 125 #[.agg (lor y)] w fun e w'=>e= .returned (.bool (decide (y.w.l.length+y.r.l.length=0)))∧Mod (fun _=>False) w w':=by
 obtain⟨a,ha⟩:∃a,y.w.l.length=a:=⟨_,rfl⟩;obtain⟨b,hb⟩:∃b,y.r.l.length=b:=⟨_,rfl⟩;rw[ha]at h1⊢;rw[hb]at h2⊢;have hw1:IntKind.i64.wrap ((a:Int)+(b:Int))=((a+b:Nat):Int):=by rw[IntKind.wrap_i64];omega
 obtain⟨s,hs⟩:∃s,a+b=s:=⟨_,rfl⟩;rw[hs]at hw1⊢;have HS:=Hi hs;clear hs;go_enter Tryz.func125,Tryz.ntmps125;go_upto_region 0 with fail;refine ZP0 [3,0] ?_;refine Zb fun p1 hp1=> ?_;refine Zv ?_;refine TD.nil (fun w1 hr=> ?_);obtain⟨gp1,kp1⟩:=hr.b p1;have m1:=hr.mod;clear hr;by_cases h0:s=0
 ·have hd1:=Dt h0;have hd2:decide ((s:Int)=0)=true:=Dt (by omega);go_wp2_with fail;go_ret;exact⟨by first|rfl|(simp[h0];done)|(simp[h0];omega),m1⟩
 ·have hd1:=Df h0;have hd2:decide ((s:Int)=0)=false:=Df (by omega);go_wp2_with fail;go_ret;exact⟨by first|rfl|(simp[h0];done)|(simp[h0];omega),m1⟩
theorem looked_eq (x:RdR):lookedP (txP x)= !(x.lks.l.any (fun y=>decide (y.w.l.length+y.r.l.length=0))):=by
 unfold lookedP;show(x.lks.l.map loP).all _=_;rw[List.all_map,List.not_any_eq_all_not];congr 1;funext y;show decide (¬(y.w.l.length+y.r.l.length=0))= !decide (y.w.l.length+y.r.l.length=0);rw[decide_not]
theorem looked_c (x:RdR) (w:World) (h:TxRd w x):Calls Tryz.prog 111 #[.agg (txr x)] w fun e w'=>e= .returned (.bool (lookedP (txP x)))∧Mod (fun _=>False) w w':=by
 rw[looked_eq];have HX:=Hi h;clear h;obtain⟨b,hb⟩:∃b,x.lks.l.any (fun y=>decide (y.w.l.length+y.r.l.length=0))=b:=⟨_,rfl⟩;rw[hb];go_enter Tryz.func111,Tryz.ntmps111;go_upto_region 0 with fail;refine ZP0 [3,0] ?_;refine Zb fun p1 hp1=> ?_;refine Zv ?_;refine TD.nil (fun w1 hr=> ?_);obtain⟨gp1,kp1⟩:=hr.b p1;have m1:=hr.mod;clear hr;have HC:=Hi (contL_c x.lks.a x.lks.l x.lks.c w1 (HX.out.mod0 m1).2.2.2.1 HX.out.2.2.2.2.1 (fun y=>decide (y.w.l.length+y.r.l.length=0)) (fun y hy w2 _=>looked1_c y w2 (HX.out.2.2.2.2.2 y hy).1.2 (HX.out.2.2.2.2.2 y hy).2.2));have hC:=HC.out;rw[hb]at hC;have HC2:=Hi hC;clear hC HC hb;go_wp2_with fail;go_at_call 124;refine HC2.out.mono ?_;rintro e w2 ⟨rfl,m2⟩;have m3:=m1.trans m2;go_wp2_with fail;go_ret;exact⟨by first|rfl|(simp;done)|(cases b<;>rfl),m3⟩
theorem headed_c (x:RdR) (w:World):Calls Tryz.prog 110 #[.agg (txr x)] w fun e w'=>e= .returned (.bool (headedP (txP x)))∧Mod (fun _=>False) w w':=by
 have hP:headedP (txP x)=(decide (x.h1.toNat<x.h0.toNat)&&decide (x.h0.toNat+x.h2.toNat≤x.ks.l.length)):=rfl;rw[hP];obtain⟨n,hn⟩:∃n,x.ks.l.length=n:=⟨_,rfl⟩;obtain⟨a,ha⟩:∃k,x.h0.toNat=k:=⟨_,rfl⟩;obtain⟨b,hb⟩:∃k,x.h1.toNat=k:=⟨_,rfl⟩;obtain⟨c,hc⟩:∃k,x.h2.toNat=k:=⟨_,rfl⟩;have hab:a<256:=by rw[←ha];exact x.h0.toNat_lt
 have hcb:c<256:=by rw[←hc];exact x.h2.toNat_lt
 have hwa:IntKind.i64.wrap (a:Int)=(a:Int):=by rw[IntKind.wrap_i64];omega
 have hwc:IntKind.i64.wrap (c:Int)=(c:Int):=by rw[IntKind.wrap_i64];omega
 have hws:IntKind.i64.wrap ((a:Int)+(c:Int))=((a+c:Nat):Int):=by rw[IntKind.wrap_i64];omega
 obtain⟨s,hs⟩:∃s,a+c=s:=⟨_,rfl⟩;rw[hn,ha,hb,hc,hs];rw[hs]at hws;have HS:=Hi hs;clear hs;go_enter Tryz.func110,Tryz.ntmps110;go_upto_region 0 with fail;refine ZP0 [3,0] ?_;refine Zb fun p1 hp1=> ?_;refine Zv ?_;refine TD.nil (fun w1 hr=> ?_);obtain⟨gp1,kp1⟩:=hr.b p1;have m1:=hr.mod;clear hr;by_cases h0:b<a
 ·have hd1:=Dt h0;by_cases h1:s≤n
  ·have hd2:=Dt h1;go_upto_region 1 with fail;have Lkp1:=Ls kp1;refine ZP0 [0,0,1,3,4] ?_
   iterate 3 first|refine Zv ?_|refine Zd ?_
   refine Za alHdr fun p3 hp3=> ?_;refine Zt ?_;refine TD.nil (fun w2 hr=> ?_);replace kp1:=hr.q kp1;obtain⟨gp3,kp3⟩:=hr.b p3;have m2:=m1.then0 hr.mod;clear hr;go_wp2_with fail;go_ret;exact⟨by first|rfl|(simp[h0,h1];done)|(simp[h0,h1];omega),m2⟩
  ·have hd2:=Df h1;go_upto_region 1 with fail;have Lkp1:=Ls kp1;refine ZP0 [0,0,1,3,4] ?_
   iterate 3 first|refine Zv ?_|refine Zd ?_
   refine Za alHdr fun p3 hp3=> ?_;refine Zt ?_;refine TD.nil (fun w2 hr=> ?_);replace kp1:=hr.q kp1;obtain⟨gp3,kp3⟩:=hr.b p3;have m2:=m1.then0 hr.mod;clear hr;go_wp2_with fail;go_ret;exact⟨by first|rfl|(simp[h0,h1];done)|(simp[h0,h1];omega),m2⟩
 ·have hd1:=Df h0;go_upto_region 1 with fail;have Lkp1:=Ls kp1;refine ZP0 [0,0,1,3,4] ?_
  iterate 3 first|refine Zv ?_|refine Zd ?_
  refine Za alHdr fun p3 hp3=> ?_;refine Zt ?_;refine TD.nil (fun w2 hr=> ?_);replace kp1:=hr.q kp1;obtain⟨gp3,kp3⟩:=hr.b p3;have m2:=m1.then0 hr.mod;clear hr;go_wp2_with fail;go_ret;exact⟨by first|rfl|(simp[h0];done)|(simp[h0];omega),m2⟩
end
section
attribute [local go_sem↓] wlLo ldLo stLo wlIn ldIn stIn
attribute [local go_sem] txr2 txr5 txr2' txr5' txr_hd inrR_size inrR_all zInR_size inrR0 inrR1 inrR0' inrR1'
theorem alIntR (w:World):(Instr.alloc 3 true (.tuple #[])).run Tryz.prog w= .ok (.pointer (some ⟨w.heap.size,0,none⟩)) (w.alloc (.cells #[.int .i64 0] 3)):=by kernel_rfl
theorem point2_c (q1 A:Nat) (c:UInt8) (w:World) (k1:w.heap[q1]? =some (.cells #[.int .i64 (A:Int)] 3 (0,0))):Calls Tryz.prog 129 #[u8v c,pV q1] w fun e w'=>e= .returned (.bool (decide (A≤c.toNat)))∧Mod (fun _=>False) w w':=by
 obtain⟨k,hk⟩:∃k,c.toNat=k:=⟨_,rfl⟩;have hkb:k<256:=by rw[←hk];exact c.toNat_lt
 have hw:IntKind.i64.wrap (k:Int)=(k:Int):=by rw[IntKind.wrap_i64];omega
 show Calls Tryz.prog 129 #[.int .u8 (c.toNat:Int),pV q1] w _;rw[hk];by_cases h:A≤k
 ·have hd:=Dt h;go_enter Tryz.func129,Tryz.ntmps129;go_wp2_with fail;go_ret;exact⟨by first|rfl|(simp[h];done)|(simp[h];omega),Mod.refl _ _⟩
 ·have hd:=Df h;go_enter Tryz.func129,Tryz.ntmps129;go_wp2_with fail;go_ret;exact⟨by first|rfl|(simp[h];done)|(simp[h];omega),Mod.refl _ _⟩
theorem point_eq (K A:Nat) (y:InR):(!pointP K A (inP y))=(decide (y.p.toNat=0)||decide (K≤y.p.toNat)||y.a.l.any (fun c=>decide (A≤c.toNat))):=by
 unfold pointP inP;simp only[Bool.not_and,List.not_all_eq_any_not];rw[←decide_not,←decide_not];congr 1
 ·congr 1
  ·simp
  ·simp
 ·congr 1;funext c;rw[←decide_not];simp
theorem point1_c (q1 q2 A K:Nat) (y:InR) (w:World) (k1:w.heap[q1]? =some (.cells #[.int .i64 (A:Int)] 3 (0,0))) (k2:w.heap[q2]? =some (.cells #[.int .i64 (K:Int)] 3 (0,0))) (hl:SlAt uc 1 w y.a.a y.a.l) (hb:y.a.l.length≤1000000):Calls Tryz.prog 128 #[.agg (inr y),pV q1,pV q2] w fun e w'=>e= .returned (.bool (!pointP K A (inP y)))∧Mod (fun _=>False) w w':=by
 rw[point_eq];obtain⟨k,hk⟩:∃k,y.p.toNat=k:=⟨_,rfl⟩;have hkb:k<256:=by rw[←hk];exact y.p.toNat_lt
 have hw:IntKind.i64.wrap (k:Int)=(k:Int):=by rw[IntKind.wrap_i64];omega
 obtain⟨b,hbb⟩:∃b,y.a.l.any (fun c=>decide (A≤c.toNat))=b:=⟨_,rfl⟩;have HL:=Hi (Ai hl hb);have hmf:=hmf;rw[hk,hbb];clear hl hb;go_enter Tryz.func128,Tryz.ntmps128;go_upto_region 0 with fail;have Lk1:=Ls k1;have Lk2:=Ls k2;refine ZP0 [3,0] ?_;refine Zb fun p3 hp3=> ?_;refine Zv ?_;refine TD.nil (fun w1 hr=> ?_);replace k1:=hr.q k1;replace k2:=hr.q k2;obtain⟨gp3,kp3⟩:=hr.b p3;have m1:=hr.mod;clear hr;by_cases h0:k=0
 ·have hd:=Dt h0;have hd2:decide ((k:Int)=0)=true:=Dt (by omega);go_wp2_with fail;go_ret;exact⟨by first|rfl|(simp[h0];done),m1⟩
 ·have hd:=Df h0;have hd2:decide ((k:Int)=0)=false:=Df (by omega);by_cases h1:K≤k
  ·have hd3:=Dt h1;go_wp2_with fail;go_ret;exact⟨by first|rfl|(simp[h1];done),m1⟩
  ·have hd3:=Df h1;have HC:=Hi (contB_c q1 y.a.a y.a.l y.a.c w1 (HL.out.1.mod0 m1) HL.out.2 (fun c=>decide (A≤c.toNat)) (fun c _ w2 m=>point2_c q1 A c w2 (m.at0 k1)));have hC:=HC.out;rw[hbb]at hC;have HC2:=Hi hC;clear hC HC hbb;go_wp2_with fail;go_at_call 130;refine HC2.out.mono ?_;rintro e w2 ⟨rfl,m2⟩;have m3:=m1.trans m2;go_wp2_with fail;go_ret;exact⟨by first|rfl|(simp[h0,h1];done),m3⟩
theorem pointed_eq (x:RdR):pointedP (txP x)= !(x.ins.l.any (fun y=> !pointP x.ks.l.length (totP (txP x)) (inP y))):=by
 unfold pointedP;show(x.ins.l.map inP).all _=_;rw[List.all_map,List.not_any_eq_all_not];congr 1;funext y;simp only[Bool.not_not];rfl
theorem pointed_c (x:RdR) (w:World) (h:TxRd w x):Calls Tryz.prog 113 #[.agg (txr x)] w fun e w'=>e= .returned (.bool (pointedP (txP x)))∧Mod (fun _=>False) w w':=by
 rw[pointed_eq];have HX:=Hi h;clear h;obtain⟨b,hb⟩:∃b,x.ins.l.any (fun y=> !pointP x.ks.l.length (totP (txP x)) (inP y))=b:=⟨_,rfl⟩;obtain⟨T,hT⟩:∃T,totP (txP x)=T:=⟨_,rfl⟩;obtain⟨n,hn⟩:∃n,x.ks.l.length=n:=⟨_,rfl⟩;have HB:=Hi hb;have HT:=Hi hT;rw[hb];clear hb hT;have hmf:=hmf;go_enter Tryz.func113,Tryz.ntmps113;go_upto_region 0 with fail;refine ZP0 [3,0] ?_;refine Zb fun p1 hp1=> ?_;refine Zv ?_;refine TD.nil (fun w1 hr=> ?_);obtain⟨gp1,kp1⟩:=hr.b p1;have m1:=hr.mod;clear hr;have HM1:=Hi m1;clear m1;go_upto_region 1 with fail;have Lkp1:=Ls kp1;refine ZR (fun _ _ v=>v= .int .i64 (T:Int)) [0,0,1,0,1,2,3,3,4,4] ?_
 iterate 5 first|refine Zv ?_|refine Zd ?_
 (refine Zc ?_ (s:=by intro wq hSq;exact(total_c x wq ((HX.out.mod0 HM1.out).mod0 hSq)).mono (fun e w' h=>⟨_,h.1,by rw[HT.out],h.2⟩));rintro _ hC;subst hC;try simp only[zL]);refine Za alIntR fun p3 hp3=> ?_;refine Za alIntR fun p4 hp4=> ?_;obtain⟨ne_p4_p3,hp4⟩:=Bx.set_none hp4;(refine TD.storeB (d:= ?d13) (T:= ?T13) (y:= ?y13) (p:= ?p13) (b:= ?b13) (v:= ?v13) (by simp only[zK];rfl) rfl (by rfl) ?hd13 ?hop13 ?hev13 ?hx13 ?hb13 ?htag13 (fun w1 hb1=> ?hy13) ?hn13;(case hd13=>rfl);(case hop13=>rfl);(case hev13=>(simp only[zM];(try rfl)));(case hx13=>simp only[zM];try rfl);(case hb13=>first|exact Bx.set_same _ _ _|(simp only[Bx.set_ne _ (Ne.symm ne_p4_p3),Bx.set_ne _ ne_p4_p3,Bx.set_same];rfl));(case hy13=>(go_simp;(try first|with_reducible rfl|(rw[setCell_blk hb1];rfl))));try simp only[zL]);(refine TD.storeB (d:= ?d14) (T:= ?T14) (y:= ?y14) (p:= ?p14) (b:= ?b14) (v:= ?v14) (by simp only[zK];rfl) rfl (by rfl) ?hd14 ?hop14 ?hev14 ?hx14 ?hb14 ?htag14 (fun w1 hb1=> ?hy14) ?hn14;(case hd14=>rfl);(case hop14=>rfl);(case hev14=>(simp only[zM];(try rfl)));(case hx14=>simp only[zM];try rfl);(case hb14=>first|exact Bx.set_same _ _ _|(simp only[Bx.set_ne _ (Ne.symm ne_p4_p3),Bx.set_ne _ ne_p4_p3,Bx.set_same];rfl));(case hy14=>(go_simp;(try first|with_reducible rfl|(rw[setCell_blk hb1];rfl))));try simp only[zL]);refine TD.nil (fun w2 hr=> ?_);replace kp1:=hr.q kp1;obtain⟨gp3,kp3⟩:=hr.b p3 (by first|exact Bx.set_same _ _ _|(simp only[Bx.set_ne _ (Ne.symm ne_p4_p3),Bx.set_ne _ ne_p4_p3,Bx.set_same];rfl));obtain⟨gp4,kp4⟩:=hr.b p4 (by first|exact Bx.set_same _ _ _|(simp only[Bx.set_ne _ (Ne.symm ne_p4_p3),Bx.set_ne _ ne_p4_p3,Bx.set_same];rfl));have HM2:=Hi (HM1.out.then0 hr.mod);clear hr;have HC:=Hi (contI_c p4 p3 x.ins.a x.ins.l x.ins.c w2 (HX.out.mod0 HM2.out).2.2.1.1 HX.out.2.2.1.2.1 (fun y=> !pointP x.ks.l.length (totP (txP x)) (inP y)) (fun y hy w3 m=>point1_c p4 p3 (totP (txP x)) x.ks.l.length y w3 (by rw[HT.out];exact m.at0 kp4) (by rw[hn];exact m.at0 kp3) (((HX.out.mod0 HM2.out).mod0 m).2.2.1.2.2 y hy).1.1 (HX.out.2.2.1.2.2 y hy).1.2));have hC:=HC.out;rw[HB.out]at hC;have HC2:=Hi hC;clear hC HC;go_wp2_with fail;go_at_call 127;refine HC2.out.mono ?_;rintro e w3 ⟨rfl,m3⟩;have m4:=HM2.out.trans m3;go_wp2_with fail;go_ret;exact⟨by first|rfl|(simp;done)|(cases b<;>rfl),m4⟩
end
section
attribute [local go_sem↓] wlLo ldLo stLo wlIn ldIn stIn
attribute [local go_sem] txr2 txr5 txr2' txr5' txr_hd
theorem keyTR:KeyT Tryz.prog 110 kv:=keyIs.keyT
def nv (n:Nat):Value:= .int .i64 (n:Int)
theorem fresh1 (w:World) (a:Obj):(w.alloc a).heap[w.heap.size]? =some a:=by
 unfold World.alloc;rw[Array.getElem?_push,if_pos rfl]
theorem nv_zero (w:World):(zeroValue 3).run Tryz.prog w= .ok (nv 0) w:=by kernel_rfl
def cntM (l:List Key):List (Key×Nat):=l.foldl (fun m k=>put k ((lkp k m).getD 0+1) m) []
theorem cntM_snoc (l:List Key) (k:Key):cntM (l++[k])=put k ((lkp k (cntM l)).getD 0+1) (cntM l):=by simp[cntM]
theorem put_length {ν:Type} (k:Key) (v:ν) (m:List (Key×ν)):(put k v m).length=if(lkp k m).isSome then m.length else m.length+1:=by
 induction m with
 |nil=>rfl
 |cons p r ih=>
  unfold put lkp;by_cases h:p.1=k
  ·simp[h]
  ·simp only[if_neg h,List.length_cons,ih];split<;>simp
theorem snocInd {α:Type} {P:List α→Prop} (h0:P []) (h1:∀l x,P l→P (l++[x])) (l:List α):P l:=by
 have:∀l:List α,P l.reverse:=fun l=>by
  induction l with
  |nil=>exact h0
  |cons x l ih=>rw[List.reverse_cons];exact h1 _ _ ih
 have h:=this l.reverse;rwa[List.reverse_reverse]at h
theorem cntM_lkp (l:List Key) (k:Key):lkp k (cntM l)=if k∈l then some (l.count k)else none:=by
 induction l using snocInd with
 |h0=>rfl
 |h1 l x ih=>
  rw[cntM_snoc,lkp_put];by_cases h:k=x
  ·subst h;rw[if_pos rfl,ih];by_cases hm:k∈l
   ·simp[hm]
   ·simp[hm,List.count_eq_zero.2 hm]
  ·rw[if_neg h,ih];have hx:(x==k)=false:=by simp;exact fun e=>h e.symm
   simp[h,List.count_singleton,hx]
theorem cntM_len (l:List Key):(cntM l).length≤l.length∧((cntM l).length=l.length↔l.Nodup):=by
 induction l using snocInd with
 |h0=>simp[cntM]
 |h1 l x ih=>
  rw[cntM_snoc,put_length,cntM_lkp];have hn:(l++[x]).Nodup↔l.Nodup∧x∉l:=by
   rw[List.nodup_append];simp;intro _;constructor
   ·exact fun h hx=>h x hx rfl
   ·exact fun h a ha e=>h (e▸ha)
  rw[hn,List.length_append,List.length_singleton];by_cases hm:x∈l
  ·simp[hm];omega
  ·simp[hm];exact⟨ih.1,ih.2⟩
theorem once_c (x:RdR) (w:World) (h:TxRd w x):Calls Tryz.prog 114 #[.agg (txr x)] w fun e w'=>e= .returned (.bool (onceP (txP x)))∧Mod (fun _=>False) w w':=by
 have HX:=Hi h;clear h;have hP:onceP (txP x)=decide ((cntM x.ks.l).length=x.ks.l.length):=decide_eq_decide.2 (cntM_len x.ks.l).2.symm;rw[hP];obtain⟨n,hn⟩:∃n,x.ks.l.length=n:=⟨_,rfl⟩;have hbn:n≤1000000:=by rw[←hn];exact HX.out.2.1.2
 have HN:=Hi hn;obtain⟨t,ht⟩:∃t,(cntM x.ks.l).length=t:=⟨_,rfl⟩;have HTT:=Hi ht;rw[hn,ht];clear ht hP;have hmm:= @run_makeMap Tryz.prog;go_enter Tryz.func114,Tryz.ntmps114;go_upto_region 0 with fail;refine ZP0 [3,0] ?_;refine Zb fun p1 hp1=> ?_;refine Zv ?_;refine TD.nil (fun w1 hr=> ?_);obtain⟨gp1,kp1⟩:=hr.b p1;have m1:=hr.mod;clear hr;go_upto_region 2 with fail;have km:(w1.alloc (.map #[] 0)).heap[w1.heap.size]? =some (.map #[] 0):=fresh1 _ _;have m2:Mod (fun _=>False) w1 (w1.alloc (.map #[] 0)):=(Mod.refl _ _).alloc _;have hp1q:p1<w1.heap.size:=Ls kp1;have kp1':=m2.at0 kp1;clear kp1;have kp1:=kp1';clear kp1';generalize w1.alloc (.map #[] 0)=w2 at *;have hq:w.heap.size≤w1.heap.size:=m1.size;generalize w1.heap.size=q at *;have HM2:=Hi (m1.then0 m2);clear m1 m2 hmm;go_wp2_with fail;go_loopw [11] (fun s11 ws=>∃i:Nat,i≤n∧s11= .int .i64 (i:Int)∧(∃es c,ws.heap[q]? =some (.map es c)∧Hid (MapIs kv nv es c (cntM (x.ks.l.take i))))∧Mod (fun j=>j=q) w2 ws) (fun s11 _=>n-(intOf s11).toNat)
 case atStart=>exact⟨0,by omega,rfl,⟨_,_,km,Hi (MapIs.empty kv nv)⟩,Mod.refl _ _⟩
 case round=>
  clear km;obtain⟨i,hi,rfl,⟨es1,cl1,km,HM⟩,hm⟩:=hrel;have kp1:=hm.at kp1 (by omega);have HM3:Hid (Mod (fun j=>j=q) w wr):=Hi ((HM2.out.mono (fun _ _ h=>h.elim)).trans hm);by_cases hlt:i<n
  ·have hd:=Dt hlt;obtain⟨k,hk⟩:∃k,x.ks.l[i]? =some k:=⟨_,List.getElem?_eq_getElem (by have:=HN.out;omega)⟩;obtain⟨g,o,C,U,fr,ha,kl0,he,hle⟩:=HX.out.2.1.1.block hk;have hg:=Ls kl0;have kl:=HM3.out.at kl0 (by omega);have HQB:=Hi (Ls km);clear kl0 hg;go_upto_region 4 with fail;have Lkl:=Ls kl;have Lkm:=Ls km;have Lkp1:=Ls kp1;refine ZP0 [0,1,3,4] ?_;refine Zv ?_;refine Zd ?_;refine Za alKey fun p5 hp5=> ?_;refine Zt ?_;refine TD.nil (fun w3 hr=> ?_);replace kl:=hr.q kl;replace km:=hr.q km;replace kp1:=hr.q kp1;obtain⟨gp5,kp5⟩:=hr.b p5;have HM4:Hid (Mod (fun j=>j=q) w2 w3):=Hi (hm.then0 hr.mod);have hp5:p5≠q:=by have:=HQB.out;omega
   clear hr he hle kl hm;obtain⟨c,hc⟩:∃c,(lkp k (cntM (x.ks.l.take i))).getD 0=c:=⟨_,rfl⟩;have hcb:c≤1000000:=by
    rw[←hc,cntM_lkp];split
    ·have h1:=List.count_le_length (a:=k) (l:=x.ks.l.take i);have h2:=List.length_take_le i x.ks.l;simp only[zE];omega
    ·simp
   have hwr:IntKind.i64.wrap ((c:Int)+1)=((c+1:Nat):Int):=by rw[IntKind.wrap_i64];omega
   have HT1:Hid (cntM (x.ks.l.take (i+1))=put k (c+1) (cntM (x.ks.l.take i))):=Hi (by rw[List.take_add_one,hk,←hc];exact cntM_snoc _ _);have hlk:∀wq es cl,wq.heap[q]? =some (.map es cl)→MapIs kv nv es cl (cntM (x.ks.l.take i))∨MapIs kv nv es cl (put k c (cntM (x.ks.l.take i)))→(Instr.lookup 193 (.map (some q)) (.agg (kc k)) false).run Tryz.prog wq= .ok (.int .i64 (c:Int)) wq:=fun wq es cl hq hM=>by
    rcases hM with hM|hM
    ·have:=hM.lookupD keyTR Tryz.underlying193 (z:=0) nv_zero wq hq k;rw[hc]at this;exact this
    ·have:=hM.lookupD keyTR Tryz.underlying193 (z:=0) nv_zero wq hq k;rw[lkp_put_same,zE]at this;exact this
   have HLK:=Hi hlk;have hen:=fun(wq:World) (hq:wq.heap[q]? =some (.map es1 cl1))=>HM.out.entry keyTR Tryz.underlying193 (z:=0) nv_zero wq hq k;simp only[hc]at hen;have HEN:=Hi hen;clear hlk hen hc hk ha;go_upto_region 5 with fail;have Lkp5:=Ls kp5;have Lkm:=Ls km;have Lkp1:=Ls kp1;refine wp_xpass (T0:=fun _=>False) (K:=fun _ _=>True) (κ:=fun i=>[0,0,6,0,6,0,6].getD i 0) (υ:=fun _=>[]) [0,1] [2,3,4,5,6] (by kernel_rfl) (by kernel_rfl) (Good.true).cl (trivial) (fun _ h=>h.elim) ?_;have gK:=Good.true;refine Zg ?_;refine Zh ?_;refine TG.nil (fun w6 ⟨TR,hr⟩=> ?_);replace kp5:=hr.q kp5;replace km:=hr.q km;replace kp1:=hr.q kp1;clear gK;have HM6:=Hi (HM4.out.then0 hr.mod);obtain⟨st,es2,cl2,hrE,M2,hF⟩:=HEN.out w6 km;have hl6:=HLK.out w6 _ _ km (.inl HM.out);have km7:=heap_setBlock w6 (.map es2 cl2) (Ls km);have mS7:=mod_set w6 q (.map es2 cl2);generalize setBlock w6 q (.map es2 cl2)=w7 at *;have hl7:=HLK.out w7 _ _ km7 (.inr M2);obtain⟨es3,cl3,hrF,M3⟩:=hF w7 (c+1) km7;have km8:=heap_setBlock w7 (.map es3 cl3) (Ls km7);have mS8:=mod_set w7 q (.map es3 cl3);generalize setBlock w7 q (.map es3 cl3)=w8 at *;have HEND:Hid ((∃es cl,w8.heap[q]? =some (.map es cl)∧Hid (MapIs kv nv es cl (cntM (x.ks.l.take (i+1)))))∧Mod (fun j=>j=q) w2 w8):=Hi ⟨⟨_,_,km8,Hi (by rw[HT1.out];exact M3)⟩,(HM6.out.then mS7 (fun _ _ h=>h)).then mS8 (fun _ _ h=>h)⟩;simp only[nv]at hrE hrF;(intro iA hiA hbA;simp only[List.mem_cons,List.not_mem_nil,or_false]at hiA;rcases hiA with rfl|rfl|rfl|rfl|rfl)
   ·clear hbA;(refine eff_look (by simp only[zK];rfl) (by rfl) rfl ?hx9 ?hz9 (by first|exact hl6|exact hl7) ?n9;(case hx9=>simp only[zM];try rfl);(case hz9=>simp only[zM];try rfl);try simp only[zL]);rw[show([2,3,4,5,6]:List Nat).erase 2=[3,4,5,6]from rfl];(intro iA hiA hbA;simp only[List.mem_cons,List.not_mem_nil,or_false]at hiA;rcases hiA with rfl|rfl|rfl|rfl)
    ·clear hbA;refine Zw ?_;rw[show([3,4,5,6]:List Nat).erase 3=[4,5,6]from rfl];(intro iA hiA hbA;simp only[List.mem_cons,List.not_mem_nil,or_false]at hiA;rcases hiA with rfl|rfl|rfl)
     ·clear hbA;(refine eff_entry (by simp only[zK];rfl) (by rfl) rfl ?hx11 ?hz11 hrE ?n11;(case hx11=>simp only[zM];try rfl);(case hz11=>simp only[zM];try rfl);try simp only[zL]);rw[show([4,5,6]:List Nat).erase 4=[5,6]from rfl];(intro iA hiA hbA;simp only[List.mem_cons,List.not_mem_nil,or_false]at hiA;rcases hiA with rfl|rfl)
      ·clear hbA;refine Zw ?_;rw[show([5,6]:List Nat).erase 5=[6]from rfl];(intro iA hiA hbA;simp only[List.mem_cons,List.not_mem_nil,or_false]at hiA;subst hiA)
       ·clear hbA;(refine eff_estore (by simp only[zK];rfl) (by rfl) rfl ?hx13 ?hz13 ?hv13 hrF ?n13;(case hx13=>simp only[zM];try rfl);(case hz13=>simp only[zM];try rfl);(case hv13=>(simp only[zM];(try rfl)));try simp only[zL]);rw[show([6]:List Nat).erase 6=[]from rfl];refine allE_nil ?_;go_wp2_with fail;go_roundw;(exact⟨i+1,by omega,by go_num,HEND.out.1,HEND.out.2⟩);(simp[intOf];omega)
      ·exact no_head (by kernel_rfl) hbA
     ·exact no_head (by kernel_rfl) hbA
     ·exact no_head (by kernel_rfl) hbA
    ·clear hbA;(refine eff_entry (by simp only[zK];rfl) (by rfl) rfl ?hx14 ?hz14 hrE ?n14;(case hx14=>simp only[zM];try rfl);(case hz14=>simp only[zM];try rfl);try simp only[zL]);rw[show([3,4,5,6]:List Nat).erase 4=[3,5,6]from rfl];(intro iA hiA hbA;simp only[List.mem_cons,List.not_mem_nil,or_false]at hiA;rcases hiA with rfl|rfl|rfl)
     ·clear hbA;refine Zw ?_;rw[show([3,5,6]:List Nat).erase 3=[5,6]from rfl];(intro iA hiA hbA;simp only[List.mem_cons,List.not_mem_nil,or_false]at hiA;rcases hiA with rfl|rfl)
      ·clear hbA;refine Zw ?_;rw[show([5,6]:List Nat).erase 5=[6]from rfl];(intro iA hiA hbA;simp only[List.mem_cons,List.not_mem_nil,or_false]at hiA;subst hiA)
       ·clear hbA;(refine eff_estore (by simp only[zK];rfl) (by rfl) rfl ?hx17 ?hz17 ?hv17 hrF ?n17;(case hx17=>simp only[zM];try rfl);(case hz17=>simp only[zM];try rfl);(case hv17=>(simp only[zM];(try rfl)));try simp only[zL]);rw[show([6]:List Nat).erase 6=[]from rfl];refine allE_nil ?_;go_wp2_with fail;go_roundw;(exact⟨i+1,by omega,by go_num,HEND.out.1,HEND.out.2⟩);(simp[intOf];omega)
      ·exact no_head (by kernel_rfl) hbA
     ·clear hbA;refine Zw ?_;rw[show([3,5,6]:List Nat).erase 5=[3,6]from rfl];(intro iA hiA hbA;simp only[List.mem_cons,List.not_mem_nil,or_false]at hiA;rcases hiA with rfl|rfl)
      ·clear hbA;refine Zw ?_;rw[show([3,6]:List Nat).erase 3=[6]from rfl];(intro iA hiA hbA;simp only[List.mem_cons,List.not_mem_nil,or_false]at hiA;subst hiA)
       ·clear hbA;(refine eff_estore (by simp only[zK];rfl) (by rfl) rfl ?hx20 ?hz20 ?hv20 hrF ?n20;(case hx20=>simp only[zM];try rfl);(case hz20=>simp only[zM];try rfl);(case hv20=>(simp only[zM];(try rfl)));try simp only[zL]);rw[show([6]:List Nat).erase 6=[]from rfl];refine allE_nil ?_;go_wp2_with fail;go_roundw;(exact⟨i+1,by omega,by go_num,HEND.out.1,HEND.out.2⟩);(simp[intOf];omega)
      ·exact no_head (by kernel_rfl) hbA
     ·exact no_head (by kernel_rfl) hbA
    ·exact no_head (by kernel_rfl) hbA
    ·exact no_head (by kernel_rfl) hbA
   ·exact no_head (by kernel_rfl) hbA
   ·clear hbA;(refine eff_entry (by simp only[zK];rfl) (by rfl) rfl ?hx21 ?hz21 hrE ?n21;(case hx21=>simp only[zM];try rfl);(case hz21=>simp only[zM];try rfl);try simp only[zL]);rw[show([2,3,4,5,6]:List Nat).erase 4=[2,3,5,6]from rfl];(intro iA hiA hbA;simp only[List.mem_cons,List.not_mem_nil,or_false]at hiA;rcases hiA with rfl|rfl|rfl|rfl)
    ·clear hbA;(refine eff_look (by simp only[zK];rfl) (by rfl) rfl ?hx22 ?hz22 (by first|exact hl6|exact hl7) ?n22;(case hx22=>simp only[zM];try rfl);(case hz22=>simp only[zM];try rfl);try simp only[zL]);rw[show([2,3,5,6]:List Nat).erase 2=[3,5,6]from rfl];(intro iA hiA hbA;simp only[List.mem_cons,List.not_mem_nil,or_false]at hiA;rcases hiA with rfl|rfl|rfl)
     ·clear hbA;refine Zw ?_;rw[show([3,5,6]:List Nat).erase 3=[5,6]from rfl];(intro iA hiA hbA;simp only[List.mem_cons,List.not_mem_nil,or_false]at hiA;rcases hiA with rfl|rfl)
      ·clear hbA;refine Zw ?_;rw[show([5,6]:List Nat).erase 5=[6]from rfl];(intro iA hiA hbA;simp only[List.mem_cons,List.not_mem_nil,or_false]at hiA;subst hiA)
       ·clear hbA;(refine eff_estore (by simp only[zK];rfl) (by rfl) rfl ?hx25 ?hz25 ?hv25 hrF ?n25;(case hx25=>simp only[zM];try rfl);(case hz25=>simp only[zM];try rfl);(case hv25=>(simp only[zM];(try rfl)));try simp only[zL]);rw[show([6]:List Nat).erase 6=[]from rfl];refine allE_nil ?_;go_wp2_with fail;go_roundw;(exact⟨i+1,by omega,by go_num,HEND.out.1,HEND.out.2⟩);(simp[intOf];omega)
      ·exact no_head (by kernel_rfl) hbA
     ·clear hbA;refine Zw ?_;rw[show([3,5,6]:List Nat).erase 5=[3,6]from rfl];(intro iA hiA hbA;simp only[List.mem_cons,List.not_mem_nil,or_false]at hiA;rcases hiA with rfl|rfl)
      ·clear hbA;refine Zw ?_;rw[show([3,6]:List Nat).erase 3=[6]from rfl];(intro iA hiA hbA;simp only[List.mem_cons,List.not_mem_nil,or_false]at hiA;subst hiA)
       ·clear hbA;(refine eff_estore (by simp only[zK];rfl) (by rfl) rfl ?hx28 ?hz28 ?hv28 hrF ?n28;(case hx28=>simp only[zM];try rfl);(case hz28=>simp only[zM];try rfl);(case hv28=>(simp only[zM];(try rfl)));try simp only[zL]);rw[show([6]:List Nat).erase 6=[]from rfl];refine allE_nil ?_;go_wp2_with fail;go_roundw;(exact⟨i+1,by omega,by go_num,HEND.out.1,HEND.out.2⟩);(simp[intOf];omega)
      ·exact no_head (by kernel_rfl) hbA
     ·exact no_head (by kernel_rfl) hbA
    ·exact no_head (by kernel_rfl) hbA
    ·clear hbA;refine Zw ?_;rw[show([2,3,5,6]:List Nat).erase 5=[2,3,6]from rfl];(intro iA hiA hbA;simp only[List.mem_cons,List.not_mem_nil,or_false]at hiA;rcases hiA with rfl|rfl|rfl)
     ·clear hbA;(refine eff_look (by simp only[zK];rfl) (by rfl) rfl ?hx30 ?hz30 (by first|exact hl6|exact hl7) ?n30;(case hx30=>simp only[zM];try rfl);(case hz30=>simp only[zM];try rfl);try simp only[zL]);rw[show([2,3,6]:List Nat).erase 2=[3,6]from rfl];(intro iA hiA hbA;simp only[List.mem_cons,List.not_mem_nil,or_false]at hiA;rcases hiA with rfl|rfl)
      ·clear hbA;refine Zw ?_;rw[show([3,6]:List Nat).erase 3=[6]from rfl];(intro iA hiA hbA;simp only[List.mem_cons,List.not_mem_nil,or_false]at hiA;subst hiA)
       ·clear hbA;(refine eff_estore (by simp only[zK];rfl) (by rfl) rfl ?hx32 ?hz32 ?hv32 hrF ?n32;(case hx32=>simp only[zM];try rfl);(case hz32=>simp only[zM];try rfl);(case hv32=>(simp only[zM];(try rfl)));try simp only[zL]);rw[show([6]:List Nat).erase 6=[]from rfl];refine allE_nil ?_;go_wp2_with fail;go_roundw;(exact⟨i+1,by omega,by go_num,HEND.out.1,HEND.out.2⟩);(simp[intOf];omega)
      ·exact no_head (by kernel_rfl) hbA
     ·exact no_head (by kernel_rfl) hbA
     ·exact no_head (by kernel_rfl) hbA
    ·exact no_head (by kernel_rfl) hbA
   ·exact no_head (by kernel_rfl) hbA
   ·exact no_head (by kernel_rfl) hbA
  ·have hd:=Df hlt;obtain rfl:n=i:=by omega
   have hl:=fun ty=>HM.out.len (P:=Tryz.prog) (ty:=ty) Tryz.underlying193 wr km;rw[List.take_of_length_le (by have:=HN.out;omega)]at hl;rw[HTT.out]at hl;have HF:Hid (Mod (fun _=>False) w wr):=Hi (HM3.out.mono (fun j h1 h2=>by have h3:j=q:=h2;omega));clear hm HM3;by_cases h0:t=n
   ·have hd1:=Dt h0;have hd2:decide ((t:Int)=(n:Int))=true:=Dt (by omega);go_wp2_with fail;go_ret;exact⟨by first|rfl|(simp[h0];done),HF.out⟩
   ·have hd1:=Df h0;have hd2:decide ((t:Int)=(n:Int))=false:=Df (by omega);go_wp2_with fail;go_ret;exact⟨by first|rfl|(simp[h0];done)|(simp[h0];omega),HF.out⟩
end
section
attribute [local go_sem] txr2 txr5 txr2' txr5' txr_hd
abbrev fnV (f:FuncId):Value:= .func (.func f) #[] #[]
def zRule:Array Value:= #[.nilFunc,.int .i64 0]
theorem ldRule (w:World) (b o:Nat):(Instr.loadAt 252 (.pointer (some ⟨b,o,none⟩))).run Tryz.prog w=
   match w.heap[b]? with
   |some (.cells cs _ _)=>if o+2≤cs.size then .ok (.agg (cs.extract o (o+2))) w else farL Tryz.prog w 252 b o
   |_=>farL Tryz.prog w 252 b o:=load_rule (d:=_) Tryz.underlying252 rfl (by kernel_rfl) w b o
theorem stRule (w:World) (b o:Nat) (xs:Array Value):(Instr.storeAt 252 (.pointer (some ⟨b,o,none⟩)) (.agg xs)).run Tryz.prog w=
   match w.heap[b]? with
   |some (.cells cs U (0,0))=>
    if o+2≤cs.size∧xs.size=2∧xs.all (·.oneCell')=true then .ok () (setBlock w b (.cells (if o=0∧2=cs.size then xs else wr cs o xs.toList) U (0,0)))else farS Tryz.prog w 252 b o (.agg xs)
   |_=>farS Tryz.prog w 252 b o (.agg xs):=store_rule (by kernel_rfl) w b o xs
theorem alRule (w:World):(Instr.alloc 252 true (.tuple #[])).run Tryz.prog w= .ok (.pointer (some ⟨w.heap.size,0,none⟩)) (w.alloc (.cells zRule 252)):=
 run_alloc_row (z:= .agg zRule) (fun w=>by kernel_rfl) w
theorem zRule_size:zRule.size=2:=rfl
attribute [local go_sem↓] ldRule stRule
attribute [local go_sem] zRule_size
theorem bRule (f:FuncId) (n:Int) (w:World):(Instr.build 252 #[(0,fnV f),(1,.int .i64 n)]).run Tryz.prog w= .ok (.agg #[fnV f,.int .i64 n]) w:=by kernel_rfl
def rlC:Array Value:= #[fnV 109,.int .i64 6,fnV 110,.int .i64 7,fnV 111,.int .i64 10,fnV 112,.int .i64 3,fnV 113,.int .i64 8,fnV 114,.int .i64 9]
theorem bsRules (w:World):(Instr.buildSlice 253 6 #[(0,.agg #[fnV 109,.int .i64 6]),(1,.agg #[fnV 110,.int .i64 7]),(2,.agg #[fnV 111,.int .i64 10]),(3,.agg #[fnV 112,.int .i64 3]),(4,.agg #[fnV 113,.int .i64 8]),(5,.agg #[fnV 114,.int .i64 9])]).run Tryz.prog w= .ok (.slice (some ⟨w.heap.size,0,none⟩) 6 6) (w.alloc (.cells rlC 252)):=by kernel_rfl
theorem rlC_size:rlC.size=12:=rfl
theorem rlC0:rlC.extract 0 2= #[fnV 109,.int .i64 6]:=rfl
theorem rlC1:rlC.extract 2 4= #[fnV 110,.int .i64 7]:=rfl
theorem rlC2:rlC.extract 4 6= #[fnV 111,.int .i64 10]:=rfl
theorem rlC3:rlC.extract 6 8= #[fnV 112,.int .i64 3]:=rfl
theorem rlC4:rlC.extract 8 10= #[fnV 113,.int .i64 8]:=rfl
theorem rlC5:rlC.extract 10 12= #[fnV 114,.int .i64 9]:=rfl
theorem fn_one (f:FuncId):(fnV f).oneCell'=true:=rfl
theorem fn_one2 (f:FuncId):(Value.func (.func f) #[] #[]).oneCell'=true:=rfl
attribute [local go_sem] fn_one fn_one2
attribute [local go_sem] rlC_size rlC0 rlC1 rlC2 rlC3 rlC4 rlC5
def rP:Nat→TxP→Bool
 |0=>signedP
 |1=>headedP
 |2=>lookedP
 |3=>fewP
 |4=>pointedP
 |_=>onceP
theorem chk_all {x:TxP} (h:∀j,j<6→rP j x=true):chkP x=0:=by
 have h0:signedP x=true:=h 0 (by omega);have h1:headedP x=true:=h 1 (by omega);have h2:lookedP x=true:=h 2 (by omega);have h3:fewP x=true:=h 3 (by omega);have h4:pointedP x=true:=h 4 (by omega);have h5:onceP x=true:=h 5 (by omega);simp[chkP,h0,h1,h2,h3,h4,h5]
theorem chk_a {x:TxP} (h:∀j,j<0→rP j x=true) (hf:rP 0 x=false):chkP x=6:=by
 have h0:0<0→signedP x=true:=h 0;have h1:1<0→headedP x=true:=h 1;have h2:2<0→lookedP x=true:=h 2;have h3:3<0→fewP x=true:=h 3;have h4:4<0→pointedP x=true:=h 4;simp at h0 h1 h2 h3 h4;simp[rP]at hf
 simp_all[chkP]
theorem chk_b {x:TxP} (h:∀j,j<1→rP j x=true) (hf:rP 1 x=false):chkP x=7:=by
 have h0:0<1→signedP x=true:=h 0;have h1:1<1→headedP x=true:=h 1;have h2:2<1→lookedP x=true:=h 2;have h3:3<1→fewP x=true:=h 3;have h4:4<1→pointedP x=true:=h 4;simp at h0 h1 h2 h3 h4;simp[rP]at hf
 simp_all[chkP]
theorem chk_c {x:TxP} (h:∀j,j<2→rP j x=true) (hf:rP 2 x=false):chkP x=10:=by
 have h0:0<2→signedP x=true:=h 0;have h1:1<2→headedP x=true:=h 1;have h2:2<2→lookedP x=true:=h 2;have h3:3<2→fewP x=true:=h 3;have h4:4<2→pointedP x=true:=h 4;simp at h0 h1 h2 h3 h4;simp[rP]at hf
 simp_all[chkP]
theorem chk_d {x:TxP} (h:∀j,j<3→rP j x=true) (hf:rP 3 x=false):chkP x=3:=by
 have h0:0<3→signedP x=true:=h 0;have h1:1<3→headedP x=true:=h 1;have h2:2<3→lookedP x=true:=h 2;have h3:3<3→fewP x=true:=h 3;have h4:4<3→pointedP x=true:=h 4;simp at h0 h1 h2 h3 h4;simp[rP]at hf
 simp_all[chkP]
theorem chk_e {x:TxP} (h:∀j,j<4→rP j x=true) (hf:rP 4 x=false):chkP x=8:=by
 have h0:0<4→signedP x=true:=h 0;have h1:1<4→headedP x=true:=h 1;have h2:2<4→lookedP x=true:=h 2;have h3:3<4→fewP x=true:=h 3;have h4:4<4→pointedP x=true:=h 4;simp at h0 h1 h2 h3 h4;simp[rP]at hf
 simp_all[chkP]
theorem chk_f {x:TxP} (h:∀j,j<5→rP j x=true) (hf:rP 5 x=false):chkP x=9:=by
 have h0:0<5→signedP x=true:=h 0;have h1:1<5→headedP x=true:=h 1;have h2:2<5→lookedP x=true:=h 2;have h3:3<5→fewP x=true:=h 3;have h4:4<5→pointedP x=true:=h 4;simp at h0 h1 h2 h3 h4;simp[rP]at hf
 simp_all[chkP]
theorem rP_step {x:TxP} {i:Nat} (h:∀j,j<i→rP j x=true) (hi:rP i x=true):∀j,j<i+1→rP j x=true:=fun j hj=>by
 by_cases e:j=i
 ·rw[e];exact hi
 ·exact h j (by omega)
theorem check_c (x:RdR) (w:World) (h:TxRd w x):Calls Tryz.prog 75 #[.agg (txr x)] w fun e w'=>e= .returned (.int .i64 ((chkP (txP x):Nat):Int))∧Mod (fun _=>False) w w':=by
 have HX:=Hi h;clear h;obtain⟨r,hr0⟩:∃r,chkP (txP x)=r:=⟨_,rfl⟩;have hb0:=fun w=>bRule 109 6 w;have hb1:=fun w=>bRule 110 7 w;have hb2:=fun w=>bRule 111 10 w;have hb3:=fun w=>bRule 112 3 w;have hb4:=fun w=>bRule 113 8 w;have hb5:=fun w=>bRule 114 9 w;have hbs:=bsRules;clear hr0;go_enter Tryz.func75,Tryz.ntmps75;go_upto_region 0 with fail;refine ZP0 [3,0] ?_;refine Zb fun p1 hp1=> ?_;refine Zv ?_;refine TD.nil (fun w1 hr=> ?_);obtain⟨gp1,kp1⟩:=hr.b p1;have HM1:=Hi hr.mod;clear hr;go_upto_region 1 with fail;have Lkp1:=Ls kp1;refine ZP0 [0,0,0,0,0,0,3,0,0] ?_;refine Zu hb0 ?_;refine Zu hb1 ?_;refine Zu hb2 ?_;refine Zu hb3 ?_;refine Zu hb4 ?_;refine Zu hb5 ?_;refine Zy hbs fun p11 hp11=> ?_
 iterate 2 refine Zv ?_
 refine TD.nil (fun w2 hr=> ?_);replace kp1:=hr.q kp1;obtain⟨gp11,kp11⟩:=hr.b p11;have HM2:=Hi (HM1.out.then0 hr.mod);have kl:=kp11;clear hr hb0 hb1 hb2 hb3 hb4 hb5 hbs kp11;go_wp2_with fail;go_loopw [13] (fun s13 ws=>∃i:Nat,i≤6∧s13= .int .i64 (i:Int)∧Hid (∀j,j<i→rP j (txP x)=true)∧Hid (Mod (fun _=>False) w ws)∧ws.heap[p11]? =some (.cells rlC 252 (0,0))∧ws.heap[p1]? =some (.cells (txr x) 53 (0,0))) (fun s13 _=>6-(intOf s13).toNat)
 case atStart=>exact⟨0,by omega,rfl,Hi (fun j hj=>by omega),HM2,kl,kp1⟩
 case round=>
  clear kl kp1;obtain⟨i,hi,rfl,HI,HM,kl,kp1⟩:=hrel;rcases(by omega:i=0∨i=1∨i=2∨i=3∨i=4∨i=5∨i=6)with rfl|rfl|rfl|rfl|rfl|rfl|rfl
  ·
   obtain⟨b,hb⟩:∃b,signedP (txP x)=b:=⟨_,rfl⟩;have HB:=Hi hb;clear hb;go_upto_region 3 with fail;have Lkl:=Ls kl;have Lkp1:=Ls kp1;refine ZP0 [0,1,3,4] ?_;refine Zv ?_;refine Zd ?_;refine Za alRule fun p4 hp4=> ?_;refine Zt ?_;refine TD.nil (fun w3 hr=> ?_);replace kl:=hr.q kl;replace kp1:=hr.q kp1;obtain⟨gp4,kp4⟩:=hr.b p4;have HM3:=Hi (HM.out.then0 hr.mod);clear hr;go_wp2_with fail;go_at_call 109;refine(signed_c x _).mono ?_;rintro e w4 ⟨rfl,m4⟩;rw[HB.out];have HM4:=Hi (HM3.out.trans m4);replace kl:=m4.at0 kl;replace kp1:=m4.at0 kp1;replace kp4:=m4.at0 kp4;clear m4;cases b with
   |false=>
    have HE:=Hi (chk_a HI.out HB.out);go_wp2_with fail;go_ret;exact⟨by rw[HE.out];rfl,HM4.out⟩
   |true=>
    have HI2:=Hi (rP_step HI.out HB.out);go_wp2_with fail;go_roundw
    case rel=>exact⟨1,by omega,by go_num,HI2,HM4,kl,kp1⟩
    case measure=>simp[intOf]
  ·
   obtain⟨b,hb⟩:∃b,headedP (txP x)=b:=⟨_,rfl⟩;have HB:=Hi hb;clear hb;go_upto_region 3 with fail;have Lkl:=Ls kl;have Lkp1:=Ls kp1;refine ZP0 [0,1,3,4] ?_;refine Zv ?_;refine Zd ?_;refine Za alRule fun p4 hp4=> ?_;refine Zt ?_;refine TD.nil (fun w3 hr=> ?_);replace kl:=hr.q kl;replace kp1:=hr.q kp1;obtain⟨gp4,kp4⟩:=hr.b p4;have HM3:=Hi (HM.out.then0 hr.mod);clear hr;go_wp2_with fail;go_at_call 110;refine(headed_c x _).mono ?_;rintro e w4 ⟨rfl,m4⟩;rw[HB.out];have HM4:=Hi (HM3.out.trans m4);replace kl:=m4.at0 kl;replace kp1:=m4.at0 kp1;replace kp4:=m4.at0 kp4;clear m4;cases b with
   |false=>
    have HE:=Hi (chk_b HI.out HB.out);go_wp2_with fail;go_ret;exact⟨by rw[HE.out];rfl,HM4.out⟩
   |true=>
    have HI2:=Hi (rP_step HI.out HB.out);go_wp2_with fail;go_roundw
    case rel=>exact⟨2,by omega,by go_num,HI2,HM4,kl,kp1⟩
    case measure=>simp[intOf]
  ·
   obtain⟨b,hb⟩:∃b,lookedP (txP x)=b:=⟨_,rfl⟩;have HB:=Hi hb;clear hb;go_upto_region 3 with fail;have Lkl:=Ls kl;have Lkp1:=Ls kp1;refine ZP0 [0,1,3,4] ?_;refine Zv ?_;refine Zd ?_;refine Za alRule fun p4 hp4=> ?_;refine Zt ?_;refine TD.nil (fun w3 hr=> ?_);replace kl:=hr.q kl;replace kp1:=hr.q kp1;obtain⟨gp4,kp4⟩:=hr.b p4;have HM3:=Hi (HM.out.then0 hr.mod);clear hr;go_wp2_with fail;go_at_call 111;refine(looked_c x _ (HX.out.mod0 HM3.out)).mono ?_;rintro e w4 ⟨rfl,m4⟩;rw[HB.out];have HM4:=Hi (HM3.out.trans m4);replace kl:=m4.at0 kl;replace kp1:=m4.at0 kp1;replace kp4:=m4.at0 kp4;clear m4;cases b with
   |false=>
    have HE:=Hi (chk_c HI.out HB.out);go_wp2_with fail;go_ret;exact⟨by rw[HE.out];rfl,HM4.out⟩
   |true=>
    have HI2:=Hi (rP_step HI.out HB.out);go_wp2_with fail;go_roundw
    case rel=>exact⟨3,by omega,by go_num,HI2,HM4,kl,kp1⟩
    case measure=>simp[intOf]
  ·
   obtain⟨b,hb⟩:∃b,fewP (txP x)=b:=⟨_,rfl⟩;have HB:=Hi hb;clear hb;go_upto_region 3 with fail;have Lkl:=Ls kl;have Lkp1:=Ls kp1;refine ZP0 [0,1,3,4] ?_;refine Zv ?_;refine Zd ?_;refine Za alRule fun p4 hp4=> ?_;refine Zt ?_;refine TD.nil (fun w3 hr=> ?_);replace kl:=hr.q kl;replace kp1:=hr.q kp1;obtain⟨gp4,kp4⟩:=hr.b p4;have HM3:=Hi (HM.out.then0 hr.mod);clear hr;go_wp2_with fail;go_at_call 112;refine(few_c x _ (HX.out.mod0 HM3.out)).mono ?_;rintro e w4 ⟨rfl,m4⟩;rw[HB.out];have HM4:=Hi (HM3.out.trans m4);replace kl:=m4.at0 kl;replace kp1:=m4.at0 kp1;replace kp4:=m4.at0 kp4;clear m4;cases b with
   |false=>
    have HE:=Hi (chk_d HI.out HB.out);go_wp2_with fail;go_ret;exact⟨by rw[HE.out];rfl,HM4.out⟩
   |true=>
    have HI2:=Hi (rP_step HI.out HB.out);go_wp2_with fail;go_roundw
    case rel=>exact⟨4,by omega,by go_num,HI2,HM4,kl,kp1⟩
    case measure=>simp[intOf]
  ·
   obtain⟨b,hb⟩:∃b,pointedP (txP x)=b:=⟨_,rfl⟩;have HB:=Hi hb;clear hb;go_upto_region 3 with fail;have Lkl:=Ls kl;have Lkp1:=Ls kp1;refine ZP0 [0,1,3,4] ?_;refine Zv ?_;refine Zd ?_;refine Za alRule fun p4 hp4=> ?_;refine Zt ?_;refine TD.nil (fun w3 hr=> ?_);replace kl:=hr.q kl;replace kp1:=hr.q kp1;obtain⟨gp4,kp4⟩:=hr.b p4;have HM3:=Hi (HM.out.then0 hr.mod);clear hr;go_wp2_with fail;go_at_call 113;refine(pointed_c x _ (HX.out.mod0 HM3.out)).mono ?_;rintro e w4 ⟨rfl,m4⟩;rw[HB.out];have HM4:=Hi (HM3.out.trans m4);replace kl:=m4.at0 kl;replace kp1:=m4.at0 kp1;replace kp4:=m4.at0 kp4;clear m4;cases b with
   |false=>
    have HE:=Hi (chk_e HI.out HB.out);go_wp2_with fail;go_ret;exact⟨by rw[HE.out];rfl,HM4.out⟩
   |true=>
    have HI2:=Hi (rP_step HI.out HB.out);go_wp2_with fail;go_roundw
    case rel=>exact⟨5,by omega,by go_num,HI2,HM4,kl,kp1⟩
    case measure=>simp[intOf]
  ·
   obtain⟨b,hb⟩:∃b,onceP (txP x)=b:=⟨_,rfl⟩;have HB:=Hi hb;clear hb;go_upto_region 3 with fail;have Lkl:=Ls kl;have Lkp1:=Ls kp1;refine ZP0 [0,1,3,4] ?_;refine Zv ?_;refine Zd ?_;refine Za alRule fun p4 hp4=> ?_;refine Zt ?_;refine TD.nil (fun w3 hr=> ?_);replace kl:=hr.q kl;replace kp1:=hr.q kp1;obtain⟨gp4,kp4⟩:=hr.b p4;have HM3:=Hi (HM.out.then0 hr.mod);clear hr;go_wp2_with fail;go_at_call 114;refine(once_c x _ (HX.out.mod0 HM3.out)).mono ?_;rintro e w4 ⟨rfl,m4⟩;rw[HB.out];have HM4:=Hi (HM3.out.trans m4);replace kl:=m4.at0 kl;replace kp1:=m4.at0 kp1;replace kp4:=m4.at0 kp4;clear m4;cases b with
   |false=>
    have HE:=Hi (chk_f HI.out HB.out);go_wp2_with fail;go_ret;exact⟨by rw[HE.out];rfl,HM4.out⟩
   |true=>
    have HI2:=Hi (rP_step HI.out HB.out);go_wp2_with fail;go_roundw
    case rel=>exact⟨6,by omega,by go_num,HI2,HM4,kl,kp1⟩
    case measure=>simp[intOf]
  ·have HE:=Hi (chk_all HI.out);go_wp2_with fail;go_ret;exact⟨by rw[HE.out];rfl,HM.out⟩
end
section
attribute [local go_sem] txr2 txr5 txr2' txr5' txr_hd zTc_size zTc_ext zTc_all zTc_all0
theorem results_ct {P:Program} {fn:Func} {t1 t2:Tmp} {T1:TypeId} {tmps:Array Value} {p1:Addr} {v1:Value} {w:World} (h:fn.results= #[.cell t1 T1,.tmp t2])
  (h1:tmps.getD t1 undef= .pointer (some p1)) (k1:(Instr.loadAt T1 (.pointer (some p1))).run P w= .ok v1 w):(results fn tmps).run P w= .ok (.tuple #[v1,tmps.getD t2 undef]) w:=by
 have l1:(loadVar T1 p1).run P w= .ok v1 w:=by simpa[Instr.loadAt,Instr.sureAddr] using k1
 unfold results;rw[h];have hmap:∀ {α β:Type} (f:α→β) (x:Sem α) (w:World),(f<$>x).run P w=(x.run P w).andThen fun a w=> .ok (f a) w:=fun f x w=>by
  show(x>>=fun a=>pure (f a)).run P w=_;rw[Sem.run_bind];rfl
 simp only[List.mapM_toArray,List.mapM_cons,List.mapM_nil,h1,asAddr,Sem.run_bind,hmap,Sem.run_pure,Result.andThen_ok,l1];rfl
theorem wP_ne (l:List UInt8) (n:Nat) (h:wholeP l= .error n):n≠0:=by
 unfold wholeP at h;split at h
 ·cases h;decide
 ·split at h
  ·rename_i e he;cases h;intro e0;subst e0;exact NE.tx l he
  ·split at h
   ·cases h;decide
   ·cases h
def WhoP (w:World) (l:List UInt8) (e:Ending) (w':World):Prop:=Mod (fun _=>False) w w'∧match wholeP l with
 | .ok x=>∃r,e= .returned (.tuple #[.agg (txr r),i64n 0])∧TxO w.heap.size w' r∧txP r=x∧TxB x
 | .error n=>e= .returned (.tuple #[.agg zTc,i64n n])
theorem whole_c {a:Option Addr} {l:List UInt8} {c:Nat} (w:World) (hl:SlAt uc 1 w a l) (hc:l.length≤c) (hn:a=none→c=0) (hln:l.length≤900000) (hin:∀x,a=some x→x.block<w.heap.size∨l=[]):
  Calls Tryz.prog 74 #[.slice a l.length c] w (WhoP w l):=by
 have HG:=Hi (fun w1 (m:Mod (fun _=>False) w w1)=>pget_c (c:=c) w1 (hl.mod0 m) hc hn hln (by intro x h;exact(hin x h).imp (fun h=>Nat.lt_of_lt_of_le h m.size) id));have hG:=HG.out;obtain⟨ll,hll⟩:∃ll,l.length=ll:=⟨_,rfl⟩;rw[hll]at hG;have HG2:=Hi hG;have HL:=Hi hll;rw[hll];have hbt:=bTx0;have ha1:=alTx;clear hl hc hn hln hin hG HG hll;go_enter Tryz.func74,Tryz.ntmps74;go_upto_region 0 with fail;refine ZP0 [3,0] ?_;refine Za alTc fun p2 hp2=> ?_;refine Zv ?_;refine TD.nil (fun w1 hr=> ?_);obtain⟨gp2,kp2⟩:=hr.b p2;have HM1:=Hi hr.mod;clear hr;by_cases hbig:1232<ll
 ·have HE:Hid (wholeP l= .error 3):=Hi (by unfold wholeP;rw[if_pos (by rw[HL.out];exact hbig)]);go_upto_region 2 with fail;have Lkp2:=Ls kp2;refine ZP0 [0,5,0] ?_;refine Zu hbt ?_;refine Zi fun w2 hr=> ?_;replace kp2:=hr.q kp2;have HM8:=Hi (HM1.out.then0 hr.mod);clear hr;refine ZS ?_;refine ZM kp2 fun wn kp2 mS=> ?_;have HM9:=Hi (HM8.out.thenB mS (.inl gp2));clear mS;refine Ze ?_;refine TE.nil ?_;go_wp2_with fail;refine bodyPost_ret (results_ct rfl rfl (ldTcZ kp2)) rfl ?_;unfold WhoP;rw[HE.out];exact⟨HM9.out,rfl⟩
 ·have hd1:=Df hbig;have hG:=HG2.out w1 HM1.out;go_upto_region 3 with fail;refine region_seq 10 rfl ?_;simp only[List.range,List.range.loop];refine Zq ?_;refine ZC hG ?hout (fun vn wn hR=> ?hret) (fun ch wn hR=> ?hpan)
  case hout=>
   intro w' h;unfold PgetP at h;split at h
   ·obtain⟨_,_,h,_⟩:=h;cases h
   ·cases h.2
  case hpan=>
   exfalso;unfold PgetP at hR;split at hR
   ·obtain⟨_,_,h,_⟩:=hR;cases h
   ·cases hR.2
  case hret=>
  obtain⟨hm,hr⟩:=hR;clear hG;have HM3:=Hi (HM1.out.trans hm);have HP2:=Hi (Ls kp2);replace kp2:=hm.at0 kp2;cases hres:pTx l with
  |error e0=>
   rw[hres]at hr;simp only at hr;cases hr;have he0:((e0:Int) !=0)=true:=by
    have h1:=NE.tx l;rw[NE,hres]at h1;simpa using fun e=>h1 (by rw[e])
   have HE:Hid (wholeP l= .error e0):=Hi (by unfold wholeP;rw[if_neg (by rw[HL.out];exact hbig),hres]);clear hm hres;(try simp only[zL]);obtain⟨w4,rfl⟩:∃w4:World,w4=wn:=⟨_,rfl⟩
   iterate 4 refine Zq ?_
   (refine sq_alloc (by simp only[zK];rfl) (by rfl) rfl alTx (fun p4 wn gp4 kp4 mp4=> ?n13);try simp only[zL]);refine ZT ?_;refine ZQ kp4 fun wn kp4 mS=> ?_
   iterate 2 refine Zq ?_
   refine sq_nil ?_;have HM5:Hid (Mod (fun _=>False) w wn):=Hi ((HM3.out.trans mp4).then mS (fun i hi e=>by have:=HM3.out.size;omega));have hp24:p2<w4.heap.size:=Ls kp2;have kp2':wn.heap[p2]? =some (.cells zTc 53 (0,0)):=mS.at (mp4.at0 kp2) (fun e=>by omega);have kp2:=kp2';clear mS mp4 kp4 kp2' hp24 gp4;obtain⟨w5,rfl⟩:∃w5:World,w5=wn:=⟨_,rfl⟩;go_upto_region 5 with fail;have Lkp2:=Ls kp2;refine ZP0 [0,0,5,0] ?_;refine Zu hbt ?_;refine Zv ?_;refine Zi fun w6 hr=> ?_;replace kp2:=hr.q kp2;have HM8:=Hi (HM5.out.then0 hr.mod);clear hr;refine ZS ?_;refine ZM kp2 fun wn kp2 mS=> ?_;have HM9:=Hi (HM8.out.thenB mS (.inl gp2));clear mS;refine Ze ?_;refine TE.nil ?_;go_wp2_with fail;refine bodyPost_ret (results_ct rfl rfl (ldTcZ kp2)) rfl ?_;unfold WhoP;rw[HE.out];exact⟨HM9.out,rfl⟩
  |ok y=>
   obtain⟨x,k⟩:=y;rw[hres]at hr;obtain⟨v,hv0,hv,hk1⟩:=hr;cases hv0;obtain⟨r,rfl,hrx,hO⟩:=hv.toO;have HB:=Hi (PO.tx x k hres).2;have HO:=Hi hO;have HRX:=Hi hrx;have HK:Hid (k≤ll):=Hi (by rw[←HL.out];exact hk1);clear hm hO hrx hv hk1;(try simp only[zL]);obtain⟨w4,rfl⟩:∃w4:World,w4=wn:=⟨_,rfl⟩
   iterate 4 refine Zq ?_
   (refine sq_alloc (by simp only[zK];rfl) (by rfl) rfl alTx (fun p4 wn gp4 kp4 mp4=> ?n26);try simp only[zL]);refine ZT ?_;refine ZQ kp4 fun wn kp4 mS=> ?_
   iterate 2 refine Zq ?_
   refine sq_nil ?_;replace kp4:wn.heap[p4]? =some (.cells (txr r) 53 (0,0)):=kp4;have m4:Mod (fun _=>False) w4 wn:=mp4.then mS (fun i hi e=>by omega);have HM5:=Hi (HM3.out.trans m4);have HO5:=Hi (HO.out.mod0 m4);have kp2':=m4.at0 kp2;clear kp2;have kp2:=kp2';clear mS mp4 kp2' gp4 m4;obtain⟨w5,rfl⟩:∃w5:World,w5=wn:=⟨_,rfl⟩;by_cases hk:k<ll
   ·have HE:Hid (wholeP l= .error 4):=Hi (by unfold wholeP;rw[if_neg (by rw[HL.out];exact hbig),hres];simp only;rw[if_pos (by rw[HL.out];exact hk)]);clear hres;go_upto_region 7 with fail;have Lkp2:=Ls kp2;refine ZP0 [0,5,0] ?_;refine Zu hbt ?_;refine Zi fun w6 hr=> ?_;replace kp2:=hr.q kp2;have HM8:=Hi (HM5.out.then0 hr.mod);clear hr;refine ZS ?_;refine ZM kp2 fun wn kp2 mS=> ?_;have HM9:=Hi (HM8.out.thenB mS (.inl gp2));clear mS;refine Ze ?_;refine TE.nil ?_;go_wp2_with fail;refine bodyPost_ret (results_ct rfl rfl (ldTcZ kp2)) rfl ?_;unfold WhoP;rw[HE.out];exact⟨HM9.out,rfl⟩
   ·have HE:Hid (wholeP l= .ok x):=Hi (by unfold wholeP;rw[if_neg (by rw[HL.out];exact hbig),hres];simp only;rw[if_neg (by rw[HL.out];exact hk)]);have hd5:=Df hk;clear hres;go_upto_region 8 with fail;have Lkp2:=Ls kp2;have Lkp4:=Ls kp4;refine ZP0 [1,5,0] ?_;refine Zd ?_;refine Zi fun w6 hr=> ?_;replace kp2:=hr.q kp2;replace kp4:=hr.q kp4;have HM8:=Hi (HM5.out.then0 hr.mod);have HO6:=Hi (HO5.out.mod0 hr.mod);clear hr;refine ZS ?_;refine ZM kp2 fun wn kp2 mS=> ?_;have HM9:=Hi (HM8.out.thenB mS (.inl gp2));have HO9:=Hi ((HO6.out.mod mS (Apt.below (fun i e=>by have e':i=p2:=e;have:=HP2.out;omega))).base HM1.out.size);clear mS;refine Ze ?_;refine TE.nil ?_;go_wp2_with fail;refine bodyPost_ret (results_ct rfl rfl (ldTxr kp2)) rfl ?_;unfold WhoP;rw[HE.out];exact⟨HM9.out,r,rfl,HO9.out,HRX.out,HB.out⟩
end
section
theorem wr_get (vs:List Value) (cs:Array Value) (o:Nat) (h:o+vs.length≤cs.size) (t:Nat):(wr cs o vs)[t]? =if o≤t∧t<o+vs.length then vs[t-o]? else cs[t]? :=by
 rw[←Array.getElem?_toList,wr_list vs cs o h];have hl:cs.toList.length=cs.size:=Array.length_toList;by_cases h1:t<o
 ·rw[if_neg (by omega),List.append_assoc,List.getElem?_append_left (by rw[List.length_take];omega),List.getElem?_take,if_pos h1,Array.getElem?_toList]
 ·by_cases h2:t<o+vs.length
  ·rw[if_pos ⟨by omega,h2⟩,List.append_assoc,List.getElem?_append_right (by rw[List.length_take];omega),List.length_take,Nat.min_eq_left (by omega),List.getElem?_append_left (by omega)]
  ·rw[if_neg (by omega),List.getElem?_append_right (by rw[List.length_append,List.length_take];omega),List.length_append,List.length_take,Nat.min_eq_left (by omega),List.getElem?_drop,Array.getElem?_toList];congr 1;omega
theorem row_set {α:Type} {f:α→Array Value} {n o i:Nat} {C:Array Value} {l:List α} (hs:∀x,(f x).size=n) (hrow:∀j y,l[j]? =some y→C.extract (o+j*n) (o+j*n+n)=f y∧o+j*n+n≤C.size) (hi:i<l.length) (x:α):
  ∀j y,(l.set i x)[j]? =some y→(wr C (o+i*n) (f x).toList).extract (o+j*n) (o+j*n+n)=f y∧o+j*n+n≤(wr C (o+i*n) (f x).toList).size:=by
 intro j y hy;have hfl:(f x).toList.length=n:=by rw[Array.length_toList,hs]
 have hii:=(hrow i _ (List.getElem?_eq_getElem hi)).2;rw[wr_size];have hget:=fun t=>wr_get (f x).toList C (o+i*n) (by rw[hfl];exact hii) t;rw[hfl]at hget;by_cases hj:j=i
 ·subst hj;rw[List.getElem?_set_self hi]at hy;cases hy;refine⟨?_,hii⟩;apply Array.ext_getElem?;intro t;rw[Array.getElem?_extract,wr_size];by_cases ht:t<n
  ·rw[if_pos (by omega),hget,if_pos (by omega),Nat.add_sub_cancel_left,Array.getElem?_toList]
  ·rw[if_neg (by omega),Array.getElem?_eq_none (by rw[hs];omega)]
 ·rw[List.getElem?_set_ne (fun e=>hj e.symm)]at hy;obtain⟨h1,h2⟩:=hrow j y hy;refine⟨?_,h2⟩;rw[←h1];apply Array.ext_getElem?;intro t;rw[Array.getElem?_extract,Array.getElem?_extract,wr_size];by_cases ht:t<n
  ·rw[if_pos (by omega),if_pos (by omega),hget,if_neg];intro hh;rcases Nat.lt_or_ge j i with h|h
   ·have:(j+1)*n≤i*n:=Nat.mul_le_mul_right _ h;rw[Nat.add_mul,Nat.one_mul]at this;omega
   ·have:(i+1)*n≤j*n:=Nat.mul_le_mul_right _ (by omega);rw[Nat.add_mul,Nat.one_mul]at this;omega
  ·rw[if_neg (by omega),if_neg (by omega)]
def WAtG {α:Type} (f:α→Array Value) (n:Nat) (w:World) (a:Option Addr) (l:List α):Prop:=l=[]∨∃b o C U,a=some ⟨b,o,none⟩∧w.heap[b]? =some (.cells C U (0,0))∧∀j y,l[j]? =some y→C.extract (o+j*n) (o+j*n+n)=f y∧o+j*n+n≤C.size
section
variable {α:Type} {f:α→Array Value} {n:Nat}
theorem WAtG.sl {w:World} {a:Option Addr} {l:List α} (h:WAtG f n w a l):SlAt f n w a l:=by
 rcases h with h|⟨b,o,C,U,h1,h2,h3⟩
 ·exact .inl h
 ·exact .inr ⟨b,o,C,_,_,h1,h2,h3⟩
theorem WAtG.of {E:TypeId} {b:Nat} {w:World} {a:Option Addr} {m c:Nat} {l:List α} (h:NewS f n E b w (.slice a m c) l):WAtG f n w a l:=by
 rcases h with⟨_,h⟩|⟨g,cur,h1,_,h2,h3⟩
 ·exact .inl h
 ·injection h1 with h1 _ _
  exact .inr ⟨g,0,cur,E,h1,h2,fun j y hy=>by simpa using h3 j y hy⟩
end
inductive Pg
 |y (a:Option Addr) (n:Nat) (h f:UInt8)
 |k (a:Option Addr) (n:Nat) (h f:Key)
 |s (a:Option Addr) (n:Nat) (h f:Sg)
 |r (a:Option Addr) (n:Nat) (h f:Role)
 |z (a:Option Addr) (n c:Nat) (h f:UInt8)
def Pg.a:Pg→Option Addr
 | .y a _ _ _=>a
 | .k a _ _ _=>a
 | .s a _ _ _=>a
 | .r a _ _ _=>a
 | .z a _ _ _ _=>a
def Pg.n:Pg→Nat
 | .y _ n _ _=>n
 | .k _ n _ _=>n
 | .s _ n _ _=>n
 | .r _ n _ _=>n
 | .z _ n _ _ _=>n
end
section
abbrev Pl:=Nat×Option Addr×Nat
def FmL (a:Option Addr) (n:Nat):Prop:=(a=none∧n=0)∨∃g,a=some ⟨g,0,none⟩
section
variable {α:Type} {f:α→Array Value} {n B:Nat} {P:Program} {T E:TypeId}
theorem NewS.fm {b m c:Nat} {w:World} {a:Option Addr} {l:List α} (h:NewS f n E b w (.slice a m c) l):FmL a l.length:=by
 rcases h with⟨h1,h2⟩|⟨g,cur,h1,_⟩
 ·injection h1 with h1 _ _
  subst h1;subst h2;exact .inl ⟨rfl,rfl⟩
 ·injection h1 with h1 _ _
  exact .inr ⟨g,h1⟩
end
def WrL (w:World) (p:Pl):Prop:=FmL p.2.1 p.2.2∧(p.1=0→∃l,l.length=p.2.2∧WAtG uc 1 w p.2.1 l)∧(p.1=1→∃l,l.length=p.2.2∧WAtG kc 32 w p.2.1 l)∧(p.1=2→∃l,l.length=p.2.2∧WAtG sgc 64 w p.2.1 l)∧(p.1=3→∃l,l.length=p.2.2∧WAtG rcr 34 w p.2.1 l)∧(4≤p.1→(∃l,l.length=p.1-4∧WAtG uc 1 w p.2.1 l)∧p.2.2≤p.1-4∧p.1≤900000∧∃g,p.2.1=some ⟨g,0,none⟩)
theorem All2.left {α β:Type} {R:α→β→Prop} {l:List α} {m:List β} (h:All2 R l m):∀x∈l,∃y∈m,R x y:=by
 induction h with
 |nil=>exact fun x h=>by cases h
 | @cons a b l m hx _ ih=>
  intro x hx';rcases List.mem_cons.1 hx' with rfl|hx'
  ·exact⟨b,List.mem_cons_self,hx⟩
  ·obtain⟨y,h1,h2⟩:=ih x hx';exact⟨y,List.mem_cons_of_mem _ h1,h2⟩
theorem WrL.y {b c m:Nat} {w:World} {a:Option Addr} {l:List UInt8} (h:NewS uc 1 5 b w (.slice a m c) l):WrL w (0,a,l.length):=⟨h.fm,fun _=>⟨l,rfl,WAtG.of h⟩,fun e=>(by cases e),fun e=>(by cases e),fun e=>(by cases e),fun e=>absurd (show 4≤0 from e) (by decide)⟩
theorem WrL.k {b c m:Nat} {w:World} {a:Option Addr} {l:List Key} (h:NewS kc 32 110 b w (.slice a m c) l):WrL w (1,a,l.length):=⟨h.fm,fun e=>(by cases e),fun _=>⟨l,rfl,WAtG.of h⟩,fun e=>(by cases e),fun e=>(by cases e),fun e=>absurd (show 4≤1 from e) (by decide)⟩
theorem WrL.s {b c m:Nat} {w:World} {a:Option Addr} {l:List Sg} (h:NewS sgc 64 103 b w (.slice a m c) l):WrL w (2,a,l.length):=⟨h.fm,fun e=>(by cases e),fun e=>(by cases e),fun _=>⟨l,rfl,WAtG.of h⟩,fun e=>(by cases e),fun e=>absurd (show 4≤2 from e) (by decide)⟩
theorem WrL.r {b c m:Nat} {w:World} {a:Option Addr} {l:List Role} (h:NewS rcr 34 192 b w (.slice a m c) l):WrL w (3,a,l.length):=⟨h.fm,fun e=>(by cases e),fun e=>(by cases e),fun e=>(by cases e),fun _=>⟨l,rfl,WAtG.of h⟩,fun e=>absurd (show 4≤3 from e) (by decide)⟩
theorem WrL.z {w:World} {g n c:Nat} {l:List UInt8} (hl:l.length=c) (hn:n≤c) (hc:c≤800000) (h:WAtG uc 1 w (some ⟨g,0,none⟩) l):WrL w (4+c,some ⟨g,0,none⟩,n):=
 ⟨.inr ⟨g,rfl⟩,fun e=>absurd e (by show¬4+c=0;omega),fun e=>absurd e (by show¬4+c=1;omega),fun e=>absurd e (by show¬4+c=2;omega),fun e=>absurd e (by show¬4+c=3;omega),fun _=>⟨⟨l,by show l.length=4+c-4;omega,h⟩,by show n≤4+c-4;omega,by show 4+c≤900000;omega,g,rfl⟩⟩
end
theorem ns_rd {α:Type} {f:α→Array Value} {n:Nat} {E:TypeId} {b m c:Nat} {w:World} {a:Option Addr} {l:List α} (h:NewS f n E b w (.slice a m c) l):SlAt f n w a l:=(WAtG.of h).sl
theorem so_rd {α:Type} {P:Program} {T E:TypeId} {f:α→Array Value} {n B:Nat} (hT:ElT P T E f n B) {w:World} {base m c:Nat} {a:Option Addr} {l:List α} (h:SlOwn f n E w base (.slice a m c) l):SlAt f n w a l:=by
 obtain⟨a',c',e,hs,_⟩:=h.at hT;injection e with e _ _
 rw[e];exact hs
theorem TxO.rd {b:Nat} {w:World} {x:RdR} (h:TxO b w x) (hB:TxB (txP x)):TxRd w x:=by
 obtain⟨h1,h2,h3,h4,h5,h6,h7⟩:=h;obtain⟨b1,b2,⟨b3,b4⟩,b5,b6⟩:=hB;simp only[txP,msgP,List.length_map]at b1 b2 b3 b4 b5 b6;refine⟨⟨ns_rd h1,by omega⟩,⟨ns_rd h2,by omega⟩,⟨ns_rd h3,by omega,fun i hi=> ?_⟩,ns_rd h5,by omega,fun i hi=> ?_⟩
 ·obtain⟨y,hy,_,e2,e3,e4,e5⟩:=h4.1.left i hi;have hb:=b4 y hy;rw[←e2]at e4;rw[←e3]at e5;exact⟨⟨ns_rd e4,by rw[e2];exact Nat.le_trans hb.1 (by decide)⟩,⟨ns_rd e5,by rw[e3];exact Nat.le_trans hb.2 (by decide)⟩⟩
 ·obtain⟨y,hy,_,e2,e3,e4,e5⟩:=h6.1.left i hi;have hb:=b6 y hy;rw[←e2]at e4;rw[←e3]at e5;exact⟨⟨ns_rd e4,by rw[e2];exact Nat.le_trans hb.1 (by decide)⟩,⟨ns_rd e5,by rw[e3];exact Nat.le_trans hb.2 (by decide)⟩⟩
theorem decL_B:∀ {n:Nat} {L:List UInt8} {xs:List TxP} {R:List UInt8},decL n L=some (xs,R)→∀x∈xs,TxB x
 |0,L,xs,R,h=>by
  rw[decL]at h;cases h;exact fun x hx=>by cases hx
 |n+1,L,xs,R,h=>by
  rw[decL]at h;cases hp:pTx L with
  |error e=>rw[hp]at h;cases h
  |ok y=>
   obtain⟨x,k⟩:=y;rw[hp]at h;simp only at h;split at h
   ·cases hd:decL n (L.drop k)with
    |none=>rw[hd]at h;cases h
    |some z=>
     rw[hd]at h;simp only[Option.map_some,Option.some.injEq,Prod.mk.injEq]at h;obtain⟨rfl,_⟩:=h;intro q hq;rcases List.mem_cons.1 hq with rfl|hq
     ·exact(PO.tx _ _ hp).2
     ·exact decL_B (xs:=z.1) (R:=z.2) hd q hq
   ·cases h
theorem decP_B {l:List UInt8} {xs:List TxP} (h:decP l=some xs):∀x∈xs,TxB x:=by
 unfold decP at h;split at h
 ·cases h
 ·split at h
  ·rename_i ys hd;cases h;exact decL_B hd
  ·cases h
section
attribute [local go_sem] txr2 txr5 txr2' txr5' txr_hd zTc_size zTc_ext zTc_all zTc_all0
theorem chk_ne {l:List UInt8} {n:Nat} (h:wireP l= .error n):n≠0:=by
 unfold wireP at h;split at h
 ·rename_i e he;cases h;exact wP_ne l n he
 ·split at h
  ·cases h
  ·cases h;assumption
def WirP (w:World) (l:List UInt8) (e:Ending) (w':World):Prop:=Mod (fun _=>False) w w'∧match wireP l with
 | .ok x=>∃r,e= .returned (.tuple #[.agg (txr r),i64n 0])∧TxO w.heap.size w' r∧txP r=x∧TxB x
 | .error n=>e= .returned (.tuple #[.agg zTc,i64n n])
def G2 (p2 p3:Nat) (X:Array Value) (E:Int):Land:=fun T w=>(T p2∧w.heap[p2]? =some (.cells X 53 (0,0)))∧(T p3∧w.heap[p3]? =some (.cells #[.int .i64 E] 59 (0,0)))
theorem ldX {w:World} {p:Nat} {X:Array Value} (hX:X.size=40) (h:w.heap[p]? =some (.cells X 53 (0,0))):(Instr.loadAt 53 (pV p)).run Tryz.prog w= .ok (.agg X) w:=by
 rw[ldTc,h];have:X.extract 0 40=X:=by rw[←hX];simp
 simp[hX,this]
theorem wire1_c {p2 p3 n:Nat} {X:Array Value} {w:World} (h2:w.heap[p2]? =some (.cells X 53 (0,0))) (h3:w.heap[p3]? =some (.cells #[.int .i64 (n:Int)] 59 (0,0))) (hX:X.size=40) (h1:p2≠p3):
  CallsD Tryz.prog 73 #[pV p3,pV p2] .returning w fun e u' w'=>u'= .returning∧(e= .returned (.tuple #[])∧w'.heap[p2]? =some (.cells (if n=0 then X else zTc) 53 (0,0))∧w'.heap[p3]? =some (.cells #[.int .i64 (n:Int)] 59 (0,0))∧Mod (fun i=>i=p2) w w'):=by
 have hbt:=bTx0;by_cases hn:n=0
 ·rw[if_pos hn];have hd:((n:Int) !=0)=false:=by simp[hn]
  refine callsD_of_wp Tryz.func73 rfl ?_;simp only[Tryz.ntmps73,List.size_toArray,List.length_cons,List.length_nil,Nat.reduceAdd,Nat.reduceSub,Array.replicate_succ,Array.replicate_zero,List.push_toArray,List.append_toArray,List.nil_append,List.cons_append];have HH:=Hi h2;clear hn;go_wp2_with fail;exact bodyPost_end (results_none rfl _ _ _) rfl ⟨rfl,HH.out,h3,Mod.refl _ _⟩
 ·rw[if_neg hn];have hd:((n:Int) !=0)=true:=by simp[hn]
  refine callsD_of_wp Tryz.func73 rfl ?_;simp only[Tryz.ntmps73,List.size_toArray,List.length_cons,List.length_nil,Nat.reduceAdd,Nat.reduceSub,Array.replicate_succ,Array.replicate_zero,List.push_toArray,List.append_toArray,List.nil_append,List.cons_append];clear hn;go_upto_region 1 with fail;have Lh2:=Ls h2;have Lh3:=Ls h3;refine ZP0 [0,5] ?_;refine Zu hbt ?_;refine Zi fun w2 hr=> ?_;replace h2:=hr.q h2;replace h3:=hr.q h3;have HM2:=Hi (hr.mod);clear hr;refine ZS ?_;refine ZN h2 fun wn h2 mS=> ?_;have HF:=Hi (Ai h2 (Ai (mS.at_ne h3 h1.symm) ((HM2.out.mono (fun _ _ h=>h.elim)).trans mS)));clear h2 h3 mS;go_wp2_with fail;exact bodyPost_end (results_none rfl _ _ _) rfl ⟨rfl,HF.out⟩
theorem two {w w1:World} {A B:Obj} (h:w1=(w.alloc A).alloc B):w1.heap.size=w.heap.size+2∧w1.heap[w.heap.size]? =some A∧w1.heap[w.heap.size+1]? =some B∧Mod (fun _=>False) w w1:=by
 have hz:∀(v:World) (o:Obj),(v.alloc o).heap.size=v.heap.size+1:=fun v o=>Array.size_push ..;have e1:=hz w A;have e2:=hz (w.alloc A) B;rw[e1]at e2;have a1:=heap_alloc_new w A;have a2:=heap_alloc_new (w.alloc A) B;rw[e1]at a2;have m2:=(Mod.refl (fun _=>False) (w.alloc A)).alloc B;rw[←h]at a2 e2 m2;exact⟨e2,m2.at0 a1,a2,((Mod.refl _ w).alloc _).trans m2⟩
theorem results_cell2 {P:Program} {fn:Func} {t1 t2:Tmp} {T1 T2:TypeId} {tmps:Array Value} {p1 p2:Addr} {v1 v2:Value} {w:World} (h:fn.results= #[.cell t1 T1,.cell t2 T2])
  (h1:tmps.getD t1 undef= .pointer (some p1)) (h2:tmps.getD t2 undef= .pointer (some p2))
  (k1:(Instr.loadAt T1 (.pointer (some p1))).run P w= .ok v1 w) (k2:(Instr.loadAt T2 (.pointer (some p2))).run P w= .ok v2 w):(results fn tmps).run P w= .ok (.tuple #[v1,v2]) w:=by
 have l1:(loadVar T1 p1).run P w= .ok v1 w:=by simpa[Instr.loadAt,Instr.sureAddr] using k1
 have l2:(loadVar T2 p2).run P w= .ok v2 w:=by simpa[Instr.loadAt,Instr.sureAddr] using k2
 unfold results;rw[h];have hmap:∀ {α β:Type} (f:α→β) (x:Sem α) (w:World),(f<$>x).run P w=(x.run P w).andThen fun a w=> .ok (f a) w:=fun f x w=>by
  show(x>>=fun a=>pure (f a)).run P w=_;rw[Sem.run_bind];rfl
 simp only[List.mapM_toArray,List.mapM_cons,List.mapM_nil,h1,h2,asAddr,Sem.run_bind,hmap,Sem.run_pure,Result.andThen_ok,l1,l2];rfl
section
variable {P:Program} {ops:Array Oper} {Q:Exit→Act→World→Prop} {T0:Nat→Prop} {w0:World} {κ:Nat→Nat} {υ:Nat→List Tmp}
theorem TG.storeU {i:Nat} {r:List Nat} {a:Act} {B:Bx} {K:Land} {o:Oper} {T:TypeId} {x y:Operand} {X Y:Value} (K':Land) (hcl:Good K') (ho:ops[i]? =some o) (hk:κ i=6) (hw:Region.wanted o (yielded ops a.tmps)=true)
  (hd:o.dst=none) (hop:o.op= .store T x y) (hx:a.eval x=X) (hy:a.eval y=Y)
  (hr:∀T' w,Mod T0 w0 w→K T' w→∃w',(Instr.storeAt T X Y).run P w= .ok () w'∧Mod T' w w'∧K' T' w')
  (h:Inh T0 w0 B K'→TG P ops Q T0 w0 κ υ r a B K'):TG P ops Q T0 w0 κ υ (i::r) a B K:=by
 refine TG.eff' (fun _=>K') ho hk hw (fun _=>hcl.cl) (fun T2 w k1 k2 k3 k4=> .inr (.inl ?_)) (fun v hI=>by rw[hd];exact h hI);obtain⟨w',h1,h2,h3⟩:=hr T2 w k3 k1;refine⟨w',?_,h2,hcl.gr _ _ _ (fun _ h=> .inl h) h3⟩;subst hx;subst hy;simp[execOp,hop,h1]
end
theorem wire_c {a:Option Addr} {l:List UInt8} {c:Nat} (w:World) (hl:SlAt uc 1 w a l) (hc:l.length≤c) (hn:a=none→c=0) (hln:l.length≤900000) (hin:∀x,a=some x→x.block<w.heap.size∨l=[]):
  Calls Tryz.prog 32 #[.slice a l.length c] w (WirP w l):=by
 have HG:=Hi (fun w1 (m:Mod (fun _=>False) w w1)=>whole_c (c:=c) w1 (hl.mod0 m) hc hn hln (by intro x h;exact(hin x h).imp (fun h=>Nat.lt_of_lt_of_le h m.size) id));have hG:=HG.out;obtain⟨ll,hll⟩:∃ll,l.length=ll:=⟨_,rfl⟩;rw[hll]at hG;have HG2:=Hi hG;rw[hll];have hmf:=hmf;clear hl hc hn hln hin hG HG hll;have ha1:=alTc;have ha2:=alE3
 go_enter_defers Tryz.func32,Tryz.ntmps32
 go_upto_region 2 with fail;refine(fun w1 hw1=> ?_:∀w1,w1=_→Code.wp _ _ _ _ w1) _ rfl;obtain⟨hs,kp2,kp3,m1⟩:=two hw1;replace kp2:w1.heap[w.heap.size]? =some (.cells zTc 53 (0,0)):=kp2;clear hw1 ha1 ha2 hmf;obtain⟨ps,hps⟩:∃ps,w.heap.size=ps:=⟨_,rfl⟩;obtain⟨p3,hp3⟩:∃p3,ps+1=p3:=⟨_,rfl⟩;rw[hps]at kp2 kp3 hs⊢;rw[hp3]at kp3⊢;have HNE:Hid (ps≠p3):=Hi (by omega);have HS:=Hi (Ai hps (Ai hp3 hs));have HM1:=Hi m1;have hG:=HG2.out w1 m1;clear hps hp3 hs m1;refine region_seq 7 rfl ?_;simp only[List.range,List.range.loop];refine Zq ?_;refine ZC hG ?hout (fun vn wn hR=> ?hret) (fun ch wn hR=> ?hpan)
 case hout=>
  intro w' h;unfold WhoP at h;split at h
  ·obtain⟨_,_,h,_⟩:=h;cases h
  ·cases h.2
 case hpan=>
  exfalso;unfold WhoP at hR;split at hR
  ·obtain⟨_,_,h,_⟩:=hR;cases h
  ·cases hR.2
 case hret=>
  obtain⟨hm,hr⟩:=hR;clear hG;have HM3:=Hi (HM1.out.trans hm);replace kp2:=hm.at0 kp2;replace kp3:=hm.at0 kp3;have HSZ:=Hi hm.size;clear hm;cases hres:wholeP l with
  |error e0=>
   rw[hres]at hr;simp only at hr;cases hr;have h0:=wP_ne l e0 hres;have HFN:Hid (∀wz,Mod (fun _=>False) w wz→WirP w l (.returned (.tuple #[.agg zTc,.int .i64 (e0:Int)])) wz):=Hi (fun wz m=>by
    have hw:wireP l= .error e0:=by unfold wireP;rw[hres]
    refine⟨m,?_⟩;rw[hw])
   have hd:decide ((e0:Int)=0)=false:=Df (by omega);have hd2:((e0:Int)==0)=false:=by simpa using h0
   have hd3:(e0==0)=false:=by simpa using h0
   have hd4:decide (e0=0)=false:=Df h0;have H0:=Hi h0;clear hres h0;(try simp only[zL]);obtain⟨w4,rfl⟩:∃w4:World,w4=wn:=⟨_,rfl⟩
   iterate 3 refine Zq ?_
   refine ZT ?_;refine ZQ kp2 fun wn kp2 mS=> ?_;have HM5:Hid (Mod (fun i=>i=ps∨i=p3) w4 wn):=Hi (mS.mono (fun i _ e=> .inl e));replace kp3:=mS.at_ne kp3 HNE.out.symm;clear mS;obtain⟨w5,rfl⟩:∃w5:World,w5=wn:=⟨_,rfl⟩;refine ZT ?_;refine ZQ kp3 fun wn kp3 mS=> ?_;refine sq_nil ?_;have HM6:Hid (Mod (fun i=>i=ps∨i=p3) w4 wn):=Hi (HM5.out.then mS (fun i _ e=> .inr e));replace kp2:=mS.at_ne kp2 HNE.out;clear mS;have HXS:Hid (zTc.size=40∧zTc.all (·.oneCell')=true):=Hi ⟨zTc_size,zTc_all⟩;have HFIN:Hid (∀wz,Mod (fun i=>i=ps∨i=p3) wn wz→WirP w l (.returned (.tuple #[.agg (if e0=0 then zTc else zTc),.int .i64 (e0:Int)])) wz):=Hi (fun wz m=>by
    rw[if_neg H0.out];exact HFN.out wz ((HM3.out.then HM6.out (fun i hi e=>by have:=HS.out;omega)).then m (fun i hi e=>by have:=HS.out;omega)))
   have hxz:(Instr.loadAt 53 (pV ps)).run Tryz.prog wn= .ok (.agg zTc) wn:=ldX HXS.out.1 kp2;have HLX:Hid (∀w':World,w'.heap[ps]? =some (.cells zTc 53 (0,0))→(Instr.loadAt 53 (pV ps)).run Tryz.prog w'= .ok (.agg zTc) w'):=Hi (fun w' h=>ldX HXS.out.1 h);clear hxz;go_upto_region 5 with fail;refine wp_mono (Q:=fun e a' w'=>e= .normal∧(a'.tmps.getD 2 undef=pV ps∧a'.tmps.getD 3 undef=pV p3∧a'.defers=[{target:= .fn (.func 73) #[pV p3,pV ps],args:= #[]}])∧G2 ps p3 zTc (e0:Int) (fun i=>i=ps∨i=p3) w'∧Mod (fun i=>i=ps∨i=p3) wn w') ?_ ?_
   ·have hP:∀(c:List PanicEntry) (a:Act) (w':World),¬((Exit.panic c=Exit.normal)∧(a.tmps.getD 2 undef=pV ps∧a.tmps.getD 3 undef=pV p3∧a.defers=[{target:= .fn (.func 73) #[pV p3,pV ps],args:= #[]}])∧G2 ps p3 zTc (e0:Int) (fun i=>i=ps∨i=p3) w'∧Mod (fun i=>i=ps∨i=p3) wn w'):=fun c a w' h=>by cases h.1
    have HK2:=Hi kp2;have HK3:Hid (wn.heap[p3]? =some (.cells #[.int .i64 (e0:Int)] 59 (0,0))):=Hi (by simpa using kp3);refine wp_gpass (T0:=fun _=>False) (K:=fun _ _=>True) (κ:=fun i=>[0,0,6,6].getD i 0) (υ:=fun _=>[]) [0,1,2,3] (by kernel_rfl) (by kernel_rfl) (Good.true).cl (trivial) (fun _ h=>h.elim) ?_;have gK:=Good.true;(refine TG.load (v:= ?v11) (p:= ?p11) (by simp only[zK];rfl) rfl (by rfl) rfl ?hx11 (fun wq hSq=> ?y11) ?n11;(case hx11=>simp only[zM];try rfl);(case y11=>(exact HLX.out _ (hSq.at0 HK2.out)));try simp only[zL]);(refine TG.load (v:= ?v12) (p:= ?p12) (by simp only[zK];rfl) rfl (by rfl) rfl ?hx12 (fun wq hSq=> ?y12) ?n12;(case hx12=>simp only[zM];try rfl);(case y12=>(exact ldE3 (hSq.at0 HK3.out)));try simp only[zL]);(refine TG.storeU (X:= ?X13) (Y:= ?Y13) (fun _ _=>True) (Good.true) (by simp only[zK];rfl) rfl (by rfl) rfl rfl ?hx13 ?hz13 (fun T wq hSq kq=> ?y13) (fun _=> ?n13);(case hx13=>simp only[zM];try rfl);(case hz13=>simp only[zM];try rfl);(case y13=>(exact⟨wq,by have:=run_store_box (P:=Tryz.prog) (T:=53) (hSq.at0 HK2.out) (by rw[HXS.out.1];kernel_rfl) rfl HXS.out.2;rw[setBlock_same (hSq.at0 HK2.out)]at this;exact this,Mod.refl _ _,trivial⟩));replace gK:=(Good.true);try simp only[zL]);(refine TG.storeU (X:= ?X14) (Y:= ?Y14) (fun _ _=>True) (Good.true) (by simp only[zK];rfl) rfl (by rfl) rfl rfl ?hx14 ?hz14 (fun T wq hSq kq=> ?y14) (fun _=> ?n14);(case hx14=>simp only[zM];try rfl);(case hz14=>simp only[zM];try rfl);(case y14=>(exact⟨wq,by have:(Instr.storeAt 59 (pV p3) (.int .i64 (e0:Int))).run Tryz.prog wq= .ok () (setBlock wq p3 (.cells #[.int .i64 (e0:Int)] 59 (0,0))):=run_store_one (hSq.at0 HK3.out) (by kernel_rfl) (by simp) rfl;rw[setBlock_same (hSq.at0 HK3.out)]at this;exact this,Mod.refl _ _,trivial⟩));replace gK:=(Good.true);try simp only[zL]);refine TG.nil (fun w3 ⟨TR,hr⟩=> ?_);clear gK;exact⟨rfl,⟨rfl,rfl,rfl⟩,⟨⟨.inl rfl,hr.mod.at0 HK2.out⟩,.inr rfl,hr.mod.at0 HK3.out⟩,hr.mod.mono (fun _ _ h=>h.elim)⟩
   ·rintro e a' w3 ⟨rfl,ha,hG,hm⟩;obtain⟨tm,df⟩:=a';obtain⟨h2,h3,h5⟩:=ha;simp only at h2 h3 h5;subst h5;go_wp2_with fail;refine leaves_cons (f:=73) (args:= #[pV p3,pV ps]) (by simp) (by simp[go_sem]) ?_;refine(wire1_c (n:=e0) hG.1.2 hG.2.2 HXS.out.1 HNE.out).mono ?_;rintro e u' w4 ⟨rfl,rfl,k2,k3,m4⟩;refine⟨_,results_cell2 rfl h2 h3 (ldX (by split;exact HXS.out.1;exact zTc_size) k2) (ldE3 k3),?_⟩;exact HFIN.out w4 (hm.then m4 (fun i _ e=> .inl e))
  |ok x=>
   rw[hres]at hr;obtain⟨r,hv0,hO,hrx,hB⟩:=hr;cases hv0;obtain⟨nc,hnc⟩:∃nc,chkP (txP r)=nc:=⟨_,rfl⟩;have HFN:Hid (∀wz,Mod (fun _=>False) w wz→TxO w1.heap.size wz r→WirP w l (.returned (.tuple #[.agg (if nc=0 then txr r else zTc),.int .i64 (nc:Int)])) wz):=Hi (fun wz m ho=>by
    have hw:wireP l=if nc=0 then .ok x else .error nc:=by unfold wireP;rw[hres,←hnc,hrx]
    refine⟨m,?_⟩;rw[hw];by_cases h0:nc=0
    ·rw[if_pos h0,if_pos h0];subst h0;exact⟨r,rfl,ho.base HM1.out.size,hrx,hB⟩
    ·rw[if_neg h0,if_neg h0])
   have HO:=Hi (Ai hO (Ai hrx (Ai hB hnc)));clear hres hO hrx hB hnc;(try simp only[zL]);obtain⟨w4,rfl⟩:∃w4:World,w4=wn:=⟨_,rfl⟩
   iterate 3 refine Zq ?_
   refine ZT ?_;refine ZQ kp2 fun wn kp2 mS=> ?_;have HM5:Hid (Mod (fun i=>i=ps∨i=p3) w4 wn):=Hi (mS.mono (fun i _ e=> .inl e));replace kp3:=mS.at_ne kp3 HNE.out.symm;replace kp2:wn.heap[ps]? =some (.cells (txr r) 53 (0,0)):=kp2;clear mS;obtain⟨w5,rfl⟩:∃w5:World,w5=wn:=⟨_,rfl⟩;refine ZT ?_;refine ZQ kp3 fun wn kp3 mS=> ?_;refine sq_nil ?_;have HM6:Hid (Mod (fun i=>i=ps∨i=p3) w4 wn):=Hi (HM5.out.then mS (fun i _ e=> .inr e));replace kp2:=mS.at_ne kp2 HNE.out;clear mS;have HO6:Hid (TxO w1.heap.size wn r):=Hi (HO.out.1.mod HM6.out (Apt.below (fun i e=>by have:=HS.out;omega)));obtain⟨w6,rfl⟩:∃w6:World,w6=wn:=⟨_,rfl⟩;have hC:=check_c r w6 (HO6.out.rd (by rw[HO.out.2.1];exact HO.out.2.2.1));rw[HO.out.2.2.2]at hC;go_upto_region 4 with fail;refine region_seq 3 rfl ?_;simp only[List.range,List.range.loop];refine Zr ?_;refine ZC hC ?hout (fun vn wn hR=> ?hret) (fun ch wn hR=> ?hpan)
   case hout=>exact fun w' h=>by cases h.1
   case hpan=>cases hR.1
   case hret=>
   obtain⟨e1,hm⟩:=hR;cases e1;clear hC;replace kp2:=hm.at0 kp2;replace kp3:=hm.at0 kp3;have HM7:=Hi (HM6.out.then0 hm);clear hm;(try simp only[zL]);obtain⟨w7,rfl⟩:∃w7:World,w7=wn:=⟨_,rfl⟩;refine ZT ?_;refine ZQ kp3 fun wn kp3 mS=> ?_;refine sq_nil ?_;have HM8:Hid (Mod (fun i=>i=ps∨i=p3) w4 wn):=Hi (HM7.out.then mS (fun i _ e=> .inr e));replace kp2:=mS.at_ne kp2 HNE.out;clear mS;have HXS:Hid ((txr r).size=40∧(txr r).all (·.oneCell')=true):=Hi ⟨txr_size r,txr_one' r⟩;have HFIN:Hid (∀wz,Mod (fun i=>i=ps∨i=p3) wn wz→WirP w l (.returned (.tuple #[.agg (if nc=0 then txr r else zTc),.int .i64 (nc:Int)])) wz):=Hi (fun wz m=>by
    have hm9:=HM8.out.trans m;exact HFN.out wz (HM3.out.then hm9 (fun i hi e=>by have:=HS.out;omega)) (HO.out.1.mod hm9 (Apt.below (fun i e=>by have:=HS.out;omega))))
   have hxz:(Instr.loadAt 53 (pV ps)).run Tryz.prog wn= .ok (.agg (txr r)) wn:=ldX HXS.out.1 kp2;have HLX:Hid (∀w':World,w'.heap[ps]? =some (.cells (txr r) 53 (0,0))→(Instr.loadAt 53 (pV ps)).run Tryz.prog w'= .ok (.agg (txr r)) w'):=Hi (fun w' h=>ldX HXS.out.1 h);clear hxz;go_upto_region 5 with fail;refine wp_mono (Q:=fun e a' w'=>e= .normal∧(a'.tmps.getD 2 undef=pV ps∧a'.tmps.getD 3 undef=pV p3∧a'.defers=[{target:= .fn (.func 73) #[pV p3,pV ps],args:= #[]}])∧G2 ps p3 (txr r) (nc:Int) (fun i=>i=ps∨i=p3) w'∧Mod (fun i=>i=ps∨i=p3) wn w') ?_ ?_
   ·have hP:∀(c:List PanicEntry) (a:Act) (w':World),¬((Exit.panic c=Exit.normal)∧(a.tmps.getD 2 undef=pV ps∧a.tmps.getD 3 undef=pV p3∧a.defers=[{target:= .fn (.func 73) #[pV p3,pV ps],args:= #[]}])∧G2 ps p3 (txr r) (nc:Int) (fun i=>i=ps∨i=p3) w'∧Mod (fun i=>i=ps∨i=p3) wn w'):=fun c a w' h=>by cases h.1
    have HK2:=Hi kp2;have HK3:Hid (wn.heap[p3]? =some (.cells #[.int .i64 (nc:Int)] 59 (0,0))):=Hi (by simpa using kp3);refine wp_gpass (T0:=fun _=>False) (K:=fun _ _=>True) (κ:=fun i=>[0,0,6,6].getD i 0) (υ:=fun _=>[]) [0,1,2,3] (by kernel_rfl) (by kernel_rfl) (Good.true).cl (trivial) (fun _ h=>h.elim) ?_;have gK:=Good.true;(refine TG.load (v:= ?v23) (p:= ?p23) (by simp only[zK];rfl) rfl (by rfl) rfl ?hx23 (fun wq hSq=> ?y23) ?n23;(case hx23=>simp only[zM];try rfl);(case y23=>(exact HLX.out _ (hSq.at0 HK2.out)));try simp only[zL]);(refine TG.load (v:= ?v24) (p:= ?p24) (by simp only[zK];rfl) rfl (by rfl) rfl ?hx24 (fun wq hSq=> ?y24) ?n24;(case hx24=>simp only[zM];try rfl);(case y24=>(exact ldE3 (hSq.at0 HK3.out)));try simp only[zL]);(refine TG.storeU (X:= ?X25) (Y:= ?Y25) (fun _ _=>True) (Good.true) (by simp only[zK];rfl) rfl (by rfl) rfl rfl ?hx25 ?hz25 (fun T wq hSq kq=> ?y25) (fun _=> ?n25);(case hx25=>simp only[zM];try rfl);(case hz25=>simp only[zM];try rfl);(case y25=>(exact⟨wq,by have:=run_store_box (P:=Tryz.prog) (T:=53) (hSq.at0 HK2.out) (by rw[HXS.out.1];kernel_rfl) rfl HXS.out.2;rw[setBlock_same (hSq.at0 HK2.out)]at this;exact this,Mod.refl _ _,trivial⟩));replace gK:=(Good.true);try simp only[zL]);(refine TG.storeU (X:= ?X26) (Y:= ?Y26) (fun _ _=>True) (Good.true) (by simp only[zK];rfl) rfl (by rfl) rfl rfl ?hx26 ?hz26 (fun T wq hSq kq=> ?y26) (fun _=> ?n26);(case hx26=>simp only[zM];try rfl);(case hz26=>simp only[zM];try rfl);(case y26=>(exact⟨wq,by have:(Instr.storeAt 59 (pV p3) (.int .i64 (nc:Int))).run Tryz.prog wq= .ok () (setBlock wq p3 (.cells #[.int .i64 (nc:Int)] 59 (0,0))):=run_store_one (hSq.at0 HK3.out) (by kernel_rfl) (by simp) rfl;rw[setBlock_same (hSq.at0 HK3.out)]at this;exact this,Mod.refl _ _,trivial⟩));replace gK:=(Good.true);try simp only[zL]);refine TG.nil (fun w3 ⟨TR,hr⟩=> ?_);clear gK;exact⟨rfl,⟨rfl,rfl,rfl⟩,⟨⟨.inl rfl,hr.mod.at0 HK2.out⟩,.inr rfl,hr.mod.at0 HK3.out⟩,hr.mod.mono (fun _ _ h=>h.elim)⟩
   ·rintro e a' w3 ⟨rfl,ha,hG,hm⟩;obtain⟨tm,df⟩:=a';obtain⟨h2,h3,h5⟩:=ha;simp only at h2 h3 h5;subst h5;go_wp2_with fail;refine leaves_cons (f:=73) (args:= #[pV p3,pV ps]) (by simp) (by simp[go_sem]) ?_;refine(wire1_c (n:=nc) hG.1.2 hG.2.2 HXS.out.1 HNE.out).mono ?_;rintro e u' w4 ⟨rfl,rfl,k2,k3,m4⟩;refine⟨_,results_cell2 rfl h2 h3 (ldX (by split;exact HXS.out.1;exact zTc_size) k2) (ldE3 k3),?_⟩;exact HFIN.out w4 (hm.then m4 (fun i _ e=> .inl e))
end
theorem copied_c (a:Option Addr) (l:List Key) (c:Nat) (w:World) (hl:SlAt kc 32 w a l) (hn:a=none→c=0) (hb:l.length≤1000000):Calls Tryz.prog 70 #[.slice a l.length c] w fun e w'=>∃v,e= .returned v∧NewS kc 32 110 w.heap.size w' v l∧Mod (fun _=>False) w w':=by
 obtain⟨n,hnl⟩:∃n,l.length=n:=⟨_,rfl⟩;rw[hnl]at hb;obtain⟨cur,hcs,hmk⟩:=makeT keysT n (by omega) (by omega);have hcp:∀w1 p,Mod (fun _=>False) w w1→w1.heap[p]? =some (.cells cur 110 (0,0))→∃k,∀ty,(Builtin.copy_ #[45,45] ty #[.slice (some ⟨p,0,none⟩) n n,.slice a n c]).run Tryz.prog w1= .ok (goInt k) (setBlock w1 p (.cells (cellsOf kc l).toArray 110 (0,0))):=fun w1 p m hp=>by
  cases a with
  |none=>
   have hl0:l=[]:=by
    rcases hl with h|⟨_,_,_,_,_,h,_⟩
    ·exact h
    ·cases h
   subst hl0;simp at hnl;subst hnl;rw[hn rfl];refine⟨0,fun ty=> ?_⟩;have h1:=copyT0 (ty:=ty) (m:=0) (cap:=0) (p:=p) keysT w1;have h2:cur= #[]:=by
    apply Array.eq_empty_of_size_eq_zero;rw[hcs]
   rw[h2]at hp;rw[show(cellsOf kc []).toArray= #[]from rfl,setBlock_same hp];exact h1
  |some ad=>
   refine⟨n,fun ty=> ?_⟩;have h1:=copyT (ty:=ty) (p:=p) (cap:=n) (c:=c) keysT (hl.mod0 m) hp (by rw[hcs,hnl]);rw[hnl]at h1;exact h1
 have HCP:=Hi hcp;have HNL:=Hi hnl;rw[hnl];clear hl hn hcp hnl hcs;go_enter Tryz.func70,Tryz.ntmps70;go_upto_region 1 with fail;refine ZP0 [0,0,3,0] ?_
 iterate 2 refine Zv ?_
 (refine TD.mks (by simp only[zK];rfl) rfl (by rfl) rfl rfl ?hx3 ?hz3 hmk (fun p6 hp6=> ?n3);(case hx3=>simp only[zM];try rfl);(case hz3=>simp only[zM];try rfl);try simp only[zL]);refine Zv ?_;refine TD.nil (fun w1 hr=> ?_);obtain⟨gp6,kp6⟩:=hr.b p6;have HM1:=Hi hr.mod;have HG:=Hi gp6;clear hr hmk gp6;go_upto_region 2 with fail;have Lkp6:=Ls kp6;refine ZP0 [0,0,5] ?_
 iterate 2 refine Zv ?_
 refine Zi fun w2 hr=> ?_;replace kp6:=hr.q kp6;obtain⟨k,hcpy⟩:=HCP.out w2 p6 (HM1.out.then0 hr.mod) kp6;have HM2:=Hi (HM1.out.then0 hr.mod);clear hr;(refine eff_copy (by simp only[zK];rfl) (by rfl) rfl ?hx8 ?hz8 (hcpy _) ?n8;(case hx8=>simp only[zM];try rfl);(case hz8=>simp only[zM];try rfl);try simp only[zL]);refine TE.nil_set kp6 (fun wn kp6 mS=> ?_);have HF:Hid (NewS kc 32 110 w.heap.size wn (.slice (some ⟨p6,0,none⟩) l.length l.length) l∧Mod (fun _=>False) w wn):=Hi ⟨NewS.made keysT HG.out kp6,HM2.out.thenB mS (.inl HG.out)⟩;have hf:=HF.out;rw[HNL.out]at hf;have HF2:=Hi hf;clear kp6 mS hf HF;go_wp2_with fail;go_ret;exact⟨_,rfl,HF2.out.1,HF2.out.2⟩
def slK (s:Sl Key):Value:= .slice s.a s.l.length s.c
theorem neMapR (w:World) (r:Option Nat):(binOp .neq 105 (.map r) (.map none)).run Tryz.prog w= .ok (.bool !r.isNone) w:=run_neq_map_nil w _ _ _ _ Tryz.underlying105
theorem bReg (m:Option Nat) (w:World):(Instr.build 107 #[(0,.map m)]).run Tryz.prog w= .ok (.agg #[.map m]) w:=by kernel_rfl
theorem slK_zero (w:World):(zeroValue 45).run Tryz.prog w= .ok (slK ⟨none,[],0⟩) w:=by kernel_rfl
def RegM (h r:Nat) (M:List (Key×Sl Key)) (w:World):Prop:=w.heap[r]? =some (.cells #[.map (some h)] 107 (0,0))∧∃es c,w.heap[h]? =some (.map es c)∧MapIs kv slK es c M
def tbOf (M:List (Key×Sl Key)):TbL:=M.map (fun x=>(x.1,x.2.l))
def RegA (b h r:Nat) (T:TbL) (w:World):Prop:=∃M,RegM h r M w∧tbOf M=T∧(∀x∈M,NewS kc 32 110 b w (slK x.2) x.2.l∧x.2.l.length≤256)∧b≤h∧b≤r
theorem RegM.mod {h r:Nat} {M:List (Key×Sl Key)} {w w':World} {S:Nat→Prop} (H:RegM h r M w) (hm:Mod S w w') (h1:¬S h) (h2:¬S r):RegM h r M w':=by
 obtain⟨k1,es,c,k2,k3⟩:=H;exact⟨hm.at k1 h2,es,c,hm.at k2 h1,k3⟩
theorem RegA.mod {b h r:Nat} {T:TbL} {w w':World} {S:Nat→Prop} (H:RegA b h r T w) (hm:Mod S w w') (hS:∀i,b≤i→i<w.heap.size→¬S i):RegA b h r T w':=by
 obtain⟨M,H1,H2,H3,H4,H5⟩:=H;refine⟨M,H1.mod hm (hS h H4 ?_) (hS r H5 (Ls H1.1)),H2,fun x hx=>⟨(H3 x hx).1.mod hm (fun g hg=> ?_),(H3 x hx).2⟩,H4,H5⟩
 ·obtain⟨_,es,c,k2,_⟩:=H1;exact Ls k2
 ·have:=(H3 x hx).1.lt g hg;exact hS g this.1 this.2
theorem RegA.mod0 {b h r:Nat} {T:TbL} {w w':World} (H:RegA b h r T w) (hm:Mod (fun _=>False) w w'):RegA b h r T w':=H.mod hm (fun _ _ _ h=>h)
theorem lkp_tb (M:List (Key×Sl Key)) (k:Key):tbFind (tbOf M) k=(lkp k M).map (·.l):=by
 unfold tbFind tbOf
 induction M with
 |nil=>rfl
 |cons x M ih=>
  unfold lkp;by_cases h:x.1=k
  ·simp[h]
  ·simp only[List.map_cons,List.find?_cons,if_neg h];rw[show(decide (x.1=k))=false from Df h];exact ih
theorem there11_c {r m:Nat} (w:World) (kr:w.heap[r]? =some (.cells #[.map (some m)] 107 (0,0))):Calls Tryz.prog 69 #[pV r] w fun e w'=>e= .returned (.bool true)∧w'=w:=by
 have hne:=neMapR;go_enter Tryz.func69,Tryz.ntmps69;go_wp2_with fail;go_ret;exact⟨rfl,rfl⟩
theorem newT11_c (w:World):Calls Tryz.prog 7 #[] w fun e w'=>∃h r,e= .returned (pV r)∧RegA w.heap.size h r [] w'∧Mod (fun _=>False) w w':=by
 have hmm:= @run_makeMap Tryz.prog;have hbd:=bReg;go_enter Tryz.func7,Tryz.ntmps7;go_wp2_with fail;go_ret;obtain⟨h1,h2⟩:=fresh2 w (.map #[] 0) (.cells #[.map (some w.heap.size)] 107);exact⟨w.heap.size,_,rfl,⟨[],⟨h2,_,_,h1,MapIs.empty kv slK⟩,rfl,fun x hx=>(by cases hx),by omega,by omega⟩,((Mod.refl _ _).alloc _).alloc _⟩
theorem findE_c {b h r:Nat} {T:TbL} (k:Key) (w:World) (H:RegA b h r T w):Calls Tryz.prog 30 #[pV r,.agg (kc k)] w fun e w'=>(∃v,e= .returned (.tuple #[v,.int .i64 (if(tbFind T k).isSome then 0 else 11)]))∧Mod (fun _=>False) w w':=by
 obtain⟨M,⟨kr,es,cl,kh,HM⟩,rfl,H3,H4,H5⟩:=id H;rw[lkp_tb];have hlk:∀wq,wq.heap[h]? =some (.map es cl)→(Instr.lookup 105 (.map (some h)) (.agg (kc k)) true).run Tryz.prog wq= .ok (.tuple #[((lkp k M).map slK).getD (slK ⟨none,[],0⟩),.bool (lkp k M).isSome]) wq:=fun wq hq=>HM.lookup keyTR Tryz.underlying105 slK_zero wq hq k true;have H3':=Hi H3;cases hk:lkp k M with
 |none=>
  rw[hk]at hlk;simp only[Option.map_none,Option.getD_none,Option.isSome_none]at hlk;have hlk2:∀wq,Mod (fun _=>False) w wq→(Instr.lookup 105 (.map (some h)) (.agg (kc k)) true).run Tryz.prog wq= .ok (.tuple #[.slice none 0 0,.bool false]) wq:=fun wq hq=>hlk wq (hq.at0 kh);have HLK:=Hi hlk2;clear hlk hlk2 H3 HM hk H;go_enter Tryz.func30,Tryz.ntmps30;go_upto_region 0 with fail;have Lkr:=Ls kr;refine ZP0 [3,0,0] ?_;refine Zb fun p3 hp3=> ?_
  iterate 2 refine Zv ?_
  refine TD.nil (fun w1 hr=> ?_);replace kr:=hr.q kr;obtain⟨gp3,kp3⟩:=hr.b p3;have m1:=hr.mod;clear hr;go_wp2_with fail;go_at_call 69;refine(there11_c _ kr).mono ?_;rintro e w2 ⟨rfl,rfl⟩;have hlk3:∀wq,Mod (fun _=>False) w2 wq→(Instr.lookup 105 (.map (some h)) (.agg (kc k)) true).run Tryz.prog wq= .ok (.tuple #[.slice none 0 0,.bool false]) wq:=fun wq hq=>HLK.out wq (m1.trans hq);go_upto_region 3 with fail;have Lkr:=Ls kr;have Lkp3:=Ls kp3;refine ZP [0,0,0,1,1,1,0,0,0,0,0] ?_
  iterate 5 first|refine Zv ?_|refine Zd ?_
  (refine TD.lookup (v:= ?v15) (p:= ?p15) (q:= ?q15) (Mod.refl _ _) (by simp only[zK];rfl) rfl (by rfl) rfl ?hx15 ?hz15 (fun wq hSq=> ?y15) ?n15;(case hx15=>simp only[zM];try rfl);(case hz15=>simp only[zM];try rfl);(case y15=>(rw[hlk3 wq hSq];(try with_reducible rfl)));try simp only[zL])
  iterate 5 refine Zv ?_
  refine TD.nil (fun w3 hr=> ?_);replace kr:=hr.q kr;replace kp3:=hr.q kp3;have m3:=m1.then0 hr.mod;clear hr hlk3;go_wp2_with fail;exact bodyPost_ret (results_tmp2 rfl _ _ _) rfl ⟨⟨_,rfl⟩,m3⟩
 |some s=>
  rw[hk]at hlk;simp only[Option.map_some,zE,Option.isSome_some]at hlk;obtain⟨ha,hb⟩:=H3 (k,s) (lkp_mem hk);have hn0:s.a=none→s.c=0:=by
   rcases ha with⟨e,_⟩|⟨g,cur,e,_⟩
   ·injection e with _ _ e
    exact fun _=>e
   ·injection e with e _ _
    intro e2;rw[e]at e2;cases e2
  have HCP:=Hi (fun w1 (m:Mod (fun _=>False) w w1)=>copied_c s.a s.l s.c w1 ((WAtG.of ha).sl.mod0 m) hn0 (Nat.le_trans hb (by decide)));obtain⟨sa,hsa⟩:∃sa,s.a=sa:=⟨_,rfl⟩;obtain⟨sn,hsn⟩:∃sn,s.l.length=sn:=⟨_,rfl⟩;obtain⟨sc,hsc⟩:∃sc,s.c=sc:=⟨_,rfl⟩;have hlk2:∀wq,Mod (fun _=>False) w wq→(Instr.lookup 105 (.map (some h)) (.agg (kc k)) true).run Tryz.prog wq= .ok (.tuple #[.slice sa sn sc,.bool true]) wq:=fun wq hq=>by
   have:=hlk wq (hq.at0 kh);unfold slK at this;rw[hsa,hsn,hsc]at this;exact this
  have hC:=HCP.out;rw[hsa,hsn,hsc]at hC;have HC:=Hi hC;have HLK:=Hi hlk2;clear hlk hlk2 H3 HM hk H ha hb hn0 hsa hsn hsc hC HCP;go_enter Tryz.func30,Tryz.ntmps30;go_upto_region 0 with fail;have Lkr:=Ls kr;refine ZP0 [3,0,0] ?_;refine Zb fun p3 hp3=> ?_
  iterate 2 refine Zv ?_
  refine TD.nil (fun w1 hr=> ?_);replace kr:=hr.q kr;obtain⟨gp3,kp3⟩:=hr.b p3;have m1:=hr.mod;clear hr;go_wp2_with fail;go_at_call 69;refine(there11_c _ kr).mono ?_;rintro e w2 ⟨rfl,rfl⟩;have hlk3:∀wq,Mod (fun _=>False) w2 wq→(Instr.lookup 105 (.map (some h)) (.agg (kc k)) true).run Tryz.prog wq= .ok (.tuple #[.slice sa sn sc,.bool true]) wq:=fun wq hq=>HLK.out wq (m1.trans hq);go_upto_region 3 with fail;have Lkr:=Ls kr;have Lkp3:=Ls kp3;refine ZP [0,0,0,1,1,1,0,0,0,0,0] ?_
  iterate 5 first|refine Zv ?_|refine Zd ?_
  (refine TD.lookup (v:= ?v29) (p:= ?p29) (q:= ?q29) (Mod.refl _ _) (by simp only[zK];rfl) rfl (by rfl) rfl ?hx29 ?hz29 (fun wq hSq=> ?y29) ?n29;(case hx29=>simp only[zM];try rfl);(case hz29=>simp only[zM];try rfl);(case y29=>(rw[hlk3 wq hSq];(try with_reducible rfl)));try simp only[zL])
  iterate 5 refine Zv ?_
  refine TD.nil (fun w3 hr=> ?_);replace kr:=hr.q kr;replace kp3:=hr.q kp3;have m3:=m1.then0 hr.mod;clear hr hlk3;go_wp2_with fail;go_at_call 70;refine(HC.out _ m3).mono ?_;rintro e w4 ⟨v,rfl,-,m4⟩;have m5:=m3.trans m4;go_wp2_with fail;exact bodyPost_ret (results_tmp2 rfl _ _ _) rfl ⟨⟨_,rfl⟩,m5⟩
theorem bsKeyT (k:Key) (w:World):(Instr.buildSlice 45 1 #[(0,.agg (kc k))]).run Tryz.prog w= .ok (.slice (some ⟨w.heap.size,0,none⟩) 1 1) (w.alloc (.cells (kc k) 110)):=by
 obtain⟨i0,hi,hz0,hz1,hz2⟩:=info_parts (show(Tryz.prog.info? 110).map (fun i=>(i.zero,i.size,i.bytes))=some (some (.agg zKey),32,32)by kernel_rfl);refine run_buildSlice w _ _ 1 _ _ i0 _ Tryz.underlying45 hi hz0 (by rw[hz1];omega) (by rw[hz1];omega) ?_;rw[hz1];show Instr.fill _ _ [(0,_)]=_;rw[fill_cons (off:=0) (n:=32) rfl (by simp[Value.cells]) (by simp[Value.cells,zKey_size,size_madeCells])];show some (wr _ 0 (kc k).toList)=_;rw[wr_whole (kc k) _ (by simp[Value.cells,zKey_size,size_madeCells])]
def preK (P:List Key) (r:Option (List Key)):Option (List Key):=r.map (P++·)
theorem preK_nil (r:Option (List Key)):preK [] r=r:=by cases r<;>rfl
theorem preK_step {P L:List Key} {A:List UInt8} {i:Nat} {c:UInt8} {k:Key} (h:A[i]? =some c) (hk:L[c.toNat]? =some k):preK P (pickP L (A.drop i))=preK (P++[k]) (pickP L (A.drop (i+1))):=by
 obtain⟨hi,e⟩:=List.getElem?_eq_some_iff.1 h;rw[List.drop_eq_getElem_cons hi,e,pickP,hk];simp only;unfold preK;cases pickP L (A.drop (i+1))<;>simp
theorem preK_none {P L:List Key} {A:List UInt8} {i:Nat} {c:UInt8} (h:A[i]? =some c) (hk:L.length≤c.toNat):preK P (pickP L (A.drop i))=none:=by
 obtain⟨hi,e⟩:=List.getElem?_eq_some_iff.1 h;rw[List.drop_eq_getElem_cons hi,e,pickP,List.getElem?_eq_none hk];rfl
def PickA (base:Nat) (v:Value) (O:List Key) (r:Option (List Key)) (w:World) (e:Ending) (w':World):Prop:=Mod (fun i=>v.ownBlock=some i) w w'∧match r with
 |some P=>∃v',e= .returned (.tuple #[v',.bool true])∧SlOwn kc 32 110 w' base v' (O++P)∧∀i,v'.ownBlock=some i→v.ownBlock=some i∨w.heap.size≤i
 |none=>e= .returned (.tuple #[.slice none 0 0,.bool false])
theorem picked_c {base:Nat} {v:Value} {O L:List Key} {A:List UInt8} {la aa:Option Addr} {lc ac:Nat} (w:World) (hO:SlOwn kc 32 110 w base v O) (hbase:base≤w.heap.size) (hL:SlAt kc 32 w la L) (hA:SlAt uc 1 w aa A)
  (hLb:∀g o,la=some ⟨g,o,none⟩→g<base) (hAb:∀g o,aa=some ⟨g,o,none⟩→g<base) (h1:L.length≤256) (h2:A.length≤65535) (h3:O.length≤900000):
  Calls Tryz.prog 76 #[v,.slice la L.length lc,.slice aa A.length ac] w (PickA base v O (pickP L A) w):=by
 obtain⟨nL,hnL⟩:∃n,L.length=n:=⟨_,rfl⟩;obtain⟨nA,hnA⟩:∃n,A.length=n:=⟨_,rfl⟩;have HN:=Hi (Ai hnL (Ai hnA h3));have HL:=Hi (Ai hL (Ai hA (Ai hLb hAb)));have HO:=Hi hO;have HBS:=Hi hbase;rw[hnL]at h1;rw[hnA]at h2;rw[hnL,hnA];have HP0:Hid (pickP L A=preK [] (pickP L (A.drop 0))):=Hi (by rw[preK_nil,List.drop_zero]);have hlo0:=hO.lt;have HLO:=Hi hlo0;clear hO hL hA hLb hAb hnL hnA h3 hbase hlo0;go_enter Tryz.func76,Tryz.ntmps76;go_wp2_with fail;go_loopw [0,12] (fun s0 s12 ws=>∃(i:Nat) (P:List Key),i≤nA∧s12= .int .i64 (i:Int)∧Hid (SlOwn kc 32 110 ws base s0 (O++P)∧P.length=i)∧Hid (pickP L A=preK P (pickP L (A.drop i)))∧Hid (Mod (fun j=>v.ownBlock=some j) w ws)∧Hid (∀j,s0.ownBlock=some j→v.ownBlock=some j∨w.heap.size≤j)) (fun _ s12 _=>nA-(intOf s12).toNat)
 case atStart=>exact⟨0,[],Nat.zero_le _,rfl,Hi ⟨by rw[List.append_nil];exact HO.out,rfl⟩,HP0,Hi (Mod.refl _ _),Hi (fun j h=> .inl h)⟩
 case round=>
  obtain⟨i,P,hi,rfl,HOi,HP,HM,HX⟩:=hrel;by_cases hlt:i<nA
  ·have hd:=Dt hlt;obtain⟨c,hc⟩:∃c,A[i]? =some c:=⟨_,List.getElem?_eq_getElem (by have:=HN.out;omega)⟩;obtain⟨g,o,C,U,fr,rfl,kg,he,hle⟩:=(HL.out.2.1.mod HM.out (fun b o e hs=>by have h1:=HL.out.2.2.2 b o e;have h2:=(HLO.out b hs).1;omega)).block hc;have c0:=cellC he (j:=0) (v:=u8v c) rfl;simp only[Nat.mul_one,Nat.add_zero]at c0;have HCC:=Hi hc;obtain⟨k,hk⟩:∃k,c.toNat=k:=⟨_,rfl⟩;have hkb:k<256:=by rw[←hk];exact c.toNat_lt
   have hw:IntKind.i64.wrap (k:Int)=(k:Int):=by rw[IntKind.wrap_i64];omega
   replace c0:C[o+i]? =some (.int .u8 (k:Int)):=by rw[←hk];exact c0
   have HK:=Hi hk;clear he hle hc hk;by_cases hge:nL≤k
   ·have hd2:=Dt hge;have HE:Hid (pickP L A=none):=Hi (by rw[HP.out,preK_none HCC.out (by rw[HK.out,HN.out.1];exact hge)]);go_wp2_with fail;refine bodyPost_ret (results_tmp2 rfl _ _ _) rfl ?_;unfold PickA;rw[HE.out];exact⟨HM.out,rfl⟩
   ·have hd2:=Df hge;have hkl:k<nL:=by omega
    obtain⟨y,hy⟩:∃y,L[k]? =some y:=⟨_,List.getElem?_eq_getElem (by have:=HN.out;omega)⟩;obtain⟨g',o',C',U',fr',rfl,kl,he,hle⟩:=(HL.out.1.mod HM.out (fun b o e hs=>by have h1:=HL.out.2.2.1 b o e;have h2:=(HLO.out b hs).1;omega)).block hy;have HP2:Hid (pickP L A=preK (P++[y]) (pickP L (A.drop (i+1)))):=Hi (by rw[HP.out,preK_step HCC.out (by rw[HK.out];exact hy)]);clear hy;have hbs:=bsKeyT y;obtain⟨a2,c2,rfl,_⟩:=HOi.out.1.at keysT;generalize hll:(O++P).length=ll at *;have HLL:Hid (ll=O.length+i):=Hi (by rw[←hll,List.length_append,HOi.out.2]);clear hll;go_upto_region 6 with fail;have Lkl:=Ls kl;refine ZP0 [0,0,0,0,1,3,5,0] ?_
    iterate 5 first|refine Zv ?_|refine Zd ?_
    refine Zy hbs fun p26 hp26=> ?_;refine Zi fun w3 hr=> ?_;replace kl:=hr.q kl;obtain⟨gp26,kp26⟩:=hr.b p26;have HM3:=Hi (HM.out.then0 hr.mod);have HO3:=Hi (HOi.out.1.mod0 hr.mod);have HSZ:=Hi hr.mod.size;have hsz:=hr.mod.size;clear hr hbs he hle kl kg;obtain⟨v5,w5,hap,hO5,m5,hn5⟩:=SlOwn.append keysT (q:=[y]) (c:=1) HO3.out (SlAt.one kp26 y rfl (kc_size _)) (by have:=HN.out;have:=HLL.out;have:=HOi.out.2;simp only[List.length_append,List.length_singleton];omega) (by decide) (Nat.le_trans HBS.out HM3.out.size) 45;have HO5:Hid (SlOwn kc 32 110 w5 base v5 (O++(P++[y]))∧(P++[y]).length=i+1):=Hi ⟨by rw[←List.append_assoc];exact hO5,by rw[List.length_append,HOi.out.2];rfl⟩;have HM5:Hid (Mod (fun j=>v.ownBlock=some j) w w5):=Hi (HM3.out.then m5 (fun j hj e=>by
     rcases HX.out j e with h|h
     ·exact h
     ·omega))
    have HX5:Hid (∀j,v5.ownBlock=some j→v.ownBlock=some j∨w.heap.size≤j):=Hi (fun j hj=>by
     rcases hn5 with h|h
     ·exact HX.out j (h.symm.trans hj)
     ·rw[h]at hj;cases hj;exact .inr HM3.out.size)
    clear hO5 m5 hn5 kp26;refine ZA hap ?_;refine Ze ?_;refine TE.nil ?_;go_wp2_with fail;go_roundw
    case rel=>exact⟨i+1,P++[y],by omega,by go_num,HO5,HP2,HM5,HX5⟩
    case measure=>simp[intOf];omega
  ·have hd:=Df hlt;have HE:Hid (pickP L A=some P):=Hi (by
    rw[HP.out,List.drop_of_length_le (by have:=HN.out;omega)];simp[preK,pickP])
   obtain⟨s,hs⟩:∃s:Value,s=s:=⟨.nilIface,rfl⟩;go_wp2_with fail;refine bodyPost_ret (results_tmp2 rfl _ _ _) rfl ?_;unfold PickA;rw[HE.out];exact⟨HM.out,_,rfl,HOi.out.1,HX.out⟩
section
attribute [local go_sem↓] wlLo ldLo stLo
attribute [local go_sem] lor32 lor33 lor32' lor33' zLo_size lor_size lor_one
theorem lor_key (y:LoR):(lor y).extract 0 32=kc y.t:=kx_key _ _
attribute [local go_sem] lor_key
def LoF (w:World) (y:LoR):Prop:=(SlAt uc 1 w y.w.a y.w.l∧(∀g o,y.w.a=some ⟨g,o,none⟩→g<w.heap.size)∧y.w.l.length≤65535)∧(SlAt uc 1 w y.r.a y.r.l∧(∀g o,y.r.a=some ⟨g,o,none⟩→g<w.heap.size)∧y.r.l.length≤65535)
theorem res_none {T:TbL} {X:List LoR} {i:Nat} {y:LoR} {O:List Key×List Key} (h:X[i]? =some y) (hf:tbFind T y.t=none):resP T ((X.drop i).map loP) O= .error 11:=by
 obtain⟨hi,e⟩:=List.getElem?_eq_some_iff.1 h;rw[List.drop_eq_getElem_cons hi,e,List.map_cons,resP];show(match tbFind T y.t with|none=>_|some l=>_)=_;rw[hf]
theorem res_bad {T:TbL} {X:List LoR} {i:Nat} {y:LoR} {O:List Key×List Key} {l:List Key} (h:X[i]? =some y) (hf:tbFind T y.t=some l) (hb:pickP l y.w.l=none∨pickP l y.r.l=none):resP T ((X.drop i).map loP) O= .error 8:=by
 obtain⟨hi,e⟩:=List.getElem?_eq_some_iff.1 h;rw[List.drop_eq_getElem_cons hi,e,List.map_cons,resP];show(match tbFind T y.t with|none=>_|some l=>match pickP l y.w.l,pickP l y.r.l with|some a,some b=>_|_,_=>_)=_;rw[hf];simp only;rcases hb with hb|hb
 ·rw[hb]
 ·rw[hb];cases pickP l y.w.l<;>rfl
theorem res_step {T:TbL} {X:List LoR} {i:Nat} {y:LoR} {O:List Key×List Key} {l a b:List Key} (h:X[i]? =some y) (hf:tbFind T y.t=some l) (ha:pickP l y.w.l=some a) (hb:pickP l y.r.l=some b):resP T ((X.drop i).map loP) O=resP T ((X.drop (i+1)).map loP) (O.1++a,O.2++b):=by
 obtain⟨hi,e⟩:=List.getElem?_eq_some_iff.1 h;rw[List.drop_eq_getElem_cons hi,e,List.map_cons,resP];show(match tbFind T y.t with|none=>_|some l=>match pickP l y.w.l,pickP l y.r.l with|some a,some b=>_|_,_=>_)=_;rw[hf];simp only;rw[ha,hb]
theorem pick_len {l:List Key}:∀ {A:List UInt8} {P:List Key},pickP l A=some P→P.length=A.length
 |[],P,h=>by
  rw[pickP]at h;cases h;rfl
 |c::A,P,h=>by
  rw[pickP]at h;split at h
  ·cases h
  ·cases hp:pickP l A with
   |none=>rw[hp]at h;cases h
   |some Q=>
    rw[hp]at h;cases h;simp[pick_len hp]
def ResA (T:TbL) (X:List LoR) (w:World) (e:Ending) (w':World):Prop:=Mod (fun _=>False) w w'∧match resP T (X.map loP) ([],[])with
 | .ok y=>∃va vb,e= .returned (.tuple #[va,vb,.int .i64 0])∧NewS kc 32 110 w.heap.size w' va y.1∧NewS kc 32 110 w.heap.size w' vb y.2
 | .error n=>e= .returned (.tuple #[.slice none 0 0,.slice none 0 0,.int .i64 (n:Int)])
theorem resolve_c {b h r:Nat} {T:TbL} {X:List LoR} {xa:Option Addr} {xc:Nat} (w:World) (H:RegA b h r T w) (hX:SlAt lor 34 w xa X) (hXl:∀y∈X,LoF w y) (hn:X.length≤1000000) (hs:loSum X≤800000):
  Calls Tryz.prog 34 #[pV r,.slice xa X.length xc] w (ResA T X w):=by
 obtain⟨n,hnX⟩:∃n,X.length=n:=⟨_,rfl⟩;have HX:=Hi (Ai hX (Ai hXl (Ai hnX hs)));have HRG:=Hi H;obtain⟨M,⟨kr,es,cl,kh,HM0⟩,hT,H3,H4,H5⟩:=id H;have hlk:∀(k:Key) wq,wq.heap[h]? =some (.map es cl)→(Instr.lookup 105 (.map (some h)) (.agg (kc k)) true).run Tryz.prog wq= .ok (.tuple #[((lkp k M).map slK).getD (slK ⟨none,[],0⟩),.bool (lkp k M).isSome]) wq:=fun k wq hq=>HM0.lookup keyTR Tryz.underlying105 slK_zero wq hq k true;have HLK:=Hi hlk;have H3':=Hi H3;have HTT:=Hi hT;rw[hnX]at hn⊢;clear hX hXl hnX hs H HM0 hlk H3 hT H4 H5;go_enter Tryz.func34,Tryz.ntmps34;go_wp2_with fail;go_at_call 69;refine(there11_c _ kr).mono ?_;rintro e w1 ⟨rfl,rfl⟩;have HP0:Hid (resP T (X.map loP) ([],[])=resP T ((X.drop 0).map loP) ([],[])):=Hi (by rw[List.drop_zero]);have HKR:=Hi kr;have HKH:=Hi kh;clear kr kh;go_wp2_with fail;go_loopw [4,5,18] (fun s4 s5 s18 ws=>∃(i:Nat) (Wl Rl:List Key),i≤n∧s18= .int .i64 (i:Int)∧Hid (SlOwn kc 32 110 ws w1.heap.size s4 Wl∧SlOwn kc 32 110 ws w1.heap.size s5 Rl∧Wl.length+Rl.length=loSum (X.take i)∧∀j,s4.ownBlock=some j→s5.ownBlock≠some j)∧Hid (resP T (X.map loP) ([],[])=resP T ((X.drop i).map loP) (Wl,Rl))∧Hid (Mod (fun _=>False) w1 ws)) (fun _ _ s18 _=>n-(intOf s18).toNat)
 case atStart=>exact⟨0,[],[],Nat.zero_le _,rfl,Hi ⟨SlOwn.nil _ _,SlOwn.nil _ _,by simp[loSum],fun j h=>by cases h⟩,HP0,Hi (Mod.refl _ _)⟩
 case round=>
  obtain⟨i,Wl,Rl,hi,rfl,HO,HP,HM⟩:=hrel;by_cases hlt:i<n
  ·have hd:=Dt hlt;obtain⟨y,hy⟩:∃y,X[i]? =some y:=⟨_,List.getElem?_eq_getElem (by have:=HX.out.2.2.1;omega)⟩;obtain⟨g,o,C,U,fr,rfl,kg,he,hle⟩:=(HX.out.1.mod0 HM.out).block hy;have HY:=Hi hy;have kr:=HM.out.at0 HKR.out;have kh:=HM.out.at0 HKH.out;clear hy;go_upto_region 5 with fail;have Lkg:=Ls kg;have Lkr:=Ls kr;have Lkh:=Ls kh;refine ZP0 [0,1,3,4] ?_;refine Zv ?_;refine Zd ?_;refine Za alLo fun p8 hp8=> ?_;refine Zt ?_;refine TD.nil (fun w3 hr=> ?_);replace kg:=hr.q kg;replace kr:=hr.q kr;replace kh:=hr.q kh;obtain⟨gp8,kp8⟩:=hr.b p8;have HM3:=Hi (HM.out.then0 hr.mod);have HO3:=Hi (Ai (HO.out.1.mod0 hr.mod) (HO.out.2.1.mod0 hr.mod));clear hr he hle kg;cases hk:lkp y.t M with
   |none=>
    have hlk3:∀wq,Mod (fun _=>False) w3 wq→(Instr.lookup 105 (.map (some h)) (.agg (kc y.t)) true).run Tryz.prog wq= .ok (.tuple #[.slice none 0 0,.bool false]) wq:=fun wq hq=>by
     have:=HLK.out y.t wq (hq.at0 kh);rw[hk]at this;exact this
    have HE:Hid (resP T (X.map loP) ([],[])= .error 11):=Hi (by rw[HP.out];exact res_none HY.out (by rw[←HTT.out,lkp_tb,hk];rfl));clear hk;go_upto_region 6 with fail;have Lkr:=Ls kr;have Lkp8:=Ls kp8;refine ZP [0,0,0,1,0,1,1,0,0,0,0,0] ?_
    iterate 6 first|refine Zv ?_|refine Zd ?_
    (refine TD.lookup (v:= ?v11) (p:= ?p11) (q:= ?q11) (Mod.refl _ _) (by simp only[zK];rfl) rfl (by rfl) rfl ?hx11 ?hz11 (fun wq hSq=> ?y11) ?n11;(case hx11=>simp only[zM];try rfl);(case hz11=>simp only[zM];try rfl);(case y11=>(rw[hlk3 wq hSq];(try with_reducible rfl)));try simp only[zL])
    iterate 5 refine Zv ?_
    refine TD.nil (fun w4 hr=> ?_);replace kr:=hr.q kr;replace kp8:=hr.q kp8;have HM4:=Hi (HM3.out.then0 hr.mod);clear hr hlk3;go_wp2_with fail;refine bodyPost_ret (results_tmp3 rfl _ _ _) rfl ?_;unfold ResA;rw[HE.out];exact⟨HM4.out,rfl⟩
   |some s=>
    obtain⟨a4,c4,rfl,_⟩:=HO.out.1.at keysT;obtain⟨a5,c5,rfl,_⟩:=HO.out.2.1.at keysT;obtain⟨hsa,hsb⟩:=H3'.out (y.t,s) (lkp_mem hk);have hft:tbFind T y.t=some s.l:=by rw[←HTT.out,lkp_tb,hk];rfl
    have HFT:=Hi hft;have HSA:Hid (SlAt kc 32 w1 s.a s.l∧(∀g o,s.a=some ⟨g,o,none⟩→g<w1.heap.size)∧s.l.length≤256):=Hi ⟨(WAtG.of (show NewS kc 32 110 b w1 (.slice s.a s.l.length s.c) s.l from hsa)).sl,fun g o e=>(hsa.lt g (by show(Value.slice s.a s.l.length s.c).ownBlock=some g;rw[e];rfl)).2,hsb⟩;have HYF:=Hi (HX.out.2.1 y (List.mem_of_getElem? HY.out));have hlk3:∀wq,Mod (fun _=>False) w3 wq→(Instr.lookup 105 (.map (some h)) (.agg (kc y.t)) true).run Tryz.prog wq= .ok (.tuple #[.slice s.a s.l.length s.c,.bool true]) wq:=fun wq hq=>by
     have:=HLK.out y.t wq (hq.at0 kh);rw[hk]at this;exact this
    have HLE:Hid (Wl.length≤900000∧Rl.length≤900000):=Hi (by
     have h1:=HO.out.2.2.1;have h2:loSum (X.take i)≤loSum X:=by
      conv=>rhs;rw[←List.take_append_drop i X]
      unfold loSum;rw[List.map_append,List.sum_append];omega
     have h3:=HX.out.2.2.2;omega)
    have HP8:Hid (∀j,((Value.slice a4 Wl.length c4).ownBlock=some j∨(Value.slice a5 Rl.length c5).ownBlock=some j)→j≠p8):=Hi (fun j hj e=>by
     rcases hj with hj|hj
     ·have:=(HO.out.1.lt j hj).2;omega
     ·have:=(HO.out.2.1.lt j hj).2;omega)
    clear hsa hsb hft hk;go_upto_region 6 with fail;have Lkr:=Ls kr;have Lkp8:=Ls kp8;have Lkh:=Ls kh;refine ZP [0,0,0,1,0,1,1,0,0,0,0,0] ?_
    iterate 6 first|refine Zv ?_|refine Zd ?_
    (refine TD.lookup (v:= ?v23) (p:= ?p23) (q:= ?q23) (Mod.refl _ _) (by simp only[zK];rfl) rfl (by rfl) rfl ?hx23 ?hz23 (fun wq hSq=> ?y23) ?n23;(case hx23=>simp only[zM];try rfl);(case hz23=>simp only[zM];try rfl);(case y23=>(rw[hlk3 wq hSq];(try with_reducible rfl)));try simp only[zL])
    iterate 5 refine Zv ?_
    refine TD.nil (fun w4 hr=> ?_);replace kr:=hr.q kr;replace kp8:=hr.q kp8;replace kh:=hr.q kh;have HM4:=Hi (HM3.out.then0 hr.mod);have HO4:=Hi (Ai (HO3.out.1.mod0 hr.mod) (HO3.out.2.mod0 hr.mod));have HW4:Hid (wr.heap.size≤w4.heap.size):=Hi (by have h1:=hr.mod.size;have h2:=Ls kp8;omega);clear hr hlk3;have hP1:=picked_c (base:=w1.heap.size) (lc:=s.c) (ac:=y.w.c) w4 HO4.out.1 HM4.out.size (HSA.out.1.mod0 HM4.out) (HYF.out.1.1.mod0 HM4.out) HSA.out.2.1 HYF.out.1.2.1 HSA.out.2.2 HYF.out.1.2.2 HLE.out.1;have HP1:=Hi hP1;clear hP1;go_wp2_with fail;go_at_call 76;refine HP1.out.mono ?_;rintro e w5 ⟨m5,hP⟩;have HM5:Hid (Mod (fun _=>False) w1 w5):=Hi (HM4.out.then m5 (fun j hj e=>by have:=(HO.out.1.lt j e).1;omega));have HO5:Hid (SlOwn kc 32 110 w5 w1.heap.size (.slice a5 Rl.length c5) Rl):=Hi (HO4.out.2.mod m5 (fun j hj e=>HO.out.2.2.2 j e hj));have HW5:Hid (w4.heap.size≤w5.heap.size):=Hi m5.size;replace kp8:=m5.at kp8 (fun e=>HP8.out p8 (.inl e) rfl);have HP2:=Hi (picked_c (base:=w1.heap.size) (lc:=s.c) (ac:=y.r.c) w5 HO5.out HM5.out.size (HSA.out.1.mod0 HM5.out) (HYF.out.2.1.mod0 HM5.out) HSA.out.2.1 HYF.out.2.2.1 HSA.out.2.2 HYF.out.2.2.2 HLE.out.2);clear m5 HP1 kr kh;cases h1:pickP s.l y.w.l with
    |none=>
     rw[h1]at hP;simp only at hP;subst hP;have HE:Hid (resP T (X.map loP) ([],[])= .error 8):=Hi (by rw[HP.out];exact res_bad HY.out HFT.out (.inl h1));go_wp2_with fail;go_at_call 76;refine HP2.out.mono ?_;rintro e w6 ⟨m6,hP⟩;have HM6:Hid (Mod (fun _=>False) w1 w6):=Hi (HM5.out.then m6 (fun j hj e=>by have:=(HO.out.2.1.lt j e).1;omega));clear m6;cases h2:pickP s.l y.r.l with
     |none=>
      rw[h2]at hP;simp only at hP;subst hP;go_wp2_with fail;refine bodyPost_ret (results_tmp3 rfl _ _ _) rfl ?_;unfold ResA;rw[HE.out];exact⟨HM6.out,rfl⟩
     |some B1=>
      rw[h2]at hP;obtain⟨v5,rfl,-,-⟩:=hP;go_wp2_with fail;refine bodyPost_ret (results_tmp3 rfl _ _ _) rfl ?_;unfold ResA;rw[HE.out];exact⟨HM6.out,rfl⟩
    |some A1=>
     rw[h1]at hP;obtain⟨v4,rfl,hO4,hx4⟩:=hP;have HV4:=Hi (Ai hO4 hx4);have H1:=Hi h1;clear hO4 hx4 h1;go_wp2_with fail;go_at_call 76;refine HP2.out.mono ?_;rintro e w6 ⟨m6,hP⟩;have HM6:Hid (Mod (fun _=>False) w1 w6):=Hi (HM5.out.then m6 (fun j hj e=>by have:=(HO.out.2.1.lt j e).1;omega));cases h2:pickP s.l y.r.l with
     |none=>
      rw[h2]at hP;simp only at hP;subst hP;have HE:Hid (resP T (X.map loP) ([],[])= .error 8):=Hi (by rw[HP.out];exact res_bad HY.out HFT.out (.inr h2));clear m6;go_wp2_with fail;refine bodyPost_ret (results_tmp3 rfl _ _ _) rfl ?_;unfold ResA;rw[HE.out];exact⟨HM6.out,rfl⟩
     |some B1=>
      rw[h2]at hP;obtain⟨v5,rfl,hO5,hx5⟩:=hP;have HPN:Hid (resP T (X.map loP) ([],[])=resP T ((X.drop (i+1)).map loP) (Wl++A1,Rl++B1)):=Hi (by rw[HP.out];exact res_step HY.out HFT.out H1.out h2);have HON:Hid (SlOwn kc 32 110 w6 w1.heap.size v4 (Wl++A1)∧SlOwn kc 32 110 w6 w1.heap.size v5 (Rl++B1)∧(Wl++A1).length+(Rl++B1).length=loSum (X.take (i+1))∧∀j,v4.ownBlock=some j→v5.ownBlock≠some j):=Hi (by
       have hl4:=HV4.out.1.lt;have hs4:=HO.out.1.lt;have hs5:=HO.out.2.1.lt;refine⟨HV4.out.1.mod m6 (fun j hj e=> ?_),hO5,?_,fun j hj e=> ?_⟩
       ·have h5:=(hs5 j e).2;have h6:=HW4.out;rcases HV4.out.2 j hj with h|h
        ·exact HO.out.2.2.2 j h e
        ·omega
       ·rw[List.length_append,List.length_append,pick_len H1.out,pick_len h2,loSum_snoc HY.out,←HO.out.2.2.1];omega
       ·have h6:=HW4.out;have h7:=HW5.out;have h8:=(hl4 j hj).2;rcases HV4.out.2 j hj with h|h
        ·rcases hx5 j e with h'|h'
         ·exact HO.out.2.2.2 j h h'
         ·have:=(hs4 j h).2;omega
        ·rcases hx5 j e with h'|h'
         ·have:=(hs5 j h').2;omega
         ·omega)
      clear m6 hO5 hx5 h2;go_wp2_with fail;go_roundw
      case rel=>exact⟨i+1,Wl++A1,Rl++B1,by omega,by go_num,HON,HPN,HM6⟩
      case measure=>simp[intOf];omega
  ·have hd:=Df hlt;have HE:Hid (resP T (X.map loP) ([],[])= .ok (Wl,Rl)):=Hi (by
    rw[HP.out,List.drop_of_length_le (by have:=HX.out.2.2.1;omega)];rfl)
   obtain⟨a4,c4,v4,rfl,hcl4,hN4⟩:=HO.out.1.clip keysT;obtain⟨a5,c5,v5,rfl,hcl5,hN5⟩:=HO.out.2.1.clip keysT;have HC4:=Hi hcl4;have HC5:=Hi hcl5;have HN45:=Hi (Ai hN4 hN5);clear hcl4 hcl5 hN4 hN5;go_wp2_with fail;go_at_call 77;refine(clipKr_c v4 _ _ HC4.out).mono ?_;rintro e w5 ⟨rfl,rfl⟩;go_wp2_with fail;go_at_call 77;refine(clipKr_c v5 _ _ HC5.out).mono ?_;rintro e w6 ⟨rfl,rfl⟩;go_wp2_with fail;refine bodyPost_ret (results_tmp3 rfl _ _ _) rfl ?_;unfold ResA;rw[HE.out];exact⟨HM.out,_,_,rfl,HN45.out.1,HN45.out.2⟩
end
end Go.Proofs.YtceodkliooeccaaGreatDoor