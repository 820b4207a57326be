/- The lemmas of the proof, part XO8: how the program and its data lie in memory, and what its functions do. -/
import Derived.Test.YtceodkliooeccaaGreatDoorXR7
import Derived.Lib.MinMax
set_option linter.unusedSimpArgs false
set_option linter.unusedVariables false
set_option linter.unusedSectionVars false

set_option maxRecDepth 20000
set_option maxHeartbeats 6400000
namespace Go.Proofs.YtceodkliooeccaaGreatDoor
open Go.RowKit
open Go.ChangeMaps (setBlock)
attribute [local go_sem↓] eqKey1 ldKey ldSg ldTc stKey stSg stTc wlKey wlTc
attribute [local go_sem] Value.cells cell_blk frozen_blk kc_ext kc_one kc_one0 kc_size one_bool one_int one_map one_ptr one_slice sgc_ext sgc_one' sgc_one0 sgc_size txr0 txr0' txr38 txr38' txr39 txr39' txr_all txr_one txr_one' txr_size zKey_size zTx_size
section
attribute [local go_sem↓] wlRdy ldRdy stRdy
attribute [local go_sem] zTc_size zTc_ext zTc_all zTc_all0 txr_ms rdr_size rdr_all rdr_one zRdy_size
theorem bRdy0 (w:World):(Instr.build 58 #[]).run Tryz.prog w= .ok (.agg zRdy) w:=by kernel_rfl
theorem zRdy_one:zRdy.all (·.oneCell') 0 48=true:=rdr_one rd0
attribute [local go_sem] zRdy_one
theorem ldRdyR {w:World} {p:Nat} {r:RdR} {U:TypeId} {fr:Nat×Nat} (h:w.heap[p]? =some (.cells (rdr r) U fr)):(Instr.loadAt 58 (.pointer (some ⟨p,0,none⟩))).run Tryz.prog w= .ok (.agg (rdr r)) w:=by
 rw[ldRdy];simp[h,rdr_size,rdr_all]
theorem ldRdyZ {w:World} {p:Nat} {U:TypeId} {fr:Nat×Nat} (h:w.heap[p]? =some (.cells zRdy U fr)):(Instr.loadAt 58 (.pointer (some ⟨p,0,none⟩))).run Tryz.prog w= .ok (.agg zRdy) w:=ldRdyR (r:=rd0) h
def ryP (r:RdR):RyP:=⟨r.b.l,txP r,r.ro.l,r.un,r.pr,r.bad.toInt,r.fee,r.cost,r.prio⟩
def RyO (b:Nat) (w:World) (r:RdR):Prop:=TxO b w r∧NewS uc 1 5 b w (.slice r.b.a r.b.l.length r.b.c) r.b.l∧NewS rcr 34 192 b w (.slice r.ro.a r.ro.l.length r.ro.c) r.ro.l∧
 (∀g∈blk r,∀h,(Value.slice r.ro.a r.ro.l.length r.ro.c).ownBlock=some h→g<h)∧(∀g∈blk r,∀h,(Value.slice r.b.a r.b.l.length r.b.c).ownBlock=some h→g<h)∧
 ∀g h,(Value.slice r.ro.a r.ro.l.length r.ro.c).ownBlock=some g→(Value.slice r.b.a r.b.l.length r.b.c).ownBlock=some h→g<h
def ReaP (T:TbL) (w:World) (l:List UInt8) (e:Ending) (w':World):Prop:=Mod (fun _=>False) w w'∧match readyP T l with
 | .ok y=>∃r,e= .returned (.tuple #[.agg (rdr r),i64n 0])∧RyO w.heap.size w' r∧ryP r=y∧TxB (txP r)
 | .error n=>e= .returned (.tuple #[.agg zRdy,i64n n])
theorem fnd_ne (T:TbL) (k:Key):∃e0:Nat,(if(tbFind T k).isSome then(0:Int)else 11)=(e0:Int)∧¬((e0:Int)=2):=by
 by_cases h:(tbFind T k).isSome=true
 ·exact⟨0,by rw[if_pos h];rfl,by decide⟩
 ·exact⟨11,by rw[if_neg h];rfl,by decide⟩
theorem wire_few {l:List UInt8} {x:TxP} (h:wireP l= .ok x):totP x≤64∧chkP x=0:=by
 unfold wireP at h;split at h
 ·cases h
 ·split at h
  ·rename_i h0;cases h;refine⟨?_,h0⟩;unfold chkP at h0;split at h0
   ·cases h0
   ·split at h0
    ·cases h0
    ·split at h0
     ·cases h0
     ·split at h0
      ·cases h0
      ·rename_i h1;have:fewP x=true:=by simpa using h1
       exact of_decide_eq_true this
  ·cases h
theorem res_ne {T:TbL}:∀ {L:List LoP} {o:List Key×List Key} {n:Nat},resP T L o= .error n→n≠0
 |[],o,n,h=>by cases h
 |x::xs,o,n,h=>by
  unfold resP at h;split at h
  ·cases h;decide
  ·split at h
   ·exact res_ne h
   ·cases h;decide
theorem TxO.lo {b:Nat} {w:World} {x:RdR} (h:TxO b w x) (hB:TxB (txP x)):∀y∈x.lks.l,LoF w y:=by
 obtain⟨h1,h2,h3,h4,h5,h6,h7⟩:=h;obtain⟨b1,b2,⟨b3,b4⟩,b5,b6⟩:=hB;simp only[txP,msgP,List.length_map]at b1 b2 b3 b4 b5 b6;intro i hi;obtain⟨y,hy,_,e2,e3,e4,e5⟩:=h6.1.left i hi;have hb:=b6 y hy;rw[←e2]at e4;rw[←e3]at e5;obtain⟨a4,q4,s4,o4⟩:=e4.at;obtain⟨a5,q5,s5,o5⟩:=e5.at;injection q4 with q41 q42 q43
 injection q5 with q51 q52 q53
 exact⟨⟨by rw[q41];exact s4,fun g o e=>(o4 g o (by rw[←q41];exact e)).2,by rw[e2];exact hb.1⟩,by rw[q51];exact s5,fun g o e=>(o5 g o (by rw[←q51];exact e)).2,by rw[e3];exact hb.2⟩
theorem lo_tot (z:RdR):loSum z.lks.l≤totP (txP z):=by
 have:(z.lks.l.map loP).map (fun l=>l.w.length+l.r.length)=z.lks.l.map (fun x=>x.w.l.length+x.r.l.length):=by
  rw[List.map_map];rfl
 show(z.lks.l.map (fun x=>x.w.l.length+x.r.l.length)).sum≤(msgP z).ks.length+((z.lks.l.map loP).map (fun l=>l.w.length+l.r.length)).sum;rw[this];exact Nat.le_add_left _ _
theorem rdrT (x:RdR):(rdr x).toList= .slice x.b.a x.b.l.length x.b.c::((txr x).toList++(rpost x).drop 2):=by
 simp[rdr,txr,mx,rpre,rpost]
theorem zRdyT:zRdy.toList.drop 45=[.int .u64 0,.int .u64 0,.int .u64 0]:=by
 simp[zRdy,rdr,mx,rpre,rpost,rd0,key0,List.drop_append]
theorem bldRy (z:RdR) (a1 ra:Option Addr) (l:List UInt8) (ro:List Role) (un pr:UInt64) (bad:Int64) (w:World):
  (Instr.build 58 #[(0,.slice a1 l.length l.length),(1,.agg (txr z)),(2,.slice ra ro.length ro.length),(3,.agg (bgR un pr bad.toInt))]).run Tryz.prog w= .ok (.agg (rdr {z with b:=⟨a1,l,l.length⟩,ro:=⟨ra,ro,ro.length⟩,un:=un,pr:=pr,bad:=bad,fee:=0,cost:=0,prio:=0})) w:=by
 refine run_build_struct (z:= .agg zRdy) (places:= #[(0,1),(1,40),(41,1),(42,3),(45,1),(46,1),(47,1)]) Tryz.underlying58 (fun w=>by kernel_rfl) (fun w=>by kernel_rfl) ?_ w;show Instr.fill _ zRdy [(0,_),(1,_),(2,_),(3,_)]=_;rw[fill_cons (off:=0) (n:=1) rfl rfl (by rw[zRdy_size];omega),fill_cons (off:=1) (n:=40) rfl (by simp[Value.cells,txr_size]) (by rw[wr_size,zRdy_size];omega),fill_cons (off:=41) (n:=1) rfl rfl (by rw[wr_size,wr_size,zRdy_size];omega),fill_cons (off:=42) (n:=3) rfl rfl (by rw[wr_size,wr_size,wr_size,zRdy_size];omega)];refine congrArg some ?_;apply Array.toList_inj.1;obtain⟨tl,htl⟩:∃tl,(txr z).toList=tl:=⟨_,rfl⟩;have hk:tl.length=40:=by rw[←htl];simp[txr_size]
 obtain⟨zl,hzl⟩:∃zl,zRdy.toList=zl:=⟨_,rfl⟩;have hzk:zl.length=48:=by rw[←hzl];simp[zRdy_size]
 have hz45:=zRdyT;rw[hzl]at hz45;rw[rdrT,show txr {z with b:=⟨a1,l,l.length⟩,ro:=⟨ra,ro,ro.length⟩,un:=un,pr:=pr,bad:=bad,fee:=0,cost:=0,prio:=0}=txr z from rfl,htl];simp only[Value.cells];rw[htl];rw[wr_list _ _ _ (by simp only[wr_size,zRdy_size,bgR];simp),wr_list _ _ _ (by simp only[wr_size,zRdy_size];simp),wr_list _ _ _ (by simp only[wr_size,zRdy_size];rw[hk];decide),wr_list _ _ _ (by simp only[zRdy_size];simp),hzl];simp[List.take_append,List.drop_append,hk,hzk,bgR,rpost,hz45,List.take_of_length_le,List.drop_of_length_le]
theorem rdr_bg (x:RdR):(rdr x).extract 42 45=bgR x.un x.pr x.bad.toInt:=by
 have:=part_of (pre:=rpre x++(x.rc.l.map bc++(rpost x).take 3)) (mid:=((rpost x).drop 3).take 3) (post:=(rpost x).drop 6) (a:=42) (b:=45) (by simp[rpre,rpost,x.rc.h]) (by simp[rpre,rpost,x.rc.h]);simpa[rdr,bgR,mx,rpre,rpost] using this
theorem rdr42 (x:RdR):(rdr x)[42]? =some (u64v x.un):=mx_post 3
theorem rdr42' (x:RdR) (h:42<(rdr x).size):(rdr x)[42]=u64v x.un:=at_get (rdr42 x) h
theorem rdr46 (x:RdR):(rdr x)[46]? =some (u64v x.cost):=mx_post 7
theorem rdr46' (x:RdR) (h:46<(rdr x).size):(rdr x)[46]=u64v x.cost:=at_get (rdr46 x) h
theorem set_fee (x:RdR) (z:UInt64):(rdr x).setIfInBounds 45 (u64v z)=rdr {x with fee:=z}:=mx_setpost 6 _
theorem set_cost (x:RdR) (z:UInt64):(rdr x).setIfInBounds 46 (u64v z)=rdr {x with cost:=z}:=mx_setpost 7 _
theorem set_prio (x:RdR) (z:UInt64):(rdr x).setIfInBounds 47 (u64v z)=rdr {x with prio:=z}:=mx_setpost 8 _
theorem budR_bg (s:BuP) (h:s.badI= -1∨∃j:Nat,s.badI=(j:Int)∧j≤1000000):∃b:Int64,b.toInt=s.badI∧budR s=bgR s.units s.price b.toInt:=by
 refine⟨Int64.ofInt s.badI,?_,?_⟩
 ·rw[Int64.toInt_ofInt_of_le (by rcases h with h|⟨j,h,_⟩<;>rw[h]<;>simp<;>omega) (by rcases h with h|⟨j,h,_⟩<;>rw[h]<;>simp<;>omega)]
 ·rw[Int64.toInt_ofInt_of_le (by rcases h with h|⟨j,h,_⟩<;>rw[h]<;>simp<;>omega) (by rcases h with h|⟨j,h,_⟩<;>rw[h]<;>simp<;>omega)];rfl
theorem budL_bad {m:MsP}:∀ {L:List InP} {s:BuP} {j:Nat},(∀k,s.bad=some k→k≤j)→∀k,(budL m s j L).bad=some k→k≤j+L.length
 |[],s,j,h,k,hk=>h k hk
 |x::L,s,j,h,k,hk=>by
  rw[budL]at hk;have h1:∀k,(budStep m s j x).bad=some k→k≤j+1:=by
   intro k hk;unfold budStep at hk;split at hk
   ·have:=h k hk;omega
   ·split at hk
    ·have:=h k hk;omega
    ·split at hk
     ·cases hk;omega
     ·split at hk
      ·cases hk;omega
      ·have:=h k hk;omega
     ·split at hk
      ·cases hk;omega
      ·have:=h k hk;omega
  have:=budL_bad h1 k hk;rw[List.length_cons];omega
theorem budP_bg (m:MsP) (h:m.ins.length≤900000):∃b:Int64,b.toInt=(budP m).badI∧budR (budP m)=bgR (budP m).units (budP m).price b.toInt:=by
 refine budR_bg _ ?_;cases hb:(budP m).bad with
 |none=>exact .inl (by unfold BuP.badI;rw[hb])
 |some j=>
  have:=budL_bad (m:=m) (L:=m.ins) (s:=⟨0,none,none,none⟩) (j:=0) (fun k h=>by cases h) j hb;exact .inr ⟨j,by unfold BuP.badI;rw[hb],by omega⟩
theorem res_len {T:TbL}:∀ {L:List LoP} {o y:List Key×List Key},resP T L o= .ok y→y.1.length+y.2.length=o.1.length+o.2.length+(L.map (fun l=>l.w.length+l.r.length)).sum
 |[],o,y,h=>by cases h;simp
 |x::xs,o,y,h=>by
  unfold resP at h;split at h
  ·cases h
  ·split at h
   ·rename_i a b ha hb;have h1:=res_len h;have h2:=pick_len ha;have h3:=pick_len hb;simp only[List.length_append]at h1;rw[List.map_cons,List.sum_cons];omega
   ·cases h
def ryR (z:RdR) (a1 ra:Option Addr) (l:List UInt8) (n:Nat) (ro:List Role) (m:Nat) (un pr:UInt64) (bad:Int64) (fe co pi:UInt64):RdR:= {z with b:=⟨a1,l,n⟩,ro:=⟨ra,ro,m⟩,un:=un,pr:=pr,bad:=bad,fee:=fe,cost:=co,prio:=pi}
section
variable (z:RdR) (a1 ra:Option Addr) (l:List UInt8) (n:Nat) (ro:List Role) (m:Nat) (un pr:UInt64) (bad:Int64) (fe co pi:UInt64)
theorem ryR_fee (v:UInt64):(rdr (ryR z a1 ra l n ro m un pr bad fe co pi)).setIfInBounds 45 (u64v v)=rdr (ryR z a1 ra l n ro m un pr bad v co pi):=set_fee _ v
theorem ryR_cost (v:UInt64):(rdr (ryR z a1 ra l n ro m un pr bad fe co pi)).setIfInBounds 46 (u64v v)=rdr (ryR z a1 ra l n ro m un pr bad fe v pi):=set_cost _ v
theorem ryR_prio (v:UInt64):(rdr (ryR z a1 ra l n ro m un pr bad fe co pi)).setIfInBounds 47 (u64v v)=rdr (ryR z a1 ra l n ro m un pr bad fe co v):=set_prio _ v
theorem ryR_bg:(rdr (ryR z a1 ra l n ro m un pr bad fe co pi)).extract 42 45=bgR un pr bad.toInt:=rdr_bg _
theorem ryR42:(rdr (ryR z a1 ra l n ro m un pr bad fe co pi))[42]? =some (u64v un):=rdr42 _
theorem ryR42' (h:42<(rdr (ryR z a1 ra l n ro m un pr bad fe co pi)).size):(rdr (ryR z a1 ra l n ro m un pr bad fe co pi))[42]=u64v un:=rdr42' _ h
theorem ryR46:(rdr (ryR z a1 ra l n ro m un pr bad fe co pi))[46]? =some (u64v co):=rdr46 _
theorem ryR46' (h:46<(rdr (ryR z a1 ra l n ro m un pr bad fe co pi)).size):(rdr (ryR z a1 ra l n ro m un pr bad fe co pi))[46]=u64v co:=rdr46' _ h
theorem bldRyR (hn:l.length=n) (hm:ro.length=m) (w:World):
  (Instr.build 58 #[(0,.slice a1 n n),(1,.agg (txr z)),(2,.slice ra m m),(3,.agg (bgR un pr bad.toInt))]).run Tryz.prog w= .ok (.agg (rdr (ryR z a1 ra l n ro m un pr bad 0 0 0))) w:=by
 subst hn hm;exact bldRy z a1 ra l ro un pr bad w
end
end
section
attribute [local go_sem↓] wlRdy ldRdy stRdy wlMsg ldMsg stMsg ldBgd
attribute [local go_sem] zTc_size zTc_ext zTc_all zTc_all0 txr_ms rdr_size rdr_all rdr_one zRdy_size zRdy_one
theorem roles_len {m:MsP} {ws rs:List Key} {ro:List Role} (h:rolesP m ws rs= .ok ro):ro.length=m.ks.length+ws.length+rs.length:=by
 unfold rolesP at h;split at h
 ·cases h;simp[rolesL];omega
 ·cases h
def ClL (l:List UInt8) (n b:Nat) (v:Value):Land:=fun T w=>∃a c,v= .slice a n c∧(∀w2,(Instr.sliceAt 42 (.slice a n c) none (some (.int .i64 (n:Int))) (some (.int .i64 (n:Int)))).run Tryz.prog w2= .ok (.slice a n n) w2)∧NewS uc 1 5 b w (.slice a n n) l∧∀g,(Value.slice a n n).ownBlock=some g→T g
theorem goodCl (l:List UInt8) (n b:Nat) (v:Value):Good (ClL l n b v) where
 cl:=fun T w w' h hm=>by
  obtain⟨a,c,e,h1,h2,h3⟩:=h;exact⟨a,c,e,h1,h2.mod hm (fun g hg hn=>hn (h3 g hg)),h3⟩
 gr:=fun T T' w hT h=>by
  obtain⟨a,c,e,h1,h2,h3⟩:=h;exact⟨a,c,e,h1,h2,fun g hg=>hT g (h3 g hg)⟩
theorem clL {l:List UInt8} {n b:Nat} {v:Value} {T:Nat→Prop} {w w':World} (h:SlOwn uc 1 5 w' w.heap.size v l) (hb:b≤w.heap.size) (hn:l.length=n):ClL l n b v (Grow T w w') w':=by
 subst hn;obtain⟨a,c,e,h1,h2,h3,h4⟩:=clip_own bytesT h;obtain⟨a',c',v2,e',h1',h2'⟩:=h.clip bytesT;have hv:v2= .slice a l.length l.length:=by
  have e1:=h1 w';rw[h1' w']at e1;injection e1 with e1 _
 subst hv;subst e;exact⟨a,c,rfl,h1,h2'.base hb,fun g hg=> .inr (h2'.lt g hg)⟩
theorem ry_apt {w:World} {S:Nat→Prop} {b:Nat} (h:∀p,S p→∃R,w.heap[p]? =some (.cells R 58 (0,0))):Apt w S b:=fun g C E hg hk hE hs=>by
 obtain⟨R,hR⟩:=h g hs;rw[hR]at hk;cases hk
 revert hE
 decide
theorem ry_new {α:Type} {f:α→Array Value} {n:Nat} {E:TypeId} {b:Nat} {w:World} {v:Value} {l:List α} {S:Nat→Prop} (hv:NewS f n E b w v l) (hE:E≠58) (h:∀p,S p→∃R,w.heap[p]? =some (.cells R 58 (0,0))):∀g,v.ownBlock=some g→¬S g:=fun g hg hs=>by
 obtain⟨C,hk⟩:=hv.ty hg;obtain⟨R,hR⟩:=h g hs;rw[hR]at hk;cases hk;exact hE rfl
theorem TxO.da {b:Nat} {w:World} {x:RdR} (h:TxO b w x) (hB:TxB (txP x)):∀y∈x.ins.l,DaF w y:=by
 obtain⟨h1,h2,h3,h4,h5,h6,h7⟩:=h;obtain⟨b1,b2,⟨b3,b4⟩,b5,b6⟩:=hB;simp only[txP,msgP,List.length_map]at b1 b2 b3 b4 b5 b6;intro i hi;obtain⟨y,hy,_,e2,e3,e4,e5⟩:=h4.1.left i hi;have hb:=b4 y hy;rw[←e3]at e5;have hlen:i.d.l.length≤140737488355328:=by rw[e3];exact Nat.le_trans hb.2 (by decide)
 obtain⟨a5,q5,s5,o5⟩:=e5.at;injection q5 with q51 q52 q53
 refine⟨by rw[q51];exact s5,by omega,fun hn=> ?_,hlen⟩;rcases e5 with⟨e,hl⟩|⟨g,cur,e,_⟩
 ·injection e
 ·have e2:Value.slice i.d.a i.d.l.length i.d.c=_:=e;rw[hn]at e2;cases e2
theorem dSum_P (l:List InR):dSum l=dSumP (l.map inP):=by
 unfold dSum dSumP;rw[List.foldl_map];rfl
theorem ready_c {b h r:Nat} {T:TbL} {a:Option Addr} {l:List UInt8} {c:Nat} (w:World) (H:RegA b h r T w) (hB:BudW w) (hl:SlAt uc 1 w a l) (hc:l.length≤c) (hn:a=none→c=0) (hln:l.length≤900000) (hin:∀x,a=some x→x.block<w.heap.size∨l=[]):
  Calls Tryz.prog 8 #[.slice a l.length c,pV r] w (ReaP T w l):=by
 have HL:=Hi (Ai hl (Ai hc (Ai hn (Ai hln hin))));have HR:=Hi (Ai H hB);obtain⟨ll,hll⟩:∃ll,l.length=ll:=⟨_,rfl⟩;have HLL:=Hi hll;have HW:=Hi (fun w1 (m:Mod (fun _=>False) w w1)=>wire_c (c:=c) w1 (hl.mod0 m) hc hn hln (by intro x h;exact(hin x h).imp (fun h=>Nat.lt_of_lt_of_le h m.size) id));have hbk:=bK0;have hbr:=bRdy0;obtain⟨e0,he0,hen⟩:=fnd_ne T key0;have HF:=Hi he0;have hd0:=Df hen;rw[hll];clear H hB hl hc hn hln hin hll he0 hen;go_enter Tryz.func8,Tryz.ntmps8;go_upto_region 0 with fail;refine ZP0 [3,0] ?_;refine Za alRdy fun p4 hp4=> ?_;refine Zv ?_;refine TD.nil (fun w1 hr=> ?_);obtain⟨gp4,kp4⟩:=hr.b p4;have HM1:=Hi hr.mod;have HGP4:=Hi gp4;clear hr;go_upto_region 1 with fail;have Lkp4:=Ls kp4;refine ZR0 (fun _ _ v=>∃x,v= .tuple #[x,.int .i64 (e0:Int)]) [0,0,2,0,0,0,0,0] ?_;refine Zv ?_;refine Zu hbk ?_;(refine Zc ?_ (s:=by intro wq hSq;exact(findE_c key0 wq (HR.out.1.mod0 (HM1.out.then0 hSq))).mono (fun e w' h=>by obtain⟨⟨v,hv⟩,h2⟩:=h;rw[HF.out]at hv;exact⟨_,hv,⟨_,rfl⟩,h2⟩));rintro _ hC;obtain⟨x1,hC⟩:=hC;subst hC;try simp only[zL])
 iterate 5 refine Zv ?_
 refine TD.nil (fun w2 hr=> ?_);replace kp4:=hr.q kp4;have HM2:=Hi (HM1.out.then0 hr.mod);clear hr;go_upto_region 2 with fail;have Lkp4:=Ls kp4;refine ZR0 (fun _ _ v=>v= .bool false) [0,0,0,2] ?_
 iterate 3 refine Zv ?_
 (refine Zc ?_ (s:=by intro wq hSq;exact(eIs_c (e0:Int) 2 wq).mono (fun e w' h=>⟨_,by rw[h.1,hd0],rfl,by rw[h.2];exact Mod.refl _ _⟩));rintro _ hC;subst hC;try simp only[zL]);refine TD.nil (fun w3 hr=> ?_);replace kp4:=hr.q kp4;have HM3:=Hi (HM2.out.then0 hr.mod);clear hr hd0;have hG:=HW.out _ HM3.out;rw[HLL.out]at hG;go_upto_region 4 with fail;refine region_seq 8 rfl ?_;simp only[List.range,List.range.loop];refine Zq ?_;refine ZC hG ?hout (fun vn wn hR=> ?hret) (fun ch wn hR=> ?hpan)
 case hout=>
  intro w' h;unfold WirP at h;split at h
  ·obtain⟨_,_,h,_⟩:=h;cases h
  ·cases h.2
 case hpan=>
  exfalso;unfold WirP at hR;split at hR
  ·obtain⟨_,_,h,_⟩:=hR;cases h
  ·cases hR.2
 case hret=>
 obtain⟨hm,hr⟩:=hR;clear hG;have HM4:=Hi (HM3.out.trans hm);replace kp4:=hm.at0 kp4;clear hm;cases hres:wireP l with
 |error n1=>
  rw[hres]at hr;simp only at hr;cases hr;have h0:=chk_ne hres;have HE:Hid (readyP T l= .error n1):=Hi (by unfold readyP;rw[hres]);(try simp only[zL]);obtain⟨w4,rfl⟩:∃w4:World,w4=wn:=⟨_,rfl⟩
  iterate 3 refine Zq ?_
  (refine sq_alloc (by simp only[zK];rfl) (by rfl) rfl alTx (fun p8 wn gp8 kp8 mp8=> ?n20);try simp only[zL]);refine ZT ?_;refine ZQ kp8 fun wn kp8 mS=> ?_;refine Zq ?_;refine sq_nil ?_;have HM5:Hid (Mod (fun _=>False) w wn):=Hi ((HM4.out.trans mp8).then mS (fun i hi e=>by have:=HM4.out.size;omega));have hp48:p4<w4.heap.size:=Ls kp4;have kp4':wn.heap[p4]? =some (.cells zRdy 58 (0,0)):=mS.at (mp8.at0 kp4) (fun e=>by omega);have kp4:=kp4';have hw0:(!decide ((n1:Int)=0))=true:=by simp;omega
  clear mS mp8 kp8 kp4' hp48 gp8 hres h0;obtain⟨w5,rfl⟩:∃w5:World,w5=wn:=⟨_,rfl⟩;go_upto_region 5 with fail;have Lkp4:=Ls kp4;refine ZR0 (fun _ _ v=>v= .bool true) [0,2] ?_;refine Zv ?_;(refine Zc ?_ (s:=by intro wq hSq;exact(wrong_c (n1:Int) wq).mono (fun e w' h=>⟨_,by rw[h.1,hw0],rfl,by rw[h.2];exact Mod.refl _ _⟩));rintro _ hC;subst hC;try simp only[zL]);refine TD.nil (fun w6 hr=> ?_);replace kp4:=hr.q kp4;have HM:=Hi (HM5.out.then0 hr.mod);clear hr;go_upto_region 6 with fail;have Lkp4:=Ls kp4;refine ZP0 [0,0,5,0] ?_;refine Zu hbr ?_;refine Zv ?_;refine Zi fun w7 hr=> ?_;replace kp4:=hr.q kp4;have HMz:=Hi (HM.out.then0 hr.mod);clear hr;refine ZS ?_;refine ZM kp4 fun wn kp4 mS=> ?_;have HMy:=Hi (HMz.out.thenB mS (.inl gp4));clear mS;refine Ze ?_;refine TE.nil ?_;go_wp2_with fail;refine bodyPost_ret (results_ct rfl rfl (ldRdyZ kp4)) rfl ?_;unfold ReaP;rw[HE.out];exact⟨HMy.out,rfl⟩
 |ok x0=>
  rw[hres]at hr;obtain⟨z,hv0,hO,hzx,hB⟩:=hr;cases hv0;have HZ:=Hi (Ai hO (Ai hzx (Ai (hzx▸hB:TxB (txP z)) (Ai (wire_few hres).1 hres))));clear hO hzx hB hres;(try simp only[zL]);obtain⟨w4,rfl⟩:∃w4:World,w4=wn:=⟨_,rfl⟩
  iterate 3 refine Zq ?_
  (refine sq_alloc (by simp only[zK];rfl) (by rfl) rfl alTx (fun p8 wn gp8 kp8 mp8=> ?n33);try simp only[zL]);refine ZT ?_;refine ZQ kp8 fun wn kp8 mS=> ?_;refine Zq ?_;refine sq_nil ?_;replace kp8:wn.heap[p8]? =some (.cells (txr z) 53 (0,0)):=kp8;have m4:Mod (fun _=>False) w4 wn:=mp8.then mS (fun i hi e=>by omega);have HM5:Hid (Mod (fun _=>False) w wn):=Hi (HM4.out.then0 m4);have HO5:=Hi (HZ.out.1.mod0 m4);have HP8:=Hi (Ai gp8 (Ai (Ls kp4) m4.size));replace kp4:=m4.at0 kp4;clear mS mp8 gp8 m4;obtain⟨w5,rfl⟩:∃w5:World,w5=wn:=⟨_,rfl⟩;go_upto_region 5 with fail;have Lkp4:=Ls kp4;have Lkp8:=Ls kp8;refine ZR0 (fun _ _ v=>v= .bool false) [0,2] ?_;refine Zv ?_;(refine Zc ?_ (s:=by intro wq hSq;exact(wrong_c 0 wq).mono (fun e w' h=>⟨_,by rw[h.1];rfl,rfl,by rw[h.2];exact Mod.refl _ _⟩));rintro _ hC;subst hC;try simp only[zL]);refine TD.nil (fun wq2 hr=> ?_);replace kp4:=hr.q kp4;replace kp8:=hr.q kp8;have HM6:=Hi (HM5.out.then0 hr.mod);have HO6:=Hi (HO5.out.mod0 hr.mod);have hm56:=hr.mod.size;clear hr;have hG7:=resolve_c (T:=T) (xc:=z.lks.c) wq2 (HR.out.1.mod0 HM6.out) (HO6.out.rd HZ.out.2.2.1).2.2.2.1 (HO6.out.lo HZ.out.2.2.1) (by have:=HZ.out.2.2.1.2.2.2.1;simp only[txP,msgP,List.length_map]at this;omega) (Nat.le_trans (lo_tot z) (by have:=HZ.out.2.2.2.1;rw[HZ.out.2.1];omega));have HSZ:Hid (w4.heap.size≤wq2.heap.size∧p4<w4.heap.size∧w4.heap.size≤p8):=Hi ⟨Nat.le_trans HP8.out.2.2 hm56,HP8.out.2.1,Nat.le_of_eq HP8.out.1⟩;clear hm56;go_upto_region 7 with fail;refine region_seq 12 rfl ?_;simp only[List.range,List.range.loop]
  iterate 3 refine Zq ?_
  refine Zr ?_;refine ZC hG7 ?hout (fun vn wn hR=> ?hret) (fun ch wn hR=> ?hpan)
  case hout=>
   intro w' h;unfold ResA at h;split at h
   ·obtain⟨_,_,_,h,_⟩:=h;cases h
   ·cases h.2
  case hpan=>
   exfalso;unfold ResA at hR;split at hR
   ·obtain⟨_,_,_,h,_⟩:=hR;cases h
   ·cases hR.2
  case hret=>
  obtain⟨hm,hr⟩:=hR;clear hG7;have HM7:=Hi (HM6.out.then0 hm);have HO7:=Hi (HO6.out.mod0 hm);replace kp4:=hm.at0 kp4;replace kp8:=hm.at0 kp8;clear hm;cases hres:resP T (z.lks.l.map loP) ([],[])with
  |error n7=>
   rw[hres]at hr;simp only at hr;cases hr;have h0:=res_ne hres;have HE:Hid (readyP T l= .error n7):=Hi (by
    unfold readyP;rw[HZ.out.2.2.2.2];simp only;rw[←HZ.out.2.1];show(match resP T (z.lks.l.map loP) ([],[])with| .error e=>Except.error e| .ok (ws,rs)=>_)=_;rw[hres])
   (try simp only[zL])
   iterate 7 refine Zq ?_
   refine sq_nil ?_;clear hres;have HM5:=HM7;go_upto_region 8 with fail;have hw0:(!decide ((n7:Int)=0))=true:=by simp;omega
   have Lkp4:=Ls kp4;refine ZR0 (fun _ _ v=>v= .bool true) [0,2] ?_;refine Zv ?_;(refine Zc ?_ (s:=by intro wq hSq;exact(wrong_c (n7:Int) wq).mono (fun e w' h=>⟨_,by rw[h.1,hw0],rfl,by rw[h.2];exact Mod.refl _ _⟩));rintro _ hC;subst hC;try simp only[zL]);refine TD.nil (fun wq2 hr=> ?_);replace kp4:=hr.q kp4;have HM:=Hi (HM5.out.then0 hr.mod);clear hr;go_upto_region 9 with fail;have Lkp4:=Ls kp4;refine ZP0 [0,0,5,0] ?_;refine Zu hbr ?_;refine Zv ?_;refine Zi fun wq3 hr=> ?_;replace kp4:=hr.q kp4;have HMz:=Hi (HM.out.then0 hr.mod);clear hr;refine ZS ?_;refine ZM kp4 fun wn kp4 mS=> ?_;have HMy:=Hi (HMz.out.thenB mS (.inl gp4));clear mS;refine Ze ?_;refine TE.nil ?_;go_wp2_with fail;refine bodyPost_ret (results_ct rfl rfl (ldRdyZ kp4)) rfl ?_;unfold ReaP;rw[HE.out];exact⟨HMy.out,rfl⟩
  |ok y=>
   rw[hres]at hr;obtain⟨va,vb,hv0,hva,hvb⟩:=hr;cases hv0;obtain⟨aa,rfl,hsa,_⟩:=hva.at;obtain⟨ab,rfl,hsb,_⟩:=hvb.at;have hyl:=res_len hres;have hlt:=HZ.out.2.2.2.1;have hltL:=lo_tot z;rw[HZ.out.2.1]at hltL;have hsum:((z.lks.l.map loP).map (fun l=>l.w.length+l.r.length)).sum=loSum z.lks.l:=by
    rw[List.map_map];rfl
   rw[hsum]at hyl;have HY:=Hi (Ai hres (show y.1.length+y.2.length≤64 by simp only[List.length_nil]at hyl;omega));have hG10:=fun w1 (hm:Mod (fun _=>False) wn w1)=>rolesOf_c z y.1 y.2 aa ab y.1.length y.2.length w1 ((HO7.out.mod0 hm).rd HZ.out.2.2.1).2.1.1 ((HO7.out.mod0 hm).rd HZ.out.2.2.1).2.1.2 (hsa.mod0 hm) (hsb.mod0 hm) (by have:=HY.out.2;omega) (by have:=HY.out.2;omega);have HG10:=Hi hG10;clear hyl hlt hltL hsum hsa hsb hva hvb hres hG10;(try simp only[zL]);obtain⟨w7,rfl⟩:∃w7:World,w7=wn:=⟨_,rfl⟩
   iterate 7 refine Zq ?_
   refine sq_nil ?_;go_upto_region 8 with fail;have Lkp4:=Ls kp4;have Lkp8:=Ls kp8;refine ZR0 (fun _ _ v=>v= .bool false) [0,2] ?_;refine Zv ?_;(refine Zc ?_ (s:=by intro wq hSq;exact(wrong_c 0 wq).mono (fun e w' h=>⟨_,by rw[h.1];rfl,rfl,by rw[h.2];exact Mod.refl _ _⟩));rintro _ hC;subst hC;try simp only[zL]);refine TD.nil (fun wq2 hr=> ?_);replace kp4:=hr.q kp4;replace kp8:=hr.q kp8;have HM8:=Hi (HM7.out.then0 hr.mod);have HO8:=Hi (HO7.out.mod0 hr.mod);have hG10:=HG10.out _ hr.mod;clear hr HG10;go_upto_region 10 with fail;refine region_seq 10 rfl ?_;simp only[List.range,List.range.loop];refine Zq ?_;refine Zr ?_
   iterate 2 refine Zq ?_
   refine ZC hG10 ?hout (fun vn wn hR=> ?hret) (fun ch wn hR=> ?hpan)
   case hout=>
    intro w' h;unfold RolA at h;split at h
    ·obtain⟨_,_,h,_⟩:=h;cases h
    ·cases h.2
   case hpan=>
    exfalso;unfold RolA at hR;split at hR
    ·obtain⟨_,_,h,_⟩:=hR;cases h
    ·cases hR.2
   case hret=>
   obtain⟨hm,hr⟩:=hR;clear hG10;have HM9:=Hi (HM8.out.then0 hm);have HO9:=Hi (HO8.out.mod0 hm);replace kp4:=hm.at0 kp4;replace kp8:=hm.at0 kp8;clear hm;cases hres:rolesP (msgP z) y.1 y.2 with
   |error n10=>
    rw[hres]at hr;simp only at hr;cases hr;have h0:n10≠0:=by
     unfold rolesP at hres;split at hres
     ·cases hres
     ·cases hres;decide
    have HE:Hid (readyP T l= .error n10):=Hi (by
     unfold readyP;rw[HZ.out.2.2.2.2];simp only;rw[←HZ.out.2.1];show(match resP T (z.lks.l.map loP) ([],[])with| .error e=>Except.error e| .ok (ws,rs)=>_)=_;rw[HY.out.1];show(match rolesP (msgP z) y.1 y.2 with| .error e=>Except.error e| .ok ro=>_)=_;rw[hres])
    (try simp only[zL])
    iterate 5 refine Zq ?_
    refine sq_nil ?_;clear hres;have HM5:=HM9;go_upto_region 11 with fail;have hw0:(!decide ((n10:Int)=0))=true:=by simp;omega
    have Lkp4:=Ls kp4;refine ZR0 (fun _ _ v=>v= .bool true) [0,2] ?_;refine Zv ?_;(refine Zc ?_ (s:=by intro wq hSq;exact(wrong_c (n10:Int) wq).mono (fun e w' h=>⟨_,by rw[h.1,hw0],rfl,by rw[h.2];exact Mod.refl _ _⟩));rintro _ hC;subst hC;try simp only[zL]);refine TD.nil (fun wq2 hr=> ?_);replace kp4:=hr.q kp4;have HM:=Hi (HM5.out.then0 hr.mod);clear hr;go_upto_region 12 with fail;have Lkp4:=Ls kp4;refine ZP0 [0,0,5,0] ?_;refine Zu hbr ?_;refine Zv ?_;refine Zi fun wq3 hr=> ?_;replace kp4:=hr.q kp4;have HMz:=Hi (HM.out.then0 hr.mod);clear hr;refine ZS ?_;refine ZM kp4 fun wn kp4 mS=> ?_;have HMy:=Hi (HMz.out.thenB mS (.inl gp4));clear mS;refine Ze ?_;refine TE.nil ?_;go_wp2_with fail;refine bodyPost_ret (results_ct rfl rfl (ldRdyZ kp4)) rfl ?_;unfold ReaP;rw[HE.out];exact⟨HMy.out,rfl⟩
   |ok ro=>
    rw[hres]at hr;obtain⟨vr,hv0,hvr⟩:=hr;cases hv0;obtain⟨ra,rfl,hsr,hrb⟩:=hvr.at;have hrl:=roles_len hres;have hkl:(msgP z).ks.length≤64:=Nat.le_trans (Nat.le_add_right _ _) (by have:=HZ.out.2.2.2.1;rw[←HZ.out.2.1]at this;exact this);have HRO:=Hi (Ai hvr (Ai hres (show ro.length≤200 by have:=HY.out.2;omega)));clear hsr hrb hvr hrl hkl hres;(try simp only[zL]);obtain⟨w9,rfl⟩:∃w9:World,w9=wn:=⟨_,rfl⟩
    iterate 5 refine Zq ?_
    refine sq_nil ?_;go_upto_region 11 with fail;have Lkp4:=Ls kp4;have Lkp8:=Ls kp8;refine ZR0 (fun _ _ v=>v= .bool false) [0,2] ?_;refine Zv ?_;(refine Zc ?_ (s:=by intro wq hSq;exact(wrong_c 0 wq).mono (fun e w' h=>⟨_,by rw[h.1];rfl,rfl,by rw[h.2];exact Mod.refl _ _⟩));rintro _ hC;subst hC;try simp only[zL]);refine TD.nil (fun wq2 hr=> ?_);replace kp4:=hr.q kp4;replace kp8:=hr.q kp8;have HM10:=Hi (HM9.out.then0 hr.mod);have HO10:=Hi (HO9.out.mod0 hr.mod);have HRO10:=Hi (HRO.out.1.mod0 hr.mod);have HS10:=Hi hr.mod.size;clear hr;obtain⟨w10,rfl⟩:∃w10:World,w10=wq2:=⟨_,rfl⟩;obtain⟨bd,hbd,hbg⟩:=budP_bg (msgP z) (by have:=HZ.out.2.2.1.2.2.1.1;simp only[txP,msgP,List.length_map]at this⊢;omega);have HBG:=Hi (Ai hbd hbg);obtain⟨bu,hbu⟩:∃bu,(budP (msgP z)).units=bu:=⟨_,rfl⟩;obtain⟨bp,hbp⟩:∃bp,(budP (msgP z)).price=bp:=⟨_,rfl⟩;rw[hbu,hbp]at hbg;have HBU:=Hi (Ai hbg (Ai hbu hbp));clear hbd hbg hbu hbp;obtain⟨rl,hrl⟩:∃rl,ro.length=rl:=⟨_,rfl⟩;have hby:∀a1:Option Addr,∀w,_:=fun a1 w=>bldRyR z a1 ra l ll ro rl bu bp bd HLL.out hrl w;have HRL:=Hi hrl;rw[hrl];clear hrl;go_upto_region 13 with fail;have Lkp4:=Ls kp4;have Lkp8:=Ls kp8;refine wp_gpass (T0:=fun _=>False) (K:=fun _ _=>True) (κ:=fun i=>[0,6,6,0,0,0,0,6,0,3,4].getD i 0) (υ:=fun _=>[]) [0,1,2,3,4,5,6,7,8,9,10] (by kernel_rfl) (by kernel_rfl) (Good.true).cl (trivial) (fun _ h=>h.elim) ?_;have gK:=Good.true;refine Zg ?_;(refine TG.callM (f:= ?f91) (args:= ?r91) (ClL l ll w10.heap.size) (goodCl l ll w10.heap.size) gK (by simp only[zK];rfl) rfl (by rfl) (fun w1=> ?y91) (fun T wq kq ltq hSq ub=> ?hsp91) ?n91;(case y91=>(go_simp;(first|with_reducible rfl|(constructor<;>with_reducible rfl))));(case hsp91=>(have kp4q:=hSq.at kp4 (fun h=>h);have kp8q:=hSq.at kp8 (fun h=>h);exact(by have h:=cloneY_c (c:=c) (HL.out.1.mod0 (HM10.out.then0 hSq)) (by have:=HL.out.2.2.2.1;omega);rw[HLL.out]at h;exact h.mono (fun e w' h=>by obtain⟨v,h1,h2,h3⟩:=h;exact⟨_,h1,h3,clL h2 hSq.size HLL.out⟩))));rintro v91 ⟨wI,TI,hI⟩;replace gK:=gK.and ((goodCl l ll w10.heap.size) v91);obtain⟨a61,c61,rfl,hcl,-,-⟩:=hI.k.2;(try clear hI TI wI);try simp only[zL]);(refine ZG (fun v=>v= .slice a61 ll ll) gK ?_ (s:=fun T wq kq ltq hSq ub=>by exact(clipY_c _ _ _ hcl).mono (fun e w' h=>⟨_,h.1,rfl,by rw[h.2];exact Mod.refl _ _⟩));rintro v92 hC;subst hC;try simp only[zL]);refine Zh ?_
    iterate 2 refine Zg ?_
    refine Zh ?_;(refine ZG (fun v=>v= .agg (bgR bu bp bd.toInt)) gK ?_ (s:=fun T wq kq ltq hSq ub=>by exact(budgetOf_c z wq (HR.out.2.mod0 (HM10.out.then0 hSq)) ((HO10.out.mod0 hSq).rd HZ.out.2.2.1).2.1.1 ((HO10.out.mod0 hSq).rd HZ.out.2.2.1).2.1.2 ((HO10.out.mod0 hSq).rd HZ.out.2.2.1).2.2.1.1 ((HO10.out.mod0 hSq).da HZ.out.2.2.1) ((HO10.out.mod0 hSq).rd HZ.out.2.2.1).2.2.1.2.1).mono (fun e w' h=>⟨_,by rw[h.1,HBU.out.1],rfl,h.2⟩));rintro v97 hC;subst hC;try simp only[zL]);(refine TG.build (v:= ?v98) (ps:= ?p98) (by simp only[zK];rfl) rfl (by rfl) rfl ?hx98 (fun w1=> ?y98) ?n98;(case hx98=>(simp only[List.map_toArray,List.map_cons,List.map_nil,zM];(try rfl)));(case y98=>(rw[(hby a61)];(try with_reducible rfl)));try simp only[zL]);(refine TG.allocB (by simp only[zK];rfl) rfl (by rfl) rfl rfl alRdy (fun p13 hp13 _=> ?n99);try simp only[zL]);(refine TG.storeB (d:= ?d100) (T:= ?T100) (y:= ?y100) (p:= ?p100) (b:= ?b100) (v:= ?v100) (by simp only[zK];rfl) rfl (by rfl) ?hd100 ?hop100 ?hev100 ?hx100 ?hb100 ?htag100 (fun w1 hb1=> ?hy100) ?hn100;(case hd100=>rfl);(case hop100=>rfl);(case hev100=>(simp only[zM];(try rfl)));(case hx100=>simp only[zM];try rfl);(case hb100=>first|exact Bx.set_same _ _ _|(simp only[Bx.set_same];rfl));(case htag100=>rfl);(case hy100=>(go_simp;(try first|with_reducible rfl|(rw[setCell_blk hb1];rfl))));try simp only[zL]);refine TG.nil (fun w11 ⟨TR,hr⟩=> ?_);replace kp4:=hr.q kp4;replace kp8:=hr.q kp8;obtain⟨gp13,nTp13,kp13⟩:=hr.b p13;clear gK;obtain⟨aq,cq,eq,-,hN,hT⟩:=hr.k.2;injection eq with eq1 eq2 eq3
    subst eq1;clear eq2 eq3;have HN11:=Hi hN;have HM11:=Hi (HM10.out.then0 hr.mod);have HO11:=Hi (HO10.out.mod0 hr.mod);have HRO11:=Hi (HRO10.out.mod0 hr.mod);have HP13:Hid (p13≠p4∧p13≠p8∧w10.heap.size≤p13∧w.heap.size≤p13):=Hi ⟨by omega,by omega,gp13,Nat.le_trans HM10.out.size gp13⟩;have HK11:Hid (∀p,(p=p13∨p=p4)→∃R,w11.heap[p]? =some (.cells R 58 (0,0))):=Hi (fun p hp=>by rcases hp with rfl|rfl;exact⟨_,kp13⟩;exact⟨_,kp4⟩);clear hr hT hN hcl hby;obtain⟨sn,hsn⟩:∃sn,z.sg.l.length=sn:=⟨_,rfl⟩;have HSN:Hid (z.sg.l.length=sn∧sn<1000000):=Hi ⟨hsn,by have:=HZ.out.2.2.1.1;simp only[txP]at this;omega⟩;have hs0:(txr z)[0]? =some (.slice z.sg.a sn z.sg.c):=by rw[txr0,hsn]
    have hs0':∀h:0<(txr z).size,(txr z)[0]= .slice z.sg.a sn z.sg.c:=fun h=>at_get hs0 h;clear hsn;go_upto_region 14 with fail;have Lkp4:=Ls kp4;have Lkp8:=Ls kp8;have Lkp13:=Ls kp13;refine ZP0 [0,1,0,0] ?_
    iterate 4 first|refine Zv ?_|refine Zd ?_
    refine TD.nil (fun w12 hr=> ?_);replace kp4:=hr.q kp4;replace kp8:=hr.q kp8;replace kp13:=hr.q kp13;have HM12:=Hi (HM11.out.then0 hr.mod);have HS12:=Hi hr.mod;clear hr;obtain⟨fe,hfe⟩:∃fe,feeF (UInt64.ofNat sn) bu bp=fe:=⟨_,rfl⟩;have HFE:=Hi hfe;clear hfe;have hbg0:=ryR_bg z a61 ra l ll ro rl bu bp bd 0 0 0;go_upto_region 15 with fail;have Lkp4:=Ls kp4;have Lkp8:=Ls kp8;have Lkp13:=Ls kp13;refine ZR0 (fun _ _ v=>v=u64v fe) [0,0,1,2,0,5] ?_
    iterate 3 first|refine Zv ?_|refine Zd ?_
    (refine Zc ?_ (s:=by intro wq hSq;exact(fee_c sn HSN.out.2 bu bp bd.toInt wq).mono (fun e w' h=>⟨_,h.1,by rw[HFE.out],h.2⟩));rintro _ hC;subst hC;try simp only[zL]);refine Zv ?_;refine Zi fun wE hr=> ?_;replace kp4:=hr.mod.at0 kp4;replace kp8:=hr.mod.at0 kp8;replace kp13:=hr.mod.at0 kp13;have mE:=hr.mod;refine ZS ?_;refine ZN kp13 fun w13 kp13 mS=> ?_;replace kp4:=mS.at_ne kp4 (by omega);replace kp8:=mS.at_ne kp8 (by omega);have HA13:Hid (Mod (fun i=>i=p13∨i=p4) w11 w13):=Hi (((HS12.out.trans mE).mono (fun _ _ h=>h.elim)).trans (mS.mono (fun _ _ h=> .inl h)));clear hr mE mS hbg0 hs0 hs0';rw[ryR_fee]at kp13;have hun:=ryR42 z a61 ra l ll ro rl bu bp bd fe 0 0;have hun':=ryR42' z a61 ra l ll ro rl bu bp bd fe 0 0;obtain⟨wn2,hwn2⟩:∃n,(wrL ro).length=n:=⟨_,rfl⟩;have HWN:=Hi (Ai hwn2 (show wn2≤200 by have:=wrL_len ro;have:=HRO.out.2.2;omega));obtain⟨co,hco⟩:∃co,coF (UInt64.ofNat sn) (UInt64.ofNat wn2) (dSum z.ins.l) bu=co:=⟨_,rfl⟩;have HCO:=Hi hco;clear hwn2 hco;have HO13:Hid (TxO w3.heap.size w13 z):=Hi (HO11.out.mod HA13.out (ry_apt HK11.out));have hv13:=HRO11.out.mod HA13.out (ry_new HRO11.out (by decide) HK11.out);rw[HRL.out]at hv13;have HRO13:Hid (SlAt rcr 34 w13 ra ro):=Hi (ns_rd hv13);clear hv13;go_upto_region 16 with fail;have Lkp4:=Ls kp4;have Lkp8:=Ls kp8;have Lkp13:=Ls kp13;refine wp_epass (T0:=fun _=>False) (K:=fun _ _=>True) (κ:=fun i=>[0,0,6,0,0,0,0,6,0,6].getD i 0) (υ:=fun _=>[]) [0,1,2,3,4,5,6,7,8] [9] (by kernel_rfl) (by kernel_rfl) (Good.true).cl (trivial) (fun _ h=>h.elim) ?_;have gK:=Good.true;(refine TG.load (v:= ?v111) (p:= ?p111) (by simp only[zK];rfl) rfl (by rfl) rfl ?hx111 (fun wq hSq=> ?y111) ?n111;(case hx111=>simp only[zM];try rfl);(case y111=>(have kp4q:=hSq.at kp4 (fun h=>h);have kp8q:=hSq.at kp8 (fun h=>h);have kp13q:=hSq.at kp13 (fun h=>h);exact(ldTxr kp8q)));try simp only[zL]);refine Zg ?_;(refine ZG (fun v=>∃a,v= .slice a wn2 wn2) gK ?_ (s:=fun T wq kq ltq hSq ub=>by exact(by have h:=written_c ra ro rl wq (HRO13.out.mod0 hSq) (by have:=HRO.out.2.2;omega);rw[HRL.out]at h;exact h.mono (fun e w' h=>by obtain⟨v,h1,h2,h3⟩:=h;obtain⟨a,h4,_⟩:=h2.at;rw[HWN.out.1]at h4;exact⟨_,h1,⟨a,h4⟩,h3⟩)));rintro v113 hC;obtain⟨a80,rfl⟩:=hC;try simp only[zL])
    iterate 3 refine Zg ?_
    refine Zh ?_;(refine ZG (fun v=>v=u64v co) gK ?_ (s:=fun T wq kq ltq hSq ub=>by exact(by have h:=of_c z wn2 bu (by have:=HWN.out.2;omega) wq ((HO13.out.mod0 hSq).rd HZ.out.2.2.1).2.2.1.1 (by have:=((HO13.out.mod0 hSq).rd HZ.out.2.2.1).2.2.1.2.1;omega) (by have:=HSN.out;omega) (fun i hi=>by have:=(((HO13.out.mod0 hSq).rd HZ.out.2.2.1).2.2.1.2.2 i hi).2.2;omega);rw[HSN.out.1,HCO.out]at h;exact h.mono (fun e w' h=>⟨_,h.1,rfl,h.2⟩)));rintro v118 hC;subst hC;try simp only[zL]);refine Zg ?_;refine TG.nil (fun w14 ⟨TR,hr⟩=> ?_);replace kp4:=hr.q kp4;replace kp8:=hr.q kp8;replace kp13:=hr.q kp13;clear gK;have HA14:Hid (Mod (fun i=>i=p13∨i=p4) w11 w14):=Hi (HA13.out.trans (hr.mod.mono (fun _ _ h=>h.elim)));clear hr;refine Zz ?_;refine ZS ?_;refine ZN kp13 fun wn kp13 mS=> ?_;rw[ryR_cost]at kp13;have HA15:Hid (Mod (fun i=>i=p13∨i=p4) w11 wn):=Hi (HA14.out.trans (mS.mono (fun _ _ h=> .inl h)));replace kp4:=mS.at_ne kp4 (fun e=>HP13.out.1 e.symm);clear mS hun hun';obtain⟨w15,rfl⟩:∃w15:World,w15=wn:=⟨_,rfl⟩;obtain⟨pi,hpi⟩:∃pi,priF (UInt64.ofNat sn) bu bp co=pi:=⟨_,rfl⟩;have HPI:=Hi hpi;clear hpi;have hbg0:=ryR_bg z a61 ra l ll ro rl bu bp bd fe co 0;have h46:=ryR46 z a61 ra l ll ro rl bu bp bd fe co 0;have h46':=ryR46' z a61 ra l ll ro rl bu bp bd fe co 0;go_upto_region 17 with fail;have Lkp4:=Ls kp4;have Lkp13:=Ls kp13;refine ZR0 (fun _ _ v=>v=u64v pi) [0,0,1,0,1,2,0,5] ?_
    iterate 5 first|refine Zv ?_|refine Zd ?_
    (refine Zc ?_ (s:=by intro wq hSq;exact(prio_c sn HSN.out.2 bu bp co bd.toInt wq).mono (fun e w' h=>⟨_,h.1,by rw[HPI.out],h.2⟩));rintro _ hC;subst hC;try simp only[zL]);refine Zv ?_;refine Zi fun wE hr=> ?_;replace kp4:=hr.mod.at0 kp4;replace kp13:=hr.mod.at0 kp13;have mE:=hr.mod;refine ZS ?_;refine ZN kp13 fun w16 kp13 mS=> ?_;replace kp4:=mS.at_ne kp4 (by omega);rw[ryR_prio]at kp13;have HA16:Hid (Mod (fun i=>i=p13∨i=p4) w11 w16):=Hi ((HA15.out.trans (mE.mono (fun _ _ h=>h.elim))).trans (mS.mono (fun _ _ h=> .inl h)));clear hr mE mS hbg0 h46 h46';go_upto_region 18 with fail;have Lkp4:=Ls kp4;have Lkp13:=Ls kp13;refine ZP0 [1,5,0] ?_;(refine TD.load (v:= ?v129) (p:= ?p129) (Mod.refl _ _) (by simp only[zK];rfl) rfl (by rfl) rfl ?hx129 (fun wq hSq=> ?y129) ?n129;(case hx129=>simp only[zM];try rfl);(case y129=>(have kp4q:=hSq.at kp4 (fun h=>h);have kp13q:=hSq.at kp13 (fun h=>h);exact(ldRdyR kp13q)));try simp only[zL]);refine Zi fun w17 hr=> ?_;replace kp4:=hr.q kp4;replace kp13:=hr.q kp13;have HA17:Hid (Mod (fun i=>i=p13∨i=p4) w11 w17):=Hi (HA16.out.trans (hr.mod.mono (fun _ _ h=>h.elim)));clear hr;refine ZS ?_;refine ZM kp4 fun wn kp4 mS=> ?_;have HA18:Hid (Mod (fun i=>i=p13∨i=p4) w11 wn):=Hi (HA17.out.trans (mS.mono (fun _ _ h=> .inr h)));clear mS;refine Ze ?_;refine TE.nil ?_;go_wp2_with fail;refine bodyPost_ret (results_ct rfl rfl (ldRdyR kp4)) rfl ?_;have hOf:=HO11.out.mod HA18.out (ry_apt HK11.out);have hRf:=HRO11.out.mod HA18.out (ry_new HRO11.out (by decide) HK11.out);have hNf:=HN11.out.mod HA18.out (ry_new HN11.out (by decide) HK11.out);rw[HRL.out]at hRf;have hmf:Mod (fun _=>False) w wn:=HM11.out.then HA18.out (fun i hi e=>by
     have h1:=HP13.out.2.2.2;have h2:=HP8.out.2.1;have h3:=HGP4.out;rcases e with rfl|rfl<;>omega)
    unfold ReaP;refine⟨hmf,?_⟩;have hready:readyP T l= .ok (tellP l (txP z) ro):=by
     unfold readyP;rw[HZ.out.2.2.2.2];simp only;rw[←HZ.out.2.1];show(match resP T (z.lks.l.map loP) ([],[])with| .error e=>Except.error e| .ok (ws,rs)=>_)=_;rw[HY.out.1];show(match rolesP (msgP z) y.1 y.2 with| .error e=>Except.error e| .ok ro=>_)=_;rw[HRO.out.2.1]
    rw[hready];have hcr:(Value.slice (ryR z a61 ra l ll ro rl bu bp bd fe co pi).ro.a (ryR z a61 ra l ll ro rl bu bp bd fe co pi).ro.l.length (ryR z a61 ra l ll ro rl bu bp bd fe co pi).ro.c)= .slice ra rl rl:=by
     show Value.slice ra ro.length rl=_;rw[HRL.out]
    have hcb:(Value.slice (ryR z a61 ra l ll ro rl bu bp bd fe co pi).b.a (ryR z a61 ra l ll ro rl bu bp bd fe co pi).b.l.length (ryR z a61 ra l ll ro rl bu bp bd fe co pi).b.c)= .slice a61 ll ll:=by
     show Value.slice a61 l.length ll=_;rw[HLL.out]
    refine⟨ryR z a61 ra l ll ro rl bu bp bd fe co pi,rfl,⟨hOf.base HM3.out.size,?_,?_,?_,?_,?_⟩,?_,HZ.out.2.2.1⟩
    ·show NewS uc 1 5 w.heap.size wn (.slice a61 l.length ll) l;rw[HLL.out];exact hNf.base HM10.out.size
    ·show NewS rcr 34 192 w.heap.size wn (.slice ra ro.length rl) ro;rw[HRL.out];exact hRf.base HM8.out.size
    ·intro g hg h hh;have h1:=(HO8.out.blk g hg).2;rw[hcr]at hh;have h2:=(hRf.lt h hh).1;omega
    ·intro g hg h hh;have h1:=(HO10.out.blk g hg).2;rw[hcb]at hh;have h2:=(hNf.lt h hh).1;omega
    ·intro g h hg hh;rw[hcr]at hg;have hr10:=HRO10.out;rw[HRL.out]at hr10;have h1:=(hr10.lt g hg).2;rw[hcb]at hh;have h2:=(hNf.lt h hh).1;omega
    ·unfold ryP tellP;show(⟨l,txP z,ro,bu,bp,bd.toInt,fe,co,pi⟩:RyP)=_;have e1:(budP (txP z).m).units=bu:=HBU.out.2.1;have e2:(budP (txP z).m).price=bp:=HBU.out.2.2;have e3:bd.toInt=(budP (txP z).m).badI:=HBG.out.1;have e4:UInt64.ofNat (txP z).sg.length=UInt64.ofNat sn:=congrArg UInt64.ofNat HSN.out.1;have e5:dSumP (txP z).m.ins=dSum z.ins.l:=(dSum_P z.ins.l).symm;simp only[e1,e2,e4,e5,HWN.out.1];rw[HCO.out,HFE.out,HPI.out,e3]
end
def shP (n:Nat):List UInt8:=if n<128 then [UInt8.ofNat n]else if n<16384 then [UInt8.ofNat (n % 128+128),UInt8.ofNat (n/128)]else [UInt8.ofNat (n % 128+128),UInt8.ofNat (n/128 % 128+128),UInt8.ofNat (n/16384)]
def lisP (l:List UInt8):List UInt8:=shP l.length++l
def putI (i:InP):List UInt8:=i.p::(lisP i.a++lisP i.d)
def putLk (l:LoP):List UInt8:=l.t.l++(lisP l.w++lisP l.r)
def putM (m:MsP):List UInt8:=(if m.v0 then [128]else [])++(m.h0::m.h1::m.h2::(shP m.ks.length++(m.ks.flatMap (·.l)++(m.rc.l++(shP m.ins.length++(m.ins.flatMap putI++(if m.v0 then shP m.lks.length++m.lks.flatMap putLk else [])))))))
def putT (x:TxP):List UInt8:=shP x.sg.length++(x.sg.flatMap (·.l)++putM x.m)
theorem ofN {c:UInt8} {n:Nat} (h:n=c.toNat):UInt8.ofNat n=c:=by subst h;simp
theorem gsh_back:∀ {L:List UInt8},(gsh 0 0 L).2.2=0→L=shP (gsh 0 0 L).1++L.drop (gsh 0 0 L).2.1
 |[],h=>by simp[gsh]at h
 |[c],h=>by
  have hc:=c.toNat_lt;by_cases h1:c.toNat<128
  ·have e:gsh 0 0 [c]=(c.toNat,1,0):=by simp[gsh,h1,Nat.mod_eq_of_lt h1]
   rw[e];simp only[shP,if_pos h1,List.drop_succ_cons,List.drop_zero,List.append_nil];rw[ofN rfl]
  ·simp[gsh,h1]at h
 |[c,d],h=>by
  have hc:=c.toNat_lt;have hd:=d.toNat_lt;by_cases h1:c.toNat<128
  ·have e:gsh 0 0 [c,d]=(c.toNat,1,0):=by simp[gsh,h1,Nat.mod_eq_of_lt h1]
   rw[e];simp only[shP,if_pos h1,List.drop_succ_cons,List.drop_zero,List.cons_append,List.nil_append];rw[ofN rfl]
  ·by_cases h0:d.toNat=0
   ·simp[gsh,h1,h0]at h
   ·by_cases h2:d.toNat<128
    ·have e:gsh 0 0 [c,d]=(c.toNat % 128+d.toNat*128,2,0):=by simp[gsh,h1,h0,h2,Nat.mod_eq_of_lt h2]
     rw[e];simp only[shP];rw[if_neg (by omega),if_pos (by omega),ofN (c:=c) (by omega),ofN (c:=d) (by omega)];rfl
    ·simp[gsh,h1,h0,h2]at h
 |c::d::f::R,h=>by
  have hc:=c.toNat_lt;have hd:=d.toNat_lt;have hf:=f.toNat_lt;by_cases h1:c.toNat<128
  ·have e:gsh 0 0 (c::d::f::R)=(c.toNat,1,0):=by simp[gsh,h1,Nat.mod_eq_of_lt h1]
   rw[e];simp only[shP,if_pos h1,List.drop_succ_cons,List.drop_zero,List.cons_append,List.nil_append];rw[ofN rfl]
  ·by_cases h0:d.toNat=0
   ·simp[gsh,h1,h0]at h
   ·by_cases h2:d.toNat<128
    ·have e:gsh 0 0 (c::d::f::R)=(c.toNat % 128+d.toNat*128,2,0):=by simp[gsh,h1,h0,h2,Nat.mod_eq_of_lt h2]
     rw[e];simp only[shP];rw[if_neg (by omega),if_pos (by omega),ofN (c:=c) (by omega),ofN (c:=d) (by omega)];rfl
    ·by_cases h3:f.toNat=0∨3<f.toNat
     ·simp[gsh,h1,h0,h2,h3]at h
     ·have h4:f.toNat<128:=by omega
      have e:gsh 0 0 (c::d::f::R)=(c.toNat % 128+d.toNat % 128*128+f.toNat*16384,3,0):=by simp[gsh,h1,h0,h2,h3,h4,Nat.mod_eq_of_lt h4]
      rw[e];simp only[shP];rw[if_neg (by omega),if_neg (by omega),ofN (c:=c) (by omega),ofN (c:=d) (by omega),ofN (c:=f) (by omega)];rfl
theorem bk_byte {l:List UInt8} {k k1:Nat} {c:UInt8} (h:pByte l k= .ok (c,k1)):l.drop k=c::l.drop k1:=by
 unfold pByte at h;split at h
 ·rename_i d hd;cases h;obtain⟨hi,e⟩:=List.getElem?_eq_some_iff.1 hd;rw[List.drop_eq_getElem_cons hi,e]
 ·cases h
theorem bk_bytes {l x:List UInt8} {k k1 n:Nat} (h:pBytes l k n= .ok (x,k1)):l.drop k=x++l.drop k1∧x.length=n:=by
 unfold pBytes at h;split at h
 ·cases h;refine⟨?_,by rw[List.length_take,List.length_drop];omega⟩;rw[←List.drop_drop,List.take_append_drop]
 ·cases h
theorem bk_short {l:List UInt8} {k k1 n:Nat} (h:pShort l k= .ok (n,k1)):l.drop k=shP n++l.drop k1:=by
 unfold pShort at h;split at h
 ·rename_i h0;cases h;have:=gsh_back h0;rw[List.drop_drop]at this;exact this
 ·cases h
theorem bk_list {l x:List UInt8} {k k1:Nat} (h:pList l k= .ok (x,k1)):l.drop k=lisP x++l.drop k1:=by
 unfold pList at h;split at h
 ·rename_i n k2 h2;obtain⟨h3,h4⟩:=bk_bytes h;rw[bk_short h2,h3,lisP,h4,List.append_assoc]
 ·cases h
theorem bk_key {l:List UInt8} {k k1:Nat} {x:Key} (h:pKey l k= .ok (x,k1)):l.drop k=x.l++l.drop k1:=by
 unfold pKey at h;split at h
 ·cases h;show l.drop k=(l.drop k).take 32++l.drop (k+32);rw[←List.drop_drop,List.take_append_drop]
 ·cases h
theorem bk_instr {l:List UInt8} {k k1:Nat} {x:InP} (h:pInstr l k= .ok (x,k1)):l.drop k=putI x++l.drop k1:=by
 unfold pInstr at h;split at h
 ·cases h
 ·rename_i q k2 h2;split at h
  ·cases h
  ·rename_i a k3 h3;split at h
   ·cases h
   ·rename_i d k4 h4;cases h;rw[bk_byte h2,bk_list h3,bk_list h4];simp[putI]
theorem bk_look {l:List UInt8} {k k1:Nat} {x:LoP} (h:pLook l k= .ok (x,k1)):l.drop k=putLk x++l.drop k1:=by
 unfold pLook at h;split at h
 ·cases h
 ·rename_i q k2 h2;split at h
  ·cases h
  ·rename_i a k3 h3;split at h
   ·cases h
   ·rename_i d k4 h4;cases h;rw[bk_key h2,bk_list h3,bk_list h4];simp[putLk]
theorem bk_rep {α:Type} {l:List UInt8} {one:Nat→PR α} {enc:α→List UInt8} (h1:∀k x k1,one k= .ok (x,k1)→l.drop k=enc x++l.drop k1):∀ {n k k1:Nat} {xs:List α},pRep one n k= .ok (xs,k1)→l.drop k=xs.flatMap enc++l.drop k1∧xs.length=n
 |0,k,k1,xs,h=>by
  rw[pRep]at h;cases h;exact⟨rfl,rfl⟩
 |n+1,k,k1,xs,h=>by
  rw[pRep]at h;split at h
  ·cases h
  ·rename_i x k2 h2;split at h
   ·cases h
   ·rename_i ys k3 h3;cases h;obtain⟨h4,h5⟩:=bk_rep h1 h3;exact⟨by rw[h1 _ _ _ h2,h4,List.flatMap_cons,List.append_assoc],by rw[List.length_cons,h5]⟩
theorem bk_all {α:Type} {l:List UInt8} {one:Nat→PR α} {enc:α→List UInt8} (h1:∀k x k1,one k= .ok (x,k1)→l.drop k=enc x++l.drop k1) {k k1:Nat} {xs:List α} (h:pAll one l k= .ok (xs,k1)):l.drop k=shP xs.length++(xs.flatMap enc++l.drop k1):=by
 unfold pAll at h;split at h
 ·cases h
 ·rename_i n k2 h2;obtain⟨h3,h4⟩:=bk_rep h1 h;rw[bk_short h2,h3,h4]
theorem pBind_inv {α β:Type} {r:PR α} {f:α→Nat→PR β} {y:β×Nat} (h:pBind r f= .ok y):∃x k,r= .ok (x,k)∧f x k= .ok y:=by
 cases r with
 |error e=>cases h
 |ok z=>exact⟨z.1,z.2,rfl,h⟩
theorem bk_msg {l:List UInt8} {k k1:Nat} {m:MsP} (h:pMsg l k= .ok (m,k1)):l.drop k=putM m++l.drop k1:=by
 unfold pMsg at h;obtain⟨c,j1,e1,h⟩:=pBind_inv h;have b1:=bk_byte e1;split at h
 ·cases h
 ·rename_i hc;obtain⟨h0,j2,e2,h⟩:=pBind_inv h;obtain⟨h1,j3,e3,h⟩:=pBind_inv h;obtain⟨h2,j4,e4,h⟩:=pBind_inv h;obtain⟨ks,j5,e5,h⟩:=pBind_inv h;obtain⟨rc,j6,e6,h⟩:=pBind_inv h;obtain⟨ins,j7,e7,h⟩:=pBind_inv h;obtain⟨lks,j8,e8,h⟩:=pBind_inv h;cases h;have b3:=bk_byte e3;have b4:=bk_byte e4;have b5:=bk_all (enc:=fun x:Key=>x.l) (fun _ _ _ h=>bk_key h) e5;have b6:=bk_key e6;have b7:=bk_all (enc:=putI) (fun _ _ _ h=>bk_instr h) e7;by_cases hv:c.toNat=128
  ·rw[if_pos hv]at e2 e8;have b2:=bk_byte e2;have b8:=bk_all (enc:=putLk) (fun _ _ _ h=>bk_look h) e8;have hcc:c=128:=by
    rw[←ofN (c:=c) rfl,hv];rfl
   rw[b1,b2,b3,b4,b5,b6,b7,b8,hcc];simp[putM]
  ·rw[if_neg hv]at e2 e8;cases e2;cases e8;rw[b1,b3,b4,b5,b6,b7];simp[putM,hv]
theorem bk_sigs:∀ {n:Nat} {L R:List UInt8} {S:List Sg},takeS n L=some (S,R)→L=S.flatMap (·.l)++R
 |0,L,R,S,h=>by
  rw[takeS]at h;cases h;rfl
 |n+1,L,R,S,h=>by
  rw[takeS]at h;split at h
  ·cases ht:takeS n (L.drop 64)with
   |none=>rw[ht]at h;cases h
   |some y=>
    rw[ht]at h;cases h;have:=bk_sigs (R:=y.2) (S:=y.1) ht;rw[List.flatMap_cons,List.append_assoc,←this,List.take_append_drop]
  ·cases h
theorem bk_tx {l:List UInt8} {x:TxP} {k:Nat} (h:pTx l= .ok (x,k)):l=putT x++l.drop k:=by
 unfold pTx at h;split at h
 ·rename_i h0;split at h
  ·cases h
  ·rename_i S R hS;obtain⟨m,j,e1,h⟩:=pBind_inv h;cases h;have b1:=gsh_back h0;have b2:=bk_sigs hS;have b3:=bk_msg e1;have b4:=takeS_len hS;rw[List.length_drop]at b4;rw[List.drop_zero]at b3;have hn:=b4.1;have hR:R.drop j=l.drop (l.length-R.length+j):=by
    have hRl:R=l.drop (l.length-R.length):=by
     have h5:l=(shP (gsh 0 0 l).1++S.flatMap (·.l))++R:=by rw[List.append_assoc,←b2];exact b1
     have h6:=congrArg List.length h5;rw[List.length_append]at h6;have h7:l.length-R.length=(shP (gsh 0 0 l).1++S.flatMap (·.l)).length:=by omega
     rw[h7];exact(congrArg (List.drop _) h5|>.trans (List.drop_left)).symm
    conv=>lhs;rw[hRl]
    rw[List.drop_drop]
   have h8:l=shP S.length++(S.flatMap (·.l)++(putM m++R.drop j)):=by
    rw[←b3,←b2,hn];exact b1
   rw[←hR];simp only[putT,List.append_assoc];exact h8
 ·cases h
section
attribute [local go_sem↓] ldAcct ldHold wlHash ldHash stHash wlSig ldSig stSig wlLim ldLim wlRdy ldRdy stRdy wlOut ldOut stOut wlTd ldTd stTd wlTx ldTx stTx
attribute [local go_sem] neMap av_size av_all hd_size hd_key hd_acct hd_one zHold_size zHash_size zSg_size zLim_size zRdy_size zOut_size zTried_size rdr_size rdr_all rdr_one rdr_rec rdr1 rdr1' ocr_size ocr_all ocr_one ocr2 ocr3 ocr4 ocr5 ocr2' ocr3' ocr4' ocr5' tdr_size tdr_all tdr_one tdr_r tdr_o tdr_tx tdr_rec tdr0 tdr41 tdr50 tdr51 tdr52 tdr0' tdr41' tdr50' tdr51' tdr52'
theorem ready_ok {T:TbL} {B:List UInt8} {y:RyP} (h:readyP T B= .ok y):∃x ws rs ro,wireP B= .ok x∧rolesP x.m ws rs= .ok ro∧y=tellP B x ro∧ro.length=totP x:=by
 unfold readyP at h;split at h
 ·cases h
 ·rename_i x hx;split at h
  ·cases h
  ·rename_i ws rs hres;split at h
   ·cases h
   ·rename_i ro hro;cases h;refine⟨x,ws,rs,ro,hx,hro,rfl,?_⟩;have h1:=roles_len hro;have h2:=res_len hres;simp only[List.length_nil]at h2;unfold totP;omega
theorem wire_whole {B:List UInt8} {x:TxP} (h:wireP B= .ok x):wholeP B= .ok x:=by
 unfold wireP at h;split at h
 ·cases h
 ·split at h
  ·cases h;assumption
  ·cases h
theorem whole_px {B:List UInt8} {x:TxP} (h:wholeP B= .ok x):B.length≤1232∧∃k,pTx B= .ok (x,k)∧B.length≤k:=by
 unfold wholeP at h;split at h
 ·cases h
 ·rename_i h0;split at h
  ·cases h
  ·rename_i x1 k1 h1;split at h
   ·cases h
   ·rename_i h2;cases h;exact⟨by omega,k1,h1,by omega⟩
theorem wire_put {B:List UInt8} {x:TxP} (h:wireP B= .ok x):putT x=B∧B.length≤1232:=by
 obtain⟨h1,k,h2,h3⟩:=whole_px (wire_whole h);have:=bk_tx h2;rw[List.drop_eq_nil_of_le h3,List.append_nil]at this;exact⟨this.symm,h1⟩
theorem msg_leg {l:List UInt8} {k k1:Nat} {m:MsP} (h:pMsg l k= .ok (m,k1)):m.v0=true∨(m.lks.length=0∧m.h0.toNat<128):=by
 unfold pMsg at h;obtain⟨c,j1,e1,h⟩:=pBind_inv h;split at h
 ·cases h
 ·rename_i hc;obtain⟨h0,j2,e2,h⟩:=pBind_inv h;obtain⟨h1,j3,e3,h⟩:=pBind_inv h;obtain⟨h2,j4,e4,h⟩:=pBind_inv h;obtain⟨ks,j5,e5,h⟩:=pBind_inv h;obtain⟨rc,j6,e6,h⟩:=pBind_inv h;obtain⟨ins,j7,e7,h⟩:=pBind_inv h;obtain⟨lks,j8,e8,h⟩:=pBind_inv h;cases h;by_cases hv:c.toNat=128
  ·exact .inl (Dt hv)
  ·rw[if_neg hv]at e2 e8;cases e2;cases e8;exact .inr ⟨rfl,by show c.toNat<128;omega⟩
theorem tx_leg {l:List UInt8} {k:Nat} {x:TxP} (h:pTx l= .ok (x,k)):x.m.v0=true∨(x.m.lks.length=0∧x.m.h0.toNat<128):=by
 unfold pTx at h;split at h
 ·split at h
  ·cases h
  ·obtain⟨m,j,e1,h⟩:=pBind_inv h;cases h;exact msg_leg e1
 ·cases h
theorem wire_leg {B:List UInt8} {x:TxP} (h:wireP B= .ok x):x.m.v0=true∨(x.m.lks.length=0∧x.m.h0.toNat<128):=by
 obtain⟨_,k,h2,_⟩:=whole_px (wire_whole h);exact tx_leg h2
theorem gsh_app (r:List UInt8):∀ {l:List UInt8} {i n:Nat},(gsh i n l).2.2=0→gsh i n (l++r)=gsh i n l
 |[],i,n,h=>by simp[gsh]at h
 |c::l,i,n,h=>by
  rw[List.cons_append,gsh,gsh];rw[gsh]at h;split at h
  ·simp at h
  ·rename_i h1;rw[if_neg h1,if_neg h1];split at h
   ·rename_i h2;rw[if_pos h2,if_pos h2]
   ·rename_i h2;rw[if_neg h2,if_neg h2];exact gsh_app r h
theorem ax_byte {l r:List UInt8} {k k1:Nat} {c:UInt8} (h:pByte l k= .ok (c,k1)):pByte (l++r) k= .ok (c,k1):=by
 unfold pByte at h⊢;split at h
 ·rename_i d hd;have hi:=(List.getElem?_eq_some_iff.1 hd).1;rw[List.getElem?_append_left hi,hd];exact h
 ·cases h
theorem ax_bytes {l r x:List UInt8} {k k1 n:Nat} (h:pBytes l k n= .ok (x,k1)):pBytes (l++r) k n= .ok (x,k1):=by
 unfold pBytes at h⊢;split at h
 ·rename_i h0;rw[if_pos (by rw[List.length_append];omega),List.drop_append_of_le_length (by omega),List.take_append_of_le_length (by rw[List.length_drop];omega)];exact h
 ·cases h
theorem ax_short {l r:List UInt8} {k k1 n:Nat} (h:pShort l k= .ok (n,k1)):pShort (l++r) k= .ok (n,k1):=by
 unfold pShort at h⊢;split at h
 ·rename_i h0;rw[List.drop_append,gsh_app _ h0,if_pos h0];exact h
 ·cases h
theorem ax_list {l r x:List UInt8} {k k1:Nat} (h:pList l k= .ok (x,k1)):pList (l++r) k= .ok (x,k1):=by
 unfold pList at h⊢;split at h
 ·rename_i n k2 h2;rw[ax_short h2];exact ax_bytes h
 ·cases h
theorem ax_key {l r:List UInt8} {k k1:Nat} {x:Key} (h:pKey l k= .ok (x,k1)):pKey (l++r) k= .ok (x,k1):=by
 unfold pKey at h⊢;split at h
 ·rename_i h0;rw[dif_pos (by rw[List.length_append];omega),←h];have:((l++r).drop k).take 32=(l.drop k).take 32:=by rw[List.drop_append_of_le_length (by omega),List.take_append_of_le_length (by rw[List.length_drop];omega)]
  simp only[this]
 ·cases h
theorem ax_instr {l r:List UInt8} {k k1:Nat} {x:InP} (h:pInstr l k= .ok (x,k1)):pInstr (l++r) k= .ok (x,k1):=by
 unfold pInstr at h⊢;split at h
 ·cases h
 ·rename_i q k2 h2;split at h
  ·cases h
  ·rename_i a k3 h3;split at h
   ·cases h
   ·rename_i d k4 h4;rw[ax_byte h2];simp only;rw[ax_list h3];simp only;rw[ax_list h4];exact h
theorem ax_look {l r:List UInt8} {k k1:Nat} {x:LoP} (h:pLook l k= .ok (x,k1)):pLook (l++r) k= .ok (x,k1):=by
 unfold pLook at h⊢;split at h
 ·cases h
 ·rename_i q k2 h2;split at h
  ·cases h
  ·rename_i a k3 h3;split at h
   ·cases h
   ·rename_i d k4 h4;rw[ax_key h2];simp only;rw[ax_list h3];simp only;rw[ax_list h4];exact h
theorem ax_rep {α:Type} {one two:Nat→PR α} (h1:∀k y,one k= .ok y→two k= .ok y):∀ {n k:Nat} {y:List α×Nat},pRep one n k= .ok y→pRep two n k= .ok y
 |0,k,y,h=>h
 |n+1,k,y,h=>by
  rw[pRep]at h⊢;split at h
  ·cases h
  ·rename_i x k2 h2;split at h
   ·cases h
   ·rename_i ys k3 h3;rw[h1 _ _ h2];simp only;rw[ax_rep h1 h3];exact h
theorem ax_all {α:Type} {l r:List UInt8} {one two:Nat→PR α} (h1:∀k y,one k= .ok y→two k= .ok y) {k:Nat} {y:List α×Nat} (h:pAll one l k= .ok y):pAll two (l++r) k= .ok y:=by
 unfold pAll at h⊢;split at h
 ·cases h
 ·rename_i n k2 h2;rw[ax_short h2];exact ax_rep h1 h
theorem ax_msg {l r:List UInt8} {k k1:Nat} {m:MsP} (h:pMsg l k= .ok (m,k1)):pMsg (l++r) k= .ok (m,k1):=by
 unfold pMsg at h⊢;obtain⟨c,j1,e1,h⟩:=pBind_inv h;split at h
 ·cases h
 ·rename_i hc;obtain⟨h0,j2,e2,h⟩:=pBind_inv h;obtain⟨h1,j3,e3,h⟩:=pBind_inv h;obtain⟨h2,j4,e4,h⟩:=pBind_inv h;obtain⟨ks,j5,e5,h⟩:=pBind_inv h;obtain⟨rc,j6,e6,h⟩:=pBind_inv h;obtain⟨ins,j7,e7,h⟩:=pBind_inv h;obtain⟨lks,j8,e8,h⟩:=pBind_inv h;have f2:(if c.toNat=128 then pByte (l++r) j1 else .ok (c,j1))= .ok (h0,j2):=by
   by_cases hv:c.toNat=128
   ·rw[if_pos hv]at e2⊢;exact ax_byte e2
   ·rw[if_neg hv]at e2⊢;exact e2
  have f8:(if c.toNat=128 then pAll (pLook (l++r)) (l++r) j7 else .ok ([],j7))= .ok (lks,j8):=by
   by_cases hv:c.toNat=128
   ·rw[if_pos hv]at e8⊢;exact ax_all (fun _ _ h=>ax_look h) e8
   ·rw[if_neg hv]at e8⊢;exact e8
  rw[pBind_ok (ax_byte e1),if_neg hc,pBind_ok f2,pBind_ok (ax_byte e3),pBind_ok (ax_byte e4),pBind_ok (ax_all (fun _ _ h=>ax_key h) e5),pBind_ok (ax_key e6),pBind_ok (ax_all (fun _ _ h=>ax_instr h) e7),pBind_ok f8];exact h
theorem ax_sigs (r:List UInt8):∀ {n:Nat} {L R:List UInt8} {S:List Sg},takeS n L=some (S,R)→takeS n (L++r)=some (S,R++r)
 |0,L,R,S,h=>by
  rw[takeS]at h⊢;cases h;rfl
 |n+1,L,R,S,h=>by
  rw[takeS]at h⊢;split at h
  ·rename_i h0;rw[dif_pos (by rw[List.length_append];omega),List.drop_append_of_le_length h0];cases ht:takeS n (L.drop 64)with
   |none=>rw[ht]at h;cases h
   |some y=>
    rw[ht]at h;rw[ax_sigs r ht];cases h;have:(L++r).take 64=L.take 64:=List.take_append_of_le_length h0;simp only[this,Option.map_some]
  ·cases h
theorem ax_tx {l:List UInt8} (r:List UInt8) {x:TxP} {k:Nat} (h:pTx l= .ok (x,k)):pTx (l++r)= .ok (x,k):=by
 unfold pTx at h⊢;split at h
 ·rename_i h0;rw[gsh_app r h0,if_pos h0];split at h
  ·cases h
  ·rename_i S R hS;obtain⟨m,j,e1,h⟩:=pBind_inv h;have hg:(gsh 0 0 l).2.1≤l.length:=by
    have:=(gsh_fit l 0 0 (by omega) (by omega) h0).2.1;omega
   rw[List.drop_append_of_le_length hg,ax_sigs r hS];show pBind (pMsg (R++r) 0) _=_;rw[pBind_ok (ax_msg e1),←h];have:(l++r).length-(R++r).length=l.length-R.length:=by
    rw[List.length_append,List.length_append];omega
   rw[this]
 ·cases h
theorem dec_many:∀(l:List (List UInt8×TxP)),(∀y∈l,pTx y.1= .ok (y.2,y.1.length)∧y.1.length≤1232)→decL l.length (l.flatMap (·.1))=some (l.map (·.2),[])
 |[],_=>rfl
 |y::l,h=>by
  have h1:=h y List.mem_cons_self;rw[List.length_cons,List.flatMap_cons,decL,ax_tx _ h1.1];simp only;rw[if_pos h1.2,List.drop_left,dec_many l (fun z hz=>h z (List.mem_cons_of_mem _ hz))];rfl
theorem wire_at {B:List UInt8} {x:TxP} (h:wireP B= .ok x):pTx B= .ok (x,B.length)∧B.length≤1232:=by
 obtain⟨h1,k,h2,h3⟩:=whole_px (wire_whole h);refine⟨?_,h1⟩;have:=pTx_le h2;rw[h2,show k=B.length by omega]
def takenT (l:List TdR) (vs:List Nat):List TdR:=((l.zip vs).filter (fun y=>decide (y.2=0))).map (·.1)
theorem taken_snoc (l:List TdR) (vs:List Nat) (x:TdR) (n:Nat) (h:l.length=vs.length):takenT (l++[x]) (vs++[n])=takenT l vs++(if n=0 then [x]else []):=by
 unfold takenT;rw[List.zip_append h,List.filter_append,List.map_append];by_cases h0:n=0<;>simp[h0]
theorem taken_mem {l:List TdR} {vs:List Nat} {x:TdR} (h:x∈takenT l vs):x∈l:=by
 obtain⟨y,hy,rfl⟩:=List.mem_map.1 h;exact(List.of_mem_zip (List.mem_filter.1 hy).1).1
theorem taken_len (l:List TdR) (vs:List Nat):(takenT l vs).length≤l.length:=by
 unfold takenT;rw[List.length_map];refine Nat.le_trans (List.length_filter_le _ _) ?_;rw[List.length_zip];omega
theorem RRun.took {S S1:BS} {l:List TdR} {vs:List Nat} {e:List UInt8} {k:Nat} (h:RRun S l vs e k S1):e=(takenT l vs).flatMap (fun x=>x.r.b.l)∧k=(takenT l vs).length∧S1.os=S.os++(takenT l vs).map (fun x=>x.o.pl)∧S1.es=S.es:=by
 induction h with
 |nil=>simp[takenT]
 |snoc h hx ih=>
  obtain⟨i1,i2,i3,i4⟩:=ih;rw[taken_snoc _ _ _ _ h.len.1.symm];rcases hx.2 with⟨h0,rfl⟩|⟨h0,done,_,rfl⟩
  ·simp only[if_neg h0,List.append_nil];exact⟨i1,i2,i3,i4⟩
  ·simp only[if_pos h0];exact⟨by rw[i1];simp,by rw[i2];simp,by rw[i3];simp,i4⟩
theorem leV_range:∀(m n:Nat),leV ((List.range m).map (fun i=>UInt8.ofNat (n/256^i)))=n % 256^m
 |0,n=>by simp[leV,Nat.mod_one]
 |m+1,n=>by
  rw[List.range_succ_eq_map,List.map_cons,leV,List.map_map];have:((fun i=>UInt8.ofNat (n/256^i))∘Nat.succ)=fun i=>UInt8.ofNat (n/256/256^i):=by
   funext i;simp only[Function.comp_apply,Nat.succ_eq_add_one];rw[Nat.pow_succ,Nat.mul_comm,Nat.div_div_eq_div_mul]
  rw[this,leV_range m (n/256),Nat.pow_succ,Nat.mul_comm (256^m) 256,Nat.mod_mul];simp
theorem leB_back {n:Nat} (h:n≤1000000):leV (leB n.toUInt64)=n:=by
 have e:n.toUInt64.toNat=n:=by
  show(UInt64.ofNat n).toNat=n;rw[UInt64.toNat_ofNat',Nat.mod_eq_of_lt (by omega)]
 unfold leB;rw[leV_range,e];exact Nat.mod_eq_of_lt (by omega)
theorem dec_entry (l:List (List UInt8×TxP)) (h0:l≠[]) (hn:l.length≤1000000) (h:∀y∈l,wireP y.1= .ok y.2):decP (leB l.length.toUInt64++l.flatMap (·.1))=some (l.map (·.2)):=by
 have h1:=leB_back hn;have h2:l.length≠0:=fun e=>h0 (List.eq_nil_of_length_eq_zero e);unfold decP;rw[List.take_left' (leB_len _),List.drop_left' (leB_len _),h1,dec_many l (fun y hy=>wire_at (h y hy)),if_neg];rw[List.length_append,leB_len];omega
structure BPk (S:BS) (W:List (List UInt8)) (G:List (List (List UInt8×TxP))):Prop where
 es:S.es=G.map (fun g=>leB g.length.toUInt64++g.flatMap (·.1))
 wn:W=(G.flatMap id).map (·.1)
 os:S.os.length=W.length
 ok:∀g∈G,g≠[]∧∀y∈g,wireP y.1= .ok y.2
 ch:∀o∈S.os,o.ch=[]
def PkOf (x:TdR):Prop:=wireP x.r.b.l= .ok (txP x.r)∧x.o.ch.l=[]
def addG (G:List (List (List UInt8×TxP))) (T:List TdR):List (List (List UInt8×TxP)):=if T.length=0 then G else G++[T.map (fun x=>(x.r.b.l,txP x.r))]
theorem addG_len (G:List (List (List UInt8×TxP))) (T:List TdR):(addG G T).length=if T.length=0 then G.length else G.length+1:=by
 unfold addG;split<;>simp
theorem BPk.step {S S1:BS} {W:List (List UInt8)} {G:List (List (List UInt8×TxP))} {l:List TdR} {vs:List Nat} {e:List UInt8} {k:Nat} (h:BPk S W G) (hr:RRun S l vs e k S1) (hx:∀x∈l,PkOf x):
  BPk (if k=0 then S1 else{S1 with es:=S1.es++[leB k.toUInt64++e]}) (W++(takenT l vs).map (fun x=>x.r.b.l)) (addG G (takenT l vs)):=by
 obtain⟨i1,i2,i3,i4⟩:=hr.took;have hx2:∀x∈takenT l vs,PkOf x:=fun x h=>hx x (taken_mem h);obtain⟨T,hT⟩:∃T,takenT l vs=T:=⟨_,rfl⟩;rw[hT]at i1 i2 i3 hx2⊢;unfold addG;rw[←i2];have hch:∀o∈S1.os,o.ch=[]:=by
  rw[i3];intro o ho;rcases List.mem_append.1 ho with ho|ho
  ·exact h.ch o ho
  ·obtain⟨x,hx,rfl⟩:=List.mem_map.1 ho;exact(hx2 x hx).2
 have hos:S1.os.length=(W++T.map (fun x=>x.r.b.l)).length:=by
  rw[i3,List.length_append,List.length_append,List.length_map,List.length_map,h.os]
 by_cases h0:k=0
 ·rw[if_pos h0,if_pos h0];rw[h0]at i2;have:T=[]:=List.eq_nil_of_length_eq_zero i2.symm;rw[this]at hos⊢;exact⟨by rw[i4,h.es],by rw[h.wn];simp,hos,h.ok,hch⟩
 ·rw[if_neg h0,if_neg h0];refine⟨?_,?_,hos,?_,hch⟩
  ·show S1.es++[_]=_;rw[i4,h.es,List.map_append,i1,i2];simp[List.flatMap_map]
  ·rw[h.wn];simp[List.flatMap_append]
  ·intro g hg;rcases List.mem_append.1 hg with hg|hg
   ·exact h.ok g hg
   ·rw[List.mem_singleton]at hg;subst hg;refine⟨fun e=> ?_,fun y hy=> ?_⟩
    ·have:=congrArg List.length e;rw[List.length_map]at this;simp at this;rw[this]at i2;exact h0 i2
    ·obtain⟨x,hx,rfl⟩:=List.mem_map.1 hy;exact(hx2 x hx).1
theorem BPk.at {S:BS} {W:List (List UInt8)} {G:List (List (List UInt8×TxP))} (h:BPk S W G) {i:Nat} {g:List (List UInt8×TxP)} (hg:G[i]? =some g) (hn:g.length≤1000000):
  S.es[i]? =some (leB g.length.toUInt64++g.flatMap (·.1))∧decP (leB g.length.toUInt64++g.flatMap (·.1))=some (g.map (·.2))∧g≠[]∧
  ((G.take (i+1)).flatMap id)=((G.take i).flatMap id)++g∧∀k y,g[k]? =some y→W[((G.take i).flatMap id).length+k]? =some y.1∧putT y.2=y.1∧y.1.length≤1232:=by
 have hm:=h.ok g (List.mem_of_getElem? hg);refine⟨by rw[h.es,List.getElem?_map,hg];rfl,dec_entry g hm.1 hn hm.2,hm.1,?_,?_⟩
 ·rw[List.take_add_one,hg];simp[List.flatMap_append]
 ·intro k y hk;have hk2:=(List.getElem?_eq_some_iff.1 hk).1;refine⟨?_,wire_put (hm.2 y (List.mem_of_getElem? hk))⟩;have hi:=(List.getElem?_eq_some_iff.1 hg).1;have e:G.flatMap id=((G.take i).flatMap id)++(g++((G.drop (i+1)).flatMap id)):=by
   have e0:=List.drop_eq_getElem_cons hi;rw[(List.getElem?_eq_some_iff.1 hg).2]at e0;have e1:G=G.take i++g::G.drop (i+1):=by rw[←e0,List.take_append_drop]
   conv=>lhs;rw[e1]
   simp[List.flatMap_append]
  rw[h.wn,e,List.getElem?_map,List.getElem?_append_right (by omega),Nat.add_sub_cancel_left,List.getElem?_append_left hk2,hk];rfl
end
theorem bsU1 (x:UInt8) (w:World):(Instr.buildSlice 42 1 #[(0,u8v x)]).run Tryz.prog w= .ok (.slice (some ⟨w.heap.size,0,none⟩) 1 1) (w.alloc (.cells #[u8v x] 5)):=by kernel_rfl
theorem cloneNone_c (w:World):Calls Tryz.prog 37 #[.slice none 0 0] w fun e w'=>e= .returned (.slice none 0 0)∧w=w':=by
 have he:=eqNilY;go_enter Tryz.func37,Tryz.ntmps37;go_wp2_with fail;go_ret;exact⟨rfl,rfl⟩
theorem byte_more {w:World} {base p:Nat} {v:Value} {l:List UInt8} {x:UInt8} (h:SlOwn uc 1 5 w base v l) (hp:w.heap[p]? =some (.cells #[u8v x] 5 (0,0))) (hl:l.length≤900000) (hb:base≤w.heap.size):
  ∃v' w',(Builtin.append_ #[42,42] 42 #[v,.slice (some ⟨p,0,none⟩) 1 1]).run Tryz.prog w= .ok v' w'∧SlOwn uc 1 5 w' base v' (l++[x])∧Mod (fun i=>v.ownBlock=some i) w w':=by
 obtain⟨v',w',h1,h2,h3,_⟩:=SlOwn.append bytesT (q:=[x]) (c:=1) h (SlAt.one hp x rfl rfl) (by simp;omega) (by decide) hb 42;exact⟨v',w',h1,h2,h3⟩
theorem clip_new {l:List UInt8} {b:Nat} {v:Value} {w:World} (h:SlOwn uc 1 5 w b v l):∃a c,v= .slice a l.length c∧(∀w2,(Instr.sliceAt 42 (.slice a l.length c) none (some (.int .i64 (l.length:Int))) (some (.int .i64 (l.length:Int)))).run Tryz.prog w2= .ok (.slice a l.length l.length) w2)∧NewS uc 1 5 b w (.slice a l.length l.length) l:=by
 obtain⟨a,c,e,h1,h2,h3,h4⟩:=clip_own bytesT h;obtain⟨a',c',v2,e',h1',h2'⟩:=h.clip bytesT;have hv:v2= .slice a l.length l.length:=by
  have e1:=h1 w;rw[h1' w]at e1;injection e1 with e1 _
 subst hv;subst e;exact⟨a,c,rfl,h1,h2'⟩
theorem or_128 (n:Nat):bits .or .u8 (IntKind.u8.wrap (n:Int)) 128=((UInt8.ofNat (n % 128+128)).toNat:Int):=by
 have h1:IntKind.u8.wrap (n:Int)=((n % 256:Nat):Int):=by rw[IntKind.wrap_u8];omega
 rw[h1,UInt8.toNat_ofNat'];have h2:∀k:Fin 256,bits .or .u8 ((k.val:Nat):Int) 128=((k.val % 128+128:Nat):Int):=by decide+kernel
 have h3:=h2 ⟨n % 256,by omega⟩;simp only at h3;rw[h3];omega
theorem putShort_c (n:Nat) (h:n≤65535) (w:World):Calls Tryz.prog 56 #[.slice none 0 0,.int .i64 (n:Int)] w fun e w'=>∃a,e= .returned (.tuple #[.slice a (shP n).length (shP n).length,.int .i64 0])∧NewS uc 1 5 w.heap.size w' (.slice a (shP n).length (shP n).length) (shP n)∧Mod (fun _=>False) w w':=by
 have hd1:decide ((n:Int)<0)=false:=Df (by omega);have hd2:decide ((n:Int)>65535)=false:=Df (by omega);have hd3:decide ((65535:Int)<(n:Int))=false:=Df (by omega);have hd4:decide (65535<n)=false:=Df (by omega);have HO:Hid (SlOwn uc 1 5 w w.heap.size (.slice none 0 0) ([]:List UInt8)):=Hi (SlOwn.nil _ _);have HM:Hid (Mod (fun _=>False) w w):=Hi (Mod.refl _ _);by_cases h3:16384≤n
 ·have hd5:decide ((16384:Int)≤(n:Int))=true:=Dt (by omega);have hd6:decide (16384≤n)=true:=Dt h3;obtain⟨x,hx⟩:∃x,UInt8.ofNat (n % 128+128)=x:=⟨_,rfl⟩;obtain⟨y,hy⟩:∃y,UInt8.ofNat (n/128 % 128+128)=y:=⟨_,rfl⟩;obtain⟨z,hz⟩:∃z,UInt8.ofNat (n/16384)=z:=⟨_,rfl⟩;have hs:shP n=[x,y,z]:=by
   unfold shP;rw[if_neg (by omega),if_neg (by omega),hx,hy,hz]
  obtain⟨m,hm⟩:∃m,n/128=m:=⟨_,rfl⟩;obtain⟨o,ho⟩:∃o,m/128=o:=⟨_,rfl⟩;have hsh1:(n:Int)/128=(m:Int):=by omega
  have hsh2:(m:Int)/128=(o:Int):=by omega
  have hx1:bits .or .u8 (IntKind.u8.wrap (n:Int)) 128=(x.toNat:Int):=by rw[←hx];exact or_128 n
  have hx2:bits .or .u8 (IntKind.u8.wrap (m:Int)) 128=(y.toNat:Int):=by rw[←hy,hm];exact or_128 m
  have hx3:IntKind.u8.wrap (o:Int)=(z.toNat:Int):=by
   rw[←hz,UInt8.toNat_ofNat',IntKind.wrap_u8];omega
  have HS:=Hi hs;clear h3 hs hx hy hz h hm ho;go_enter Tryz.func56,Tryz.ntmps56;go_wp2_with fail;go_at_call 37;refine(cloneNone_c _).mono ?_;rintro e w1 ⟨rfl,rfl⟩;go_upto_region 6 with fail;refine ZP0 [0,0,0,0,3,5,0] ?_
  iterate 4 refine Zv ?_
  refine Zy (bsU1 x) fun p25 hp25=> ?_;refine Zi fun w2 hr=> ?_;obtain⟨gp25,kp25⟩:=hr.b p25;have HMa:=Hi (HM.out.then0 hr.mod);obtain⟨v3,w3,hap,hO3,m3⟩:=byte_more (x:=x) (HO.out.mod0 hr.mod) kp25 (by simp) HMa.out.size;have HM:Hid (Mod (fun _=>False) w w3):=Hi (HMa.out.then m3 (fun i hi e=>by have:=HO.out.lt i e;omega));have HO:=Hi hO3;clear hr hO3 m3 kp25 gp25;refine ZA hap ?_;refine Ze ?_;refine TE.nil ?_;clear hap;go_upto_region 8 with fail;refine ZP0 [0,0,0,0,3,5,0] ?_
  iterate 4 refine Zv ?_
  refine Zy (bsU1 y) fun p33 hp33=> ?_;refine Zi fun w2 hr=> ?_;obtain⟨gp33,kp33⟩:=hr.b p33;have HMa:=Hi (HM.out.then0 hr.mod);obtain⟨v3,w3,hap,hO3,m3⟩:=byte_more (x:=y) (HO.out.mod0 hr.mod) kp33 (by simp) HMa.out.size;have HM:Hid (Mod (fun _=>False) w w3):=Hi (HMa.out.then m3 (fun i hi e=>by have:=HO.out.lt i e;omega));have HO:=Hi hO3;clear hr hO3 m3 kp33 gp33;refine ZA hap ?_;refine Ze ?_;refine TE.nil ?_;clear hap;go_upto_region 10 with fail;refine ZP0 [0,0,0,3,5,0] ?_
  iterate 3 refine Zv ?_
  refine Zy (bsU1 z) fun p40 hp40=> ?_;refine Zi fun w2 hr=> ?_;obtain⟨gp40,kp40⟩:=hr.b p40;have HMa:=Hi (HM.out.then0 hr.mod);obtain⟨v3,w3,hap,hO3,m3⟩:=byte_more (x:=z) (HO.out.mod0 hr.mod) kp40 (by simp) HMa.out.size;have HM:Hid (Mod (fun _=>False) w w3):=Hi (HMa.out.then m3 (fun i hi e=>by have:=HO.out.lt i e;omega));have HO:=Hi hO3;clear hr hO3 m3 kp40 gp40;refine ZA hap ?_;refine Ze ?_;refine TE.nil ?_;clear hap;have hOf:=HO.out;simp only[List.nil_append,List.cons_append]at hOf;rw[←HS.out]at hOf;obtain⟨a,c,e1,hcl,hN⟩:=clip_new hOf;obtain⟨k,hk⟩:∃k,(shP n).length=k:=⟨_,rfl⟩;rw[hk]at hcl e1;subst e1;have HF:=Hi (Ai hN hk);have HCL:=Hi hcl;clear hOf hN hk hcl;go_wp2_with fail;go_at_call 36;refine(clipY_c _ _ _ HCL.out).mono ?_;rintro e w9 ⟨rfl,rfl⟩;go_wp2_with fail
  go_ret2
  refine⟨a,?_,HF.out.1,HM.out⟩;rw[HF.out.2];rfl
 ·have hd5:decide ((16384:Int)≤(n:Int))=false:=Df (by omega);have hd6:decide (16384≤n)=false:=Df h3;by_cases h2:128≤n
  ·have hd7:decide ((128:Int)≤(n:Int))=true:=Dt (by omega);have hd8:decide (128≤n)=true:=Dt h2;obtain⟨x,hx⟩:∃x,UInt8.ofNat (n % 128+128)=x:=⟨_,rfl⟩;obtain⟨y,hy⟩:∃y,UInt8.ofNat (n/128)=y:=⟨_,rfl⟩;have hs:shP n=[x,y]:=by
    unfold shP;rw[if_neg (by omega),if_pos (by omega),hx,hy]
   obtain⟨m,hm⟩:∃m,n/128=m:=⟨_,rfl⟩;have hsh1:(n:Int)/128=(m:Int):=by omega
   have hx1:bits .or .u8 (IntKind.u8.wrap (n:Int)) 128=(x.toNat:Int):=by rw[←hx];exact or_128 n
   have hx2:IntKind.u8.wrap (m:Int)=(y.toNat:Int):=by
    rw[←hy,UInt8.toNat_ofNat',IntKind.wrap_u8];omega
   have HS:=Hi hs;clear h3 h2 hs hx hy h hm;go_enter Tryz.func56,Tryz.ntmps56;go_wp2_with fail;go_at_call 37;refine(cloneNone_c _).mono ?_;rintro e w1 ⟨rfl,rfl⟩;go_upto_region 8 with fail;refine ZP0 [0,0,0,0,3,5,0] ?_
   iterate 4 refine Zv ?_
   refine Zy (bsU1 x) fun p33 hp33=> ?_;refine Zi fun w2 hr=> ?_;obtain⟨gp33,kp33⟩:=hr.b p33;have HMa:=Hi (HM.out.then0 hr.mod);obtain⟨v3,w3,hap,hO3,m3⟩:=byte_more (x:=x) (HO.out.mod0 hr.mod) kp33 (by simp) HMa.out.size;have HM:Hid (Mod (fun _=>False) w w3):=Hi (HMa.out.then m3 (fun i hi e=>by have:=HO.out.lt i e;omega));have HO:=Hi hO3;clear hr hO3 m3 kp33 gp33;refine ZA hap ?_;refine Ze ?_;refine TE.nil ?_;clear hap;go_upto_region 10 with fail;refine ZP0 [0,0,0,3,5,0] ?_
   iterate 3 refine Zv ?_
   refine Zy (bsU1 y) fun p40 hp40=> ?_;refine Zi fun w2 hr=> ?_;obtain⟨gp40,kp40⟩:=hr.b p40;have HMa:=Hi (HM.out.then0 hr.mod);obtain⟨v3,w3,hap,hO3,m3⟩:=byte_more (x:=y) (HO.out.mod0 hr.mod) kp40 (by simp) HMa.out.size;have HM:Hid (Mod (fun _=>False) w w3):=Hi (HMa.out.then m3 (fun i hi e=>by have:=HO.out.lt i e;omega));have HO:=Hi hO3;clear hr hO3 m3 kp40 gp40;refine ZA hap ?_;refine Ze ?_;refine TE.nil ?_;clear hap;have hOf:=HO.out;simp only[List.nil_append,List.cons_append]at hOf;rw[←HS.out]at hOf;obtain⟨a,c,e1,hcl,hN⟩:=clip_new hOf;obtain⟨k,hk⟩:∃k,(shP n).length=k:=⟨_,rfl⟩;rw[hk]at hcl e1;subst e1;have HF:=Hi (Ai hN hk);have HCL:=Hi hcl;clear hOf hN hk hcl;go_wp2_with fail;go_at_call 36;refine(clipY_c _ _ _ HCL.out).mono ?_;rintro e w9 ⟨rfl,rfl⟩;go_wp2_with fail
   go_ret2
   refine⟨a,?_,HF.out.1,HM.out⟩;rw[HF.out.2];rfl
  ·have hd7:decide ((128:Int)≤(n:Int))=false:=Df (by omega);have hd8:decide (128≤n)=false:=Df h2;have hs:shP n=[UInt8.ofNat n]:=if_pos (by omega);obtain⟨x,hx⟩:∃x,UInt8.ofNat n=x:=⟨_,rfl⟩;have hw:IntKind.u8.wrap (n:Int)=(x.toNat:Int):=by
    rw[←hx,UInt8.toNat_ofNat',IntKind.wrap_u8];omega
   have HS:=Hi (hs.trans (by rw[hx]));clear h3 h2 hs hx h;go_enter Tryz.func56,Tryz.ntmps56;go_wp2_with fail;go_at_call 37;refine(cloneNone_c _).mono ?_;rintro e w1 ⟨rfl,rfl⟩;go_upto_region 10 with fail;refine ZP0 [0,0,0,3,5,0] ?_
   iterate 3 refine Zv ?_
   refine Zy (bsU1 x) fun p40 hp40=> ?_;refine Zi fun w2 hr=> ?_;obtain⟨gp40,kp40⟩:=hr.b p40;have HMa:=Hi (HM.out.then0 hr.mod);obtain⟨v3,w3,hap,hO3,m3⟩:=byte_more (x:=x) (HO.out.mod0 hr.mod) kp40 (by simp) HMa.out.size;have HM:Hid (Mod (fun _=>False) w w3):=Hi (HMa.out.then m3 (fun i hi e=>by have:=HO.out.lt i e;omega));have HO:=Hi hO3;clear hr hO3 m3 kp40 gp40;refine ZA hap ?_;refine Ze ?_;refine TE.nil ?_;clear hap;have hOf:=HO.out;simp only[List.nil_append,List.cons_append]at hOf;rw[←HS.out]at hOf;obtain⟨a,c,e1,hcl,hN⟩:=clip_new hOf;obtain⟨k,hk⟩:∃k,(shP n).length=k:=⟨_,rfl⟩;rw[hk]at hcl e1;subst e1;have HF:=Hi (Ai hN hk);have HCL:=Hi hcl;clear hOf hN hk hcl;go_wp2_with fail;go_at_call 36;refine(clipY_c _ _ _ HCL.out).mono ?_;rintro e w9 ⟨rfl,rfl⟩;go_wp2_with fail
   go_ret2
   refine⟨a,?_,HF.out.1,HM.out⟩;rw[HF.out.2];rfl
section
attribute [local go_sem↓] wlMsg ldMsg stMsg wlIn ldIn stIn wlLo ldLo stLo
attribute [local go_sem] mgx_size mgx_ext mgx_one mgx_one0 mg0 mg1 mg2 mg3 mg4 mg37 mg38 mg37' mg38' mgx_hs mg0' mg4'
@[local go_sem high] theorem max3_ints {P:Program} (w:World) (ts:Array TypeId) (t:TypeId) (k k' k'':IntKind) (x y z:Int):(Builtin.max_ ts t #[.int k x,.int k' y,.int k'' z]).run P w= .ok (.int k (max (max x y) z)) w:=by
 have e:(if z>(if y>x then y else x)then z else(if y>x then y else x))=max (max x y) z:=by
  rw[Int.max_def,Int.max_def]
  repeat' split
  all_goals omega
 simp[Builtin.max_,Builtin.max2,e]
theorem inr1B (y:InR):(inr y)[1]? =some (.slice y.a.a y.a.l.length y.a.c):=rfl
theorem inr1B' (y:InR) (h:1<(inr y).size):(inr y)[1]= .slice y.a.a y.a.l.length y.a.c:=rfl
theorem mg1B' {v0:Bool} {h0 h1 h2:UInt8} {ka:Option Addr} {kn kc':Nat} {rc:Key} {ia:Option Addr} {n1 c1:Nat} {la:Option Addr} {n2 c2:Nat} (h:1<(mgx v0 h0 h1 h2 ka kn kc' rc ia n1 c1 la n2 c2).size):(mgx v0 h0 h1 h2 ka kn kc' rc ia n1 c1 la n2 c2)[1]=u8v h0:=at_get (mg1 ..) h
theorem mg2B' {v0:Bool} {h0 h1 h2:UInt8} {ka:Option Addr} {kn kc':Nat} {rc:Key} {ia:Option Addr} {n1 c1:Nat} {la:Option Addr} {n2 c2:Nat} (h:2<(mgx v0 h0 h1 h2 ka kn kc' rc ia n1 c1 la n2 c2).size):(mgx v0 h0 h1 h2 ka kn kc' rc ia n1 c1 la n2 c2)[2]=u8v h1:=at_get (mg2 ..) h
theorem mg3B' {v0:Bool} {h0 h1 h2:UInt8} {ka:Option Addr} {kn kc':Nat} {rc:Key} {ia:Option Addr} {n1 c1:Nat} {la:Option Addr} {n2 c2:Nat} (h:3<(mgx v0 h0 h1 h2 ka kn kc' rc ia n1 c1 la n2 c2).size):(mgx v0 h0 h1 h2 ka kn kc' rc ia n1 c1 la n2 c2)[3]=u8v h2:=at_get (mg3 ..) h
theorem zLoM_size:zLo.size=34:=lor_size _
attribute [local go_sem] mg1B' mg2B' mg3B' inr1B inr1B' inr2B inr2B' inrB_size inrB_all inrB_one zIn_size lor32 lor33 lor32' lor33' lor_sz lor_al0 zLoM_size
theorem may_c (x:RdR) (w:World) (hR:MsgRd w x) (hB:MsB (msgP x)) (hv:x.v0=true∨(x.lks.l.length=0∧x.h0.toNat<128)):
  Calls Tryz.prog 103 #[.agg (msr x)] w fun e w'=>e= .returned (.bool true)∧Mod (fun _=>False) w w':=by
 have HX:=Hi hR;have hB1:=hB.1;have hB2:=hB.2.1.1;have hB3:=hB.2.2.1;have HBI:Hid (∀y∈x.ins.l,y.a.l.length≤65535∧y.d.l.length≤65535):=Hi (fun y hy=>hB.2.1.2 (inP y) (List.mem_map_of_mem hy));have HBL:Hid (∀y∈x.lks.l,y.w.l.length≤65535∧y.r.l.length≤65535):=Hi (fun y hy=>hB.2.2.2 (loP y) (List.mem_map_of_mem hy));simp only[msgP,List.length_map]at hB1 hB2 hB3;show Calls Tryz.prog 103 #[.agg (mgx x.v0 x.h0 x.h1 x.h2 x.ks.a x.ks.l.length x.ks.c x.rc x.ins.a x.ins.l.length x.ins.c x.lks.a x.lks.l.length x.lks.c)] w _;obtain⟨n1,hn1⟩:∃n,x.ks.l.length=n:=⟨_,rfl⟩;obtain⟨n2,hn2⟩:∃n,x.ins.l.length=n:=⟨_,rfl⟩;obtain⟨n3,hn3⟩:∃n,x.lks.l.length=n:=⟨_,rfl⟩;obtain⟨h0,hh0⟩:∃h,x.h0.toNat=h:=⟨_,rfl⟩;obtain⟨v0,hv0⟩:∃v,x.v0=v:=⟨_,rfl⟩;have HH0:=Hi hh0;rw[hn1,hn2,hn3,hv0];rw[hn1]at hB1;rw[hn2]at hB2;rw[hn3]at hB3 hv;rw[hv0,hh0]at hv;have HN:=Hi (Ai hn2 hn3);have HV:=Hi hv;obtain⟨L0,hL0⟩:∃L,max (max n1 n2) n3=L:=⟨_,rfl⟩;have hmx:max (max (n1:Int) (n2:Int)) (n3:Int)=(L0:Int):=by omega
 have HL0:=Hi (show L0≤65535 by omega);clear hR hB hv hn1 hn2 hn3 hv0 hh0 hL0;go_enter Tryz.func103,Tryz.ntmps103;go_upto_region 0 with fail;refine ZP0 [3,0] ?_;refine Zb fun p1 hp1=> ?_;refine Zv ?_;refine TD.nil (fun w1 hr=> ?_);obtain⟨gp1,kp1⟩:=hr.b p1;have HM1:=Hi hr.mod;clear hr;go_upto_region 1 with fail;have Lkp1:=Ls kp1;refine ZP0 [0,1,0,0,1,0,0,1,0,0,0] ?_
 iterate 11 first|refine Zv ?_|refine Zd ?_
 refine TD.nil (fun w2 hr=> ?_);replace kp1:=hr.q kp1;have HM2:=Hi (HM1.out.then0 hr.mod);clear hr hmx;go_upto_region 2 with fail;have Lkp1:=Ls kp1;refine ZP0 [0,1,0,0] ?_
 iterate 4 first|refine Zv ?_|refine Zd ?_
 refine TD.nil (fun w3 hr=> ?_);replace kp1:=hr.q kp1;have HM3:=Hi (HM2.out.then0 hr.mod);clear hr;go_wp2_with fail;go_loopw [3,21] (fun s3 s21 ws=>∃i L:Nat,i≤n2∧s21= .int .i64 (i:Int)∧s3= .int .i64 (L:Int)∧Hid (L≤65535)∧Hid (Mod (fun _=>False) w ws)∧ws.heap[p1]? =some (.cells (mgx v0 x.h0 x.h1 x.h2 x.ks.a n1 x.ks.c x.rc x.ins.a n2 x.ins.c x.lks.a n3 x.lks.c) 51 (0,0))) (fun _ s21 _=>n2-(intOf s21).toNat)
 case atStart=>exact⟨0,L0,Nat.zero_le _,rfl,rfl,HL0,HM3,kp1⟩
 case round=>
  clear kp1;obtain⟨i,L,hi,rfl,rfl,HL,HM,kp1⟩:=hrel;by_cases hlt:i<n2
  ·have hd:=Dt hlt;obtain⟨y,hy⟩:∃y,x.ins.l[i]? =some y:=⟨_,List.getElem?_eq_getElem (by have:=HN.out;omega)⟩;obtain⟨g,o,C,U,fr,hga,kg,he,hle⟩:=(HX.out.2.1.1.mod0 HM.out).block hy;have hyb:=HBI.out y (List.mem_of_getElem? hy);obtain⟨ya,hya⟩:∃n,y.a.l.length=n:=⟨_,rfl⟩;obtain⟨yd,hyd⟩:∃n,y.d.l.length=n:=⟨_,rfl⟩;rw[hya,hyd]at hyb;obtain⟨L1,hL1⟩:∃L1,max (max L ya) yd=L1:=⟨_,rfl⟩;have hmx:max (max (L:Int) (ya:Int)) (yd:Int)=(L1:Int):=by omega
   have HL1:=Hi (show L1≤65535 by have:=HL.out;omega);have hi1:=inr1B y;have hi2:=inr2B y;have hi1':=inr1B' y;have hi2':=inr2B' y;rw[hya]at hi1 hi1';rw[hyd]at hi2 hi2';clear hy hya hyd hyb hL1;go_upto_region 4 with fail;have Lkp1:=Ls kp1;have Lkg:=Ls kg;refine ZP0 [0,1,3,4] ?_;refine Zv ?_;refine Zd ?_;refine Za alIn fun p5 hp5=> ?_;refine Zt ?_;refine TD.nil (fun w4 hr=> ?_);replace kp1:=hr.q kp1;replace kg:=hr.q kg;obtain⟨gp5,kp5⟩:=hr.b p5;have HM4:=Hi (HM.out.then0 hr.mod);clear hr he hle kg hga;go_upto_region 5 with fail;have Lkp1:=Ls kp1;have Lkp5:=Ls kp5;refine ZP0 [0,0,1,0,0,1,0,0,0] ?_
   iterate 9 first|refine Zv ?_|refine Zd ?_
   refine TD.nil (fun w5 hr=> ?_);replace kp1:=hr.q kp1;replace kp5:=hr.q kp5;have HM5:=Hi (HM4.out.then0 hr.mod);clear hr;go_wp2_with fail;go_roundw
   case rel=>exact⟨i+1,L1,by omega,by go_num,rfl,HL1,HM5,kp1⟩
   case measure=>simp[intOf];omega
  ·have hd:=Df hlt;clear hi hlt;go_upto_region 7 with fail;have Lkp1:=Ls kp1;refine ZP0 [0,1,0,0] ?_
   iterate 4 first|refine Zv ?_|refine Zd ?_
   refine TD.nil (fun w6 hr=> ?_);replace kp1:=hr.q kp1;have HM6:=Hi (HM.out.then0 hr.mod);clear hr;go_wp2_with fail;go_loopw [3,37] (fun s3 s37 ws=>∃i L:Nat,i≤n3∧s37= .int .i64 (i:Int)∧s3= .int .i64 (L:Int)∧Hid (L≤65535)∧Hid (Mod (fun _=>False) w ws)∧ws.heap[p1]? =some (.cells (mgx v0 x.h0 x.h1 x.h2 x.ks.a n1 x.ks.c x.rc x.ins.a n2 x.ins.c x.lks.a n3 x.lks.c) 51 (0,0))) (fun _ s37 _=>n3-(intOf s37).toNat)
   case atStart=>exact⟨0,L,Nat.zero_le _,rfl,rfl,HL,HM6,kp1⟩
   case round=>
    clear kp1 HL HM HM6;obtain⟨i,L,hi,rfl,rfl,HL,HM,kp1⟩:=hrel;by_cases hlt:i<n3
    ·have hd:=Dt hlt;obtain⟨y,hy⟩:∃y,x.lks.l[i]? =some y:=⟨_,List.getElem?_eq_getElem (by have:=HN.out;omega)⟩;obtain⟨g,o,C,U,fr,hga,kg,he,hle⟩:=(HX.out.2.2.1.mod0 HM.out).block hy;have hyb:=HBL.out y (List.mem_of_getElem? hy);obtain⟨ya,hya⟩:∃n,y.w.l.length=n:=⟨_,rfl⟩;obtain⟨yd,hyd⟩:∃n,y.r.l.length=n:=⟨_,rfl⟩;rw[hya,hyd]at hyb;obtain⟨L1,hL1⟩:∃L1,max (max L ya) yd=L1:=⟨_,rfl⟩;have hmx:max (max (L:Int) (ya:Int)) (yd:Int)=(L1:Int):=by omega
     have HL1:=Hi (show L1≤65535 by have:=HL.out;omega);have hi1:=lor32 y;have hi2:=lor33 y;have hi1':=lor32' y;have hi2':=lor33' y;rw[hya]at hi1 hi1';rw[hyd]at hi2 hi2';clear hy hya hyd hyb hL1;go_upto_region 9 with fail;have Lkp1:=Ls kp1;have Lkg:=Ls kg;refine ZP0 [0,1,3,4] ?_;refine Zv ?_;refine Zd ?_;refine Za alLo fun p7 hp7=> ?_;refine Zt ?_;refine TD.nil (fun w7 hr=> ?_);replace kp1:=hr.q kp1;replace kg:=hr.q kg;obtain⟨gp7,kp7⟩:=hr.b p7;have HM4:=Hi (HM.out.then0 hr.mod);clear hr he hle kg hga;go_upto_region 10 with fail;have Lkp1:=Ls kp1;have Lkp7:=Ls kp7;refine ZP0 [0,0,1,0,0,1,0,0,0] ?_
     iterate 9 first|refine Zv ?_|refine Zd ?_
     refine TD.nil (fun w8 hr=> ?_);replace kp1:=hr.q kp1;replace kp7:=hr.q kp7;have HM5:=Hi (HM4.out.then0 hr.mod);clear hr;go_wp2_with fail;go_roundw
     case rel=>exact⟨i+1,L1,by omega,by go_num,rfl,HL1,HM5,kp1⟩
     case measure=>simp[intOf];omega
    ·have hd:=Df hlt;have hl1:=HL.out;have hl2:decide ((L:Int)≤65535)=true:=Dt (by omega);have hl3:=Dt hl1;clear hi hlt;cases v0 with
     |true=>
      go_upto_region 12 with fail;have Lkp1:=Ls kp1;refine ZP0 [0,0,0,0,1,0,0,1,0,0,0,0,0,1,0,0,0,0,0] ?_
      iterate 6 first|refine Zv ?_|refine Zd ?_
      refine Zo ?_;refine Zp ?_
      iterate 5 refine Zo ?_
      refine Zp ?_
      iterate 2 refine Zo ?_
      iterate 3 refine Zv ?_
      refine TD.nil (fun w9 hr=> ?_);replace kp1:=hr.q kp1;have HM9:=Hi (HM.out.then0 hr.mod);clear hr;go_wp2_with fail;go_ret;exact⟨rfl,HM9.out⟩
     |false=>
      obtain⟨hz,hh⟩:=HV.out.resolve_left (by decide);rw[←HH0.out]at hh;have hz1:((n3:Int)==0)=true:=by simp[hz]
      have hz2:(n3==0)=true:=by simp[hz]
      have hz3:decide ((n3:Int)=0)=true:=by simp[hz]
      have hh1:decide ((x.h0.toNat:Int)<128)=true:=Dt (by omega);have hh2:=Dt hh;clear hz hh;go_upto_region 12 with fail;have Lkp1:=Ls kp1;refine ZP0 [0,0,0,0,1,0,0,1,0,0,0,0,0,1,0,0,0,0,0] ?_
      iterate 19 first|refine Zv ?_|refine Zd ?_
      refine TD.nil (fun w9 hr=> ?_);replace kp1:=hr.q kp1;have HM9:=Hi (HM.out.then0 hr.mod);clear hr;go_wp2_with fail;go_ret;exact⟨rfl,HM9.out⟩
end
section
attribute [local go_sem↓] wlMsg ldMsg stMsg wlIn ldIn stIn wlLo ldLo stLo
attribute [local go_sem] mgx_size mgx_ext mgx_one mgx_one0 mg0 mg1 mg2 mg3 mg4 mg37 mg38 mg37' mg38' mgx_hs mg0' mg4'
theorem layT:ElT Tryz.prog 227 5 uc 1 1 where
 u:=Tryz.underlying227
 info:=by
  obtain⟨i0,hi,hz0,hz1,hz2⟩:=info_parts (show(Tryz.prog.info? 5).map (fun i=>(i.zero,i.size,i.bytes))=some (some (.int .u8 0),1,1)by kernel_rfl);exact⟨i0,_,hi,hz0,hz1,hz2,rfl⟩
 pos:=by omega
 size x:=rfl
 one x:=bytesT.one x
theorem app_mix (ty:TypeId) (args:Array Value) (w:World):(Builtin.append_ #[227,42] ty args).run Tryz.prog w=(Builtin.append_ #[227,227] ty args).run Tryz.prog w:=by
 have h1:∀w,(underlying 227).run Tryz.prog w= .ok (.slice 5) w:=fun w=>run_underlying Tryz.underlying227 w;have h2:∀w,(underlying 42).run Tryz.prog w= .ok (.slice 5) w:=fun w=>run_underlying Tryz.underlying42 w;unfold Builtin.append_;cases h0:args[0]? with
 |none=>rfl
 |some v=>
  cases h3:args[1]? with
  |none=>rfl
  |some u=>
   have h4:∀w,(sizeOf 5).run Tryz.prog w= .ok 1 w:=fun w=>by kernel_rfl
   cases v<;>simp[h1,h2,h4]
def LyG (p b:Nat) (v:Value) (B:List UInt8) (w:World):Prop:=w.heap[p]? =some (.cells #[v] 227 (0,0))∧SlOwn uc 1 5 w b v B∧p<b
def LyC (p:Nat) (v v':Value) (w w':World):Prop:=Mod (fun i=>i=p∨v.ownBlock=some i) w w'∧(v'.ownBlock=v.ownBlock∨∃g,v'.ownBlock=some g∧w.heap.size≤g)
theorem LyG.ne {p b:Nat} {v:Value} {B:List UInt8} {w:World} (h:LyG p b v B w):v.ownBlock≠some p:=fun e=>by
 have:=(h.2.1.lt p e).1;have:=h.2.2;omega
theorem ly_app {p b:Nat} {v:Value} {B q:List UInt8} {a:Option Addr} {c:Nat} {w:World} (h:LyG p b v B w) (hq:SlAt uc 1 w a q) (hl:B.length+q.length≤1000000) (hb:b≤w.heap.size) (ty:TypeId):
  ∃v' w',(∃a' m' c',v'= .slice a' m' c')∧(Builtin.append_ #[227,227] ty #[v,.slice a q.length c]).run Tryz.prog w= .ok v' w'∧(Builtin.append_ #[227,42] ty #[v,.slice a q.length c]).run Tryz.prog w= .ok v' w'∧w'.heap[p]? =some (.cells #[v] 227 (0,0))∧Mod (fun i=>v.ownBlock=some i) w w'∧
   (∀w2,Mod (fun i=>i=p) w' w2→w2.heap[p]? =some (.cells #[v'] 227 (0,0))→LyG p b v' (B++q) w2∧LyC p v v' w w2):=by
 obtain⟨v',w',h1,h2,h3,h4⟩:=SlOwn.append layT (c:=c) h.2.1 hq hl (by decide) hb ty;have hpl:=Ls h.1;have hne:=h.ne;obtain⟨a',c',e',_⟩:=h2.at layT;refine⟨v',w',⟨_,_,_,e'⟩,h1,by rw[app_mix];exact h1,h3.at h.1 (fun e=>hne e),h3,fun w2 m2 k2=>⟨⟨k2,h2.mod m2 (fun g hg e=> ?_),h.2.2⟩,(h3.mono (fun i _ e=> .inr e)).trans (m2.mono (fun i _ e=> .inl e)),?_⟩⟩
 ·rcases h4 with h4|h4
  ·rw[h4]at hg;rw[e]at hg;exact hne hg
  ·rw[h4]at hg;cases hg;omega
 ·rcases h4 with h4|h4
  ·exact .inl h4
  ·exact .inr ⟨_,h4,Nat.le_refl _⟩
theorem LyC.trans {p:Nat} {u v x:Value} {w w1 w2:World} (h:LyC p u v w w1) (k:LyC p v x w1 w2):LyC p u x w w2:=by
 refine⟨h.1.then k.1 (fun i hi e=> ?_),?_⟩
 ·rcases e with e|e
  ·exact .inl e
  ·rcases h.2 with h2|⟨g,h2,h3⟩
   ·rw[h2]at e;exact .inr e
   ·rw[h2]at e;cases e;omega
 ·rcases k.2 with k2|⟨g,k2,k3⟩
  ·rcases h.2 with h2|⟨g,h2,h3⟩
   ·exact .inl (k2.trans h2)
   ·exact .inr ⟨g,k2.trans h2,h3⟩
  ·exact .inr ⟨g,k2,Nat.le_trans h.1.size k3⟩
theorem LyC.pre {p:Nat} {v x:Value} {w w1 w2:World} (h:Mod (fun _=>False) w w1) (k:LyC p v x w1 w2):LyC p v x w w2:=
 ⟨(h.mono (fun _ _ e=>e.elim)).trans k.1,k.2.imp_right (fun⟨g,k2,k3⟩=>⟨g,k2,Nat.le_trans h.size k3⟩)⟩
theorem LyC.post {p:Nat} {v x:Value} {w w1 w2:World} (k:LyC p v x w w1) (h:Mod (fun _=>False) w1 w2):LyC p v x w w2:=
 ⟨k.1.trans (h.mono (fun _ _ e=>e.elim)),k.2⟩
theorem LyG.mod0 {p b:Nat} {v:Value} {B:List UInt8} {w w':World} (h:LyG p b v B w) (hm:Mod (fun _=>False) w w'):LyG p b v B w':=⟨hm.at h.1 (fun e=>e),h.2.1.mod0 hm,h.2.2⟩
theorem LyC.at {p q:Nat} {v v':Value} {w w':World} {o:Obj} (h:LyC p v v' w w') (hq:w.heap[q]? =some o) (hp:q≠p) (hv:v.ownBlock≠some q):w'.heap[q]? =some o∧v'.ownBlock≠some q:=by
 refine⟨h.1.at hq (fun e=>e.elim hp hv),fun e=> ?_⟩;rcases h.2 with h2|⟨g,h2,h3⟩
 ·rw[h2]at e;exact hv e
 ·rw[h2]at e;cases e;have:=Ls hq;omega
theorem many_c {p b:Nat} {v:Value} {B:List UInt8} (n:Nat) (hn:n≤65535) (w:World) (h:LyG p b v B w) (hB:B.length≤900000) (hb:b≤w.heap.size):
  Calls Tryz.prog 104 #[pV p,.int .i64 (n:Int)] w fun e w'=>e= .returned (.tuple #[])∧∃v',LyG p b v' (B++shP n) w'∧LyC p v v' w w':=by
 have HG:=Hi (Ai h (Ai hB hb));have HN:=Hi hn;clear h hB hb hn;go_enter Tryz.func104,Tryz.ntmps104;go_wp2_with fail;go_at_call 56;refine(putShort_c n HN.out _).mono ?_;rintro e w1 ⟨a,rfl,hN,m1⟩;have hs:=ns_rd hN;have HL1:=HG.out.1.mod0 m1;have hsl:(shP n).length≤3:=by
  unfold shP;split
  ·simp
  ·split<;>simp
 have kp:=HL1.1;obtain⟨k,hk⟩:∃k,(shP n).length=k:=⟨_,rfl⟩;have HS:=Hi (Ai hs (Ai HL1 (Ai hsl (Ai m1 hk))));rw[hk];clear hs hN HL1 hsl m1 hk;go_upto_region 1 with fail;have Lkp:=Ls kp;refine ZP0 [0,0,0,1,0,5,0,6] ?_
 iterate 5 first|refine Zv ?_|refine Zd ?_
 refine Zi fun w2 hr=> ?_;replace kp:=hr.q kp;have HMP:=Hi hr.mod;obtain⟨v2,wx,⟨a2,q2,c2,rfl⟩,hap1,hap,k2,m2,hfin⟩:=ly_app (c:=k) ((HS.out.2.1).mod0 hr.mod) (HS.out.1.mod0 hr.mod) (by have:=HG.out.2.1;have:=HS.out.2.2.1;omega) (Nat.le_trans HG.out.2.2 (Nat.le_trans HS.out.2.2.2.1.size hr.mod.size)) 227;rw[HS.out.2.2.2.2]at hap;have HFN:=Hi hfin;have HMX:=Hi m2;clear hr hfin m2 kp;have kp:=k2;clear k2;(refine eff_append2 (by simp only[zK];rfl) (by rfl) rfl ?hx7 ?hz7 hap ?n7;(case hx7=>simp only[zM];try rfl);(case hz7=>simp only[zM];try rfl);try simp only[zL]);refine Ze ?_;refine Zz ?_;refine ZS ?_;refine ZN kp fun wn kp mS=> ?_;(try simp only[Array.setIfInBounds,zL]at kp);have HLY:=Hi (HFN.out _ mS kp);clear mS HFN;go_wp2_with fail;go_end0;exact⟨rfl,_,HLY.out.1,LyC.pre (HS.out.2.2.2.1.then0 HMP.out) HLY.out.2⟩
theorem LyM {p b:Nat} {v v':Value} {B:List UInt8} {w0 w w':World} (h:Mod (fun _=>False) w0 w) (hG:LyG p b v B w) (k:LyC p v v' w w') (hp:w0.heap.size≤p):Mod (fun _=>False) w0 w':=
 h.then k.1 (fun i hi e=>by
  rcases e with e|e
  ·omega
  ·have:=(hG.2.1.lt i e).1;have:=hG.2.2;omega)
theorem list_c {p b:Nat} {v:Value} {B l:List UInt8} {a:Option Addr} {c:Nat} (w:World) (h:LyG p b v B w) {w0:World} (hl:SlAt uc 1 w0 a l) (hlm:Mod (fun _=>False) w0 w) (hlp:w0.heap.size≤p) (hn:l.length≤65535) (hB:B.length≤800000) (hb:b≤w.heap.size):
  Calls Tryz.prog 105 #[pV p,.slice a l.length c] w fun e w'=>e= .returned (.tuple #[])∧∃v',LyG p b v' (B++lisP l) w'∧LyC p v v' w w':=by
 have HG:=Hi (Ai h (Ai hB hb));have HL:=Hi (Ai hl (Ai (Ai hlm hlp) hn));obtain⟨n,hnl⟩:∃n,l.length=n:=⟨_,rfl⟩;have HN:=Hi hnl;have HMY:=Hi (many_c n (by omega) w h (by omega) hb);rw[hnl];clear h hB hb hl hlm hlp hn hnl;go_enter Tryz.func105,Tryz.ntmps105;go_wp2_with fail;go_at_call 104;refine HMY.out.mono ?_;rintro e w1 ⟨rfl,v1,hG1,hC1⟩;have hs:SlAt uc 1 w1 a l:=HL.out.1.mod0 (LyM HL.out.2.1.1 HG.out.1 hC1 HL.out.2.1.2);have kp:=hG1.1;have HS:=Hi (Ai hs (Ai hG1 hC1));have HSL:Hid ((B++shP n).length+l.length≤1000000):=Hi (by
  have hsl:(shP n).length≤3:=by
   unfold shP;split
   ·simp
   ·split<;>simp
  rw[List.length_append];have:=HG.out.2.1;have:=HL.out.2.2;omega)
 clear hs hG1 hC1;go_upto_region 1 with fail;have Lkp:=Ls kp;refine ZP0 [0,0,0,1,0,5,0,6] ?_
 iterate 5 first|refine Zv ?_|refine Zd ?_
 refine Zi fun w2 hr=> ?_;replace kp:=hr.q kp;have HMP:=Hi hr.mod;obtain⟨v2,wx,⟨a2,q2,c2,rfl⟩,hap1,hap,k2,m2,hfin⟩:=ly_app (c:=c) ((HS.out.2.1).mod0 hr.mod) (HS.out.1.mod0 hr.mod) HSL.out (Nat.le_trans HG.out.2.2 (Nat.le_trans HS.out.2.2.1.size hr.mod.size)) 227;rw[HN.out]at hap;have HFN:=Hi hfin;have HMX:=Hi m2;clear hr hfin m2 kp;have kp:=k2;clear k2;(refine eff_append2 (by simp only[zK];rfl) (by rfl) rfl ?hx16 ?hz16 hap ?n16;(case hx16=>simp only[zM];try rfl);(case hz16=>simp only[zM];try rfl);try simp only[zL]);refine Ze ?_;refine Zz ?_;refine ZS ?_;refine ZN kp fun wn kp mS=> ?_;(try simp only[Array.setIfInBounds,zL]at kp);have HLY:=Hi (HFN.out _ mS kp);clear mS HFN;go_wp2_with fail;go_end0;refine⟨rfl,_,?_,HS.out.2.2.trans (LyC.pre HMP.out HLY.out.2)⟩;have:B++lisP l=B++shP n++l:=by rw[lisP,HN.out,List.append_assoc]
 rw[this];exact HLY.out.1
structure LyS (w0:World) (p p1 b:Nat) (v:Value) (B:List UInt8) (M:Obj) (w:World):Prop where
 g:LyG p b v B w
 m:Mod (fun _=>False) w0 w
 k1:w.heap[p1]? =some M
 lt:w0.heap.size≤p1∧p1<p∧b≤w.heap.size
theorem LyS.step {w0 w w':World} {p p1 b:Nat} {v v':Value} {B B':List UInt8} {M:Obj} (h:LyS w0 p p1 b v B M w) (hG:LyG p b v' B' w') (hC:LyC p v v' w w'):LyS w0 p p1 b v' B' M w':=
 ⟨hG,LyM h.m h.g hC (by have:=h.lt;omega),(hC.at h.k1 (by have:=h.lt;omega) (fun e=>by have:=(h.g.2.1.lt p1 e).1;have:=h.g.2.2;have:=h.lt;omega)).1,h.lt.1,h.lt.2.1,Nat.le_trans h.lt.2.2 hC.1.size⟩
theorem LyS.mod0 {w0 w w':World} {p p1 b:Nat} {v:Value} {B:List UInt8} {M:Obj} (h:LyS w0 p p1 b v B M w) (hm:Mod (fun _=>False) w w'):LyS w0 p p1 b v B M w':=
 ⟨h.g.mod0 hm,h.m.then0 hm,hm.at h.k1 (fun e=>e),h.lt.1,h.lt.2.1,Nat.le_trans h.lt.2.2 hm.size⟩
theorem LyS.app {w0 w:World} {p p1 b:Nat} {v:Value} {B q:List UInt8} {M:Obj} {a:Option Addr} (n c:Nat) (h:LyS w0 p p1 b v B M w) (hq:SlAt uc 1 w a q) (hn:q.length=n) (hl:B.length+q.length≤1000000) (ty:TypeId):
  ∃v' w',(∃a' m' c',v'= .slice a' m' c')∧(Builtin.append_ #[227,227] ty #[v,.slice a n c]).run Tryz.prog w= .ok v' w'∧(Builtin.append_ #[227,42] ty #[v,.slice a n c]).run Tryz.prog w= .ok v' w'∧w'.heap[p]? =some (.cells #[v] 227 (0,0))∧
   (∀w2,Mod (fun i=>i=p) w' w2→w2.heap[p]? =some (.cells #[v'] 227 (0,0))→LyS w0 p p1 b v' (B++q) M w2∧LyC p v v' w w2):=by
 subst hn;obtain⟨v',w',h1,h2,h3,h4,_,h5⟩:=ly_app (c:=c) h.g hq hl h.lt.2.2 ty;exact⟨v',w',h1,h2,h3,h4,fun w2 m2 k2=>⟨h.step (h5 w2 m2 k2).1 (h5 w2 m2 k2).2,(h5 w2 m2 k2).2⟩⟩
theorem bytes_at {w:World} {g o:Nat} {C:Array Value} {U:TypeId} {fr:Nat×Nat} {l:List UInt8} (hk:w.heap[g]? =some (.cells C U fr)) (h:C.extract o (o+l.length)=(l.map bc).toArray):SlAt uc 1 w (some ⟨g,o,none⟩) l:=by
 refine .inr ⟨g,o,C,U,fr,rfl,hk,fun i x hx=> ?_⟩;obtain⟨hi,hxe⟩:=List.getElem?_eq_some_iff.1 hx;have h1:(C.extract o (o+l.length))[i]? =some (bc x):=by rw[h];simp[hx]
 have h2:C[o+i]? =some (bc x):=by
  rw[Array.getElem?_extract]at h1;split at h1
  ·exact h1
  ·cases h1
 obtain⟨h3,h4⟩:=Array.getElem?_eq_some_iff.1 h2;refine⟨?_,by omega⟩;rw[Nat.mul_one];apply Array.ext
 ·simp[uc];omega
 ·intro j hj1 hj2;have:j=0:=by simp[uc]at hj2;exact hj2
  subst this;simp[uc,h4,bc]
theorem key_bytes {w:World} {g o:Nat} {C:Array Value} {U:TypeId} {fr:Nat×Nat} {k:Key} (hk:w.heap[g]? =some (.cells C U fr)) (h:C.extract o (o+32)=kc k):SlAt uc 1 w (some ⟨g,o,none⟩) k.l:=bytes_at hk (by rw[k.h];exact h)
theorem skey (p o:Nat) (w:World):(Instr.sliceAt 110 (.pointer (some ⟨p,o,none⟩)) none none none).run Tryz.prog w= .ok (.slice (some ⟨p,o,none⟩) 32 32) w:=by kernel_rfl
theorem shash (p o:Nat) (w:World):(Instr.sliceAt 47 (.pointer (some ⟨p,o,none⟩)) none none none).run Tryz.prog w= .ok (.slice (some ⟨p,o,none⟩) 32 32) w:=by kernel_rfl
theorem bL1 (x:UInt8) (w:World):(Instr.buildSlice 227 1 #[(0,u8v x)]).run Tryz.prog w= .ok (.slice (some ⟨w.heap.size,0,none⟩) 1 1) (w.alloc (.cells #[u8v x] 5)):=by kernel_rfl
theorem bL3 (x y z:UInt8) (w:World):(Instr.buildSlice 227 3 #[(0,u8v x),(1,u8v y),(2,u8v z)]).run Tryz.prog w= .ok (.slice (some ⟨w.heap.size,0,none⟩) 3 3) (w.alloc (.cells #[u8v x,u8v y,u8v z] 5)):=by kernel_rfl
theorem alLay (w:World):(Instr.alloc 227 true (.tuple #[])).run Tryz.prog w= .ok (.pointer (some ⟨w.heap.size,0,none⟩)) (w.alloc (.cells #[.slice none 0 0] 227)):=by kernel_rfl
theorem clipLay_c (v2:Value) (w:World) (n:Nat) {a:Option Addr} {c:Nat} (h:∀w2,(Instr.sliceAt 227 (.slice a n c) none (some (.int .i64 (n:Int))) (some (.int .i64 (n:Int)))).run Tryz.prog w2= .ok v2 w2):
  Calls Tryz.prog 106 #[.slice a n c] w fun e w'=>e= .returned v2∧w'=w:=by
 go_enter Tryz.func106,Tryz.ntmps106;go_wp2_with fail;go_ret;exact⟨rfl,rfl⟩
theorem clip_newL {l:List UInt8} {b:Nat} {v:Value} {w:World} (h:SlOwn uc 1 5 w b v l):∃a c,v= .slice a l.length c∧(∀w2,(Instr.sliceAt 227 (.slice a l.length c) none (some (.int .i64 (l.length:Int))) (some (.int .i64 (l.length:Int)))).run Tryz.prog w2= .ok (.slice a l.length l.length) w2)∧NewS uc 1 5 b w (.slice a l.length l.length) l:=by
 obtain⟨a,c,e,h1,h2,h3,h4⟩:=clip_own layT h;obtain⟨a',c',v2,e',h1',h2'⟩:=h.clip layT;have hv:v2= .slice a l.length l.length:=by
  have e1:=h1 w;rw[h1' w]at e1;injection e1 with e1 _
 subst hv;subst e;exact⟨a,c,rfl,h1,h2'⟩
theorem fm_snoc {α:Type} {f:α→List UInt8} {l:List α} {i:Nat} {x:α} (h:l[i]? =some x):(l.take (i+1)).flatMap f=(l.take i).flatMap f++f x:=by
 rw[List.take_add_one,h];simp
theorem fm_le {α:Type} (f:α→List UInt8) (l:List α) (i:Nat):((l.take i).flatMap f).length≤(l.flatMap f).length:=by
 conv=>rhs;rw[←List.take_append_drop i l,List.flatMap_append,List.length_append]
 omega
theorem shP_le (n:Nat):(shP n).length≤3:=by
 unfold shP;split
 ·simp
 ·split<;>simp
end
section
attribute [local go_sem↓] wlMsg ldMsg stMsg wlIn ldIn stIn wlLo ldLo stLo
attribute [local go_sem] mgx_size mgx_ext mgx_one mgx_one0 mg0 mg1 mg2 mg3 mg4 mg37 mg38 mg37' mg38' mgx_hs mg0' mg4'
attribute [local go_sem] mg1B' mg2B' mg3B' inr1B inr1B' inr2B inr2B' inr0B inr0B' inrB_size inrB_all inrB_one zIn_size lor32 lor33 lor32' lor33' lor_sz lor_al0 zLoM_size
theorem lis_le (l:List UInt8) (h:l.length≤65535):(lisP l).length≤65538:=by
 have:=shP_le l.length;rw[lisP,List.length_append];omega
theorem three_at {w:World} {p:Nat} {x y z:UInt8} {U:TypeId} {fr:Nat×Nat} (h:w.heap[p]? =some (.cells #[u8v x,u8v y,u8v z] U fr)):SlAt uc 1 w (some ⟨p,0,none⟩) [x,y,z]:=bytes_at h rfl
theorem mput_c (x:RdR) (w:World) (hR:MsgRd w x) (hB:MsB (msgP x)) (hv:x.v0=true∨(x.lks.l.length=0∧x.h0.toNat<128)) (ht:(putM (msgP x)).length≤200000):
  Calls Tryz.prog 57 #[.agg (msr x)] w fun e w'=>∃a,e= .returned (.tuple #[.slice a (putM (msgP x)).length (putM (msgP x)).length,.int .i64 0])∧NewS uc 1 5 w.heap.size w' (.slice a (putM (msgP x)).length (putM (msgP x)).length) (putM (msgP x))∧Mod (fun _=>False) w w':=by
 have HX:=Hi hR;have HMY:=Hi (fun w1 (hm:Mod (fun _=>False) w w1)=>may_c x w1 (hR.mod0 hm) hB hv);have hB1:=hB.1;have hB2:=hB.2.1.1;have hB3:=hB.2.2.1;have HBI:Hid (∀y∈x.ins.l,y.a.l.length≤65535∧y.d.l.length≤65535):=Hi (fun y hy=>hB.2.1.2 (inP y) (List.mem_map_of_mem hy));have HBL:Hid (∀y∈x.lks.l,y.w.l.length≤65535∧y.r.l.length≤65535):=Hi (fun y hy=>hB.2.2.2 (loP y) (List.mem_map_of_mem hy));simp only[msgP,List.length_map]at hB1 hB2 hB3;have hms:msr x=mgx x.v0 x.h0 x.h1 x.h2 x.ks.a x.ks.l.length x.ks.c x.rc x.ins.a x.ins.l.length x.ins.c x.lks.a x.lks.l.length x.lks.c:=rfl;rw[hms]at HMY⊢;have hput:putM (msgP x)=(if x.v0 then [128]else [])++(x.h0::x.h1::x.h2::(shP x.ks.l.length++(x.ks.l.flatMap (·.l)++(x.rc.l++(shP x.ins.l.length++(x.ins.l.flatMap (fun y=>putI (inP y))++(if x.v0 then shP x.lks.l.length++x.lks.l.flatMap (fun y=>putLk (loP y))else []))))))):=by
  unfold putM;simp only[msgP,List.length_map,List.flatMap_map];rfl
 obtain⟨n1,hn1⟩:∃n,x.ks.l.length=n:=⟨_,rfl⟩;obtain⟨n2,hn2⟩:∃n,x.ins.l.length=n:=⟨_,rfl⟩;obtain⟨n3,hn3⟩:∃n,x.lks.l.length=n:=⟨_,rfl⟩;obtain⟨v0,hv0⟩:∃v,x.v0=v:=⟨_,rfl⟩;rw[hn1,hn2,hn3,hv0]at HMY⊢;rw[hn1,hn2,hn3,hv0]at hput;rw[hn1]at hB1;rw[hn2]at hB2;rw[hn3]at hB3;have HPUT:=Hi hput;have HLEN:Hid ((x.ks.l.flatMap (·.l)).length≤200000∧(x.ins.l.flatMap (fun y=>putI (inP y))).length≤200000∧(v0=true→(x.lks.l.flatMap (fun y=>putLk (loP y))).length≤200000)):=Hi (by
  rw[hput]at ht;simp only[List.length_append,List.length_cons]at ht;refine⟨by omega,by omega,fun h=> ?_⟩;rw[h]at ht;simp only[if_true,List.length_append]at ht;omega)
 obtain⟨PM,hPM⟩:∃PM,putM (msgP x)=PM:=⟨_,rfl⟩;rw[hPM]at HPUT⊢;have HN:=Hi (Ai hn1 (Ai hn2 hn3));clear hR hB hv hn1 hn2 hn3 hv0 hput ht hPM hms;go_enter Tryz.func57,Tryz.ntmps57;go_upto_region 0 with fail;refine ZP0 [3,0,0] ?_;refine Zb fun p1 hp1=> ?_
 iterate 2 refine Zv ?_
 refine TD.nil (fun w1 hr=> ?_);obtain⟨gp1,kp1⟩:=hr.b p1;have HM1:=Hi hr.mod;have HG1:=Hi gp1;clear hr;go_upto_region 1 with fail;have Lkp1:=Ls kp1;refine ZR0 (fun _ _ v=>v= .bool true) [1,2,0] ?_;refine Zd ?_;(refine Zc ?_ (s:=by intro wq hSq;exact(HMY.out wq (HM1.out.then0 hSq)).mono (fun e w' h=>⟨_,h.1,rfl,h.2⟩));rintro _ hC;subst hC;try simp only[zL]);refine Zv ?_;refine TD.nil (fun w2 hr=> ?_);replace kp1:=hr.q kp1;have HM2:=Hi (HM1.out.then0 hr.mod);clear hr;go_upto_region 3 with fail;have Lkp1:=Ls kp1;refine ZP0 [3] ?_;refine Za alLay fun p4 hp4=> ?_;refine TD.nil (fun w3 hr=> ?_);replace kp1:=hr.q kp1;obtain⟨gp4,kp4⟩:=hr.b p4;have HS:Hid (LyS w p4 p1 (p4+1) (.slice none 0 0) [] (.cells (mgx v0 x.h0 x.h1 x.h2 x.ks.a n1 x.ks.c x.rc x.ins.a n2 x.ins.c x.lks.a n3 x.lks.c) 51 (0,0)) w3):=Hi ⟨⟨kp4,SlOwn.nil _ _,by omega⟩,HM2.out.then0 hr.mod,kp1,HG1.out,by omega,by have:=Ls kp4;omega⟩;clear hr kp1 kp4 gp4;have hb128:∀w,(Instr.buildSlice 227 1 #[(0,.int .u8 128)]).run Tryz.prog w= .ok (.slice (some ⟨w.heap.size,0,none⟩) 1 1) (w.alloc (.cells #[u8v 128] 5)):=fun w=>by kernel_rfl
 have hbh:=bL3 x.h0 x.h1 x.h2;cases v0 with
 |true=>
  have kp1:=HS.out.k1;go_upto_region 4 with fail;have Lkp1:=Ls kp1;refine ZP0 [0,1] ?_;refine Zv ?_;refine Zd ?_;refine TD.nil (fun w4 hr=> ?_);replace kp1:=hr.q kp1;have HS:=Hi (HS.out.mod0 hr.mod);clear hr kp1;have kp4:=HS.out.g.1;have kp1:=HS.out.k1;go_upto_region 5 with fail;have Lkp1:=Ls kp1;have Lkp4:=Ls kp4;refine ZP0 [1,3,5,6] ?_;refine Zd ?_;refine Zy hb128 fun p17 hp17=> ?_;refine Zi fun wp hr=> ?_;replace kp1:=hr.q kp1;replace kp4:=hr.q kp4;obtain⟨gp17,kp17⟩:=hr.b p17;have HMP:=Hi hr.mod;obtain⟨v2,wx,⟨a2,q2,c2,rfl⟩,hap1,hap,k2,hfin⟩:=LyS.app 1 1 (HS.out.mod0 hr.mod) (SlAt.one kp17 (128:UInt8) rfl rfl) rfl (by simp) 227;have HFN:=Hi hfin;clear hr hfin kp4 kp1;have kp4:=k2;clear k2;refine ZA hap1 ?_;refine Zz ?_;refine ZS ?_;refine ZN kp4 fun wn kp4 mS=> ?_;(try simp only[Array.setIfInBounds,zL]at kp4);have HLY:=Hi (HFN.out _ mS kp4);have HS:=Hi HLY.out.1;clear mS HFN kp4 hap1 hap;obtain⟨wy,rfl⟩:∃wy:World,wy=wn:=⟨_,rfl⟩;have kp4:=HS.out.g.1;have kp1:=HS.out.k1;go_upto_region 6 with fail;have Lkp1:=Ls kp1;have Lkp4:=Ls kp4;refine ZP0 [1,0,0,1,0,0,1,0,0,1,3,5,6] ?_
  iterate 10 first|refine Zd ?_|refine Zv ?_
  refine Zy hbh fun p29 hp29=> ?_;refine Zi fun wp hr=> ?_;replace kp1:=hr.q kp1;replace kp4:=hr.q kp4;obtain⟨gp29,kp29⟩:=hr.b p29;have HMP:=Hi hr.mod;obtain⟨v2,wx,⟨a2,q2,c2,rfl⟩,hap1,hap,k2,hfin⟩:=LyS.app 3 3 (HS.out.mod0 hr.mod) (three_at kp29) rfl (by simp) 227;have HFN:=Hi hfin;clear hr hfin kp4 kp1;have kp4:=k2;clear k2;refine ZA hap1 ?_;refine Zz ?_;refine ZS ?_;refine ZN kp4 fun wn kp4 mS=> ?_;(try simp only[Array.setIfInBounds,zL]at kp4);have HLY:=Hi (HFN.out _ mS kp4);have HS:=Hi HLY.out.1;clear mS HFN kp4 hap1 hap;obtain⟨wy,rfl⟩:∃wy:World,wy=wn:=⟨_,rfl⟩;have kp4:=HS.out.g.1;have kp1:=HS.out.k1;go_upto_region 7 with fail;go_wp2_with fail;go_at_call 104;refine(many_c n1 (by omega) _ HS.out.g (by simp) HS.out.lt.2.2).mono ?_;rintro e wm ⟨rfl,v3,hG3,hC3⟩;have HS:=Hi (HS.out.step hG3 hC3);clear hG3 hC3 kp4 kp1;obtain⟨P1,hP1⟩:∃P,P=([]++[128]++[x.h0,x.h1,x.h2])++shP n1:=⟨_,rfl⟩;rw[←hP1]at HS;have HP1:Hid (P1.length≤30):=Hi (by rw[hP1];have:=shP_le n1;simp;omega);have HE1:=Hi hP1;clear hP1;have kp1:=HS.out.k1;go_upto_region 8 with fail;have Lkp1:=Ls kp1;refine ZP0 [0,1,0,0] ?_
  iterate 4 first|refine Zv ?_|refine Zd ?_
  refine TD.nil (fun w8 hr=> ?_);replace kp1:=hr.q kp1;have HS:=Hi (HS.out.mod0 hr.mod);clear hr kp1;go_wp2_with fail;go_loopw [38] (fun s38 ws=>∃(i:Nat) (v:Value),i≤n1∧s38= .int .i64 (i:Int)∧Hid (LyS w p4 p1 (p4+1) v (P1++(x.ks.l.take i).flatMap (·.l)) (.cells (mgx true x.h0 x.h1 x.h2 x.ks.a n1 x.ks.c x.rc x.ins.a n2 x.ins.c x.lks.a n3 x.lks.c) 51 (0,0)) ws)) (fun s38 _=>n1-(intOf s38).toNat)
  case atStart=>exact⟨0,_,Nat.zero_le _,rfl,by simpa using HS⟩
  case round=>
   obtain⟨i,v,hi,rfl,HS⟩:=hrel;by_cases hlt:i<n1
   ·have hd:=Dt hlt;obtain⟨y,hy⟩:∃y,x.ks.l[i]? =some y:=⟨_,List.getElem?_eq_getElem (by have:=HN.out;omega)⟩;obtain⟨g,o,C,U,fr,hga,kg,he,hle⟩:=(HX.out.1.1.mod0 HS.out.m).block hy;have HY:=Hi hy;have kp1:=HS.out.k1;clear hy;go_upto_region 10 with fail;have Lkp1:=Ls kp1;have Lkg:=Ls kg;refine ZP0 [0,1,3,4] ?_;refine Zv ?_;refine Zd ?_;refine Za alKey fun p6 hp6=> ?_;refine Zt ?_;refine TD.nil (fun w9 hr=> ?_);replace kp1:=hr.q kp1;replace kg:=hr.q kg;obtain⟨gp6,kp6⟩:=hr.b p6;have HS:=Hi (HS.out.mod0 hr.mod);clear hr he hle kg hga kp1;have hsk:=skey p6 0;have kp4:=HS.out.g.1;have kp1:=HS.out.k1;go_upto_region 11 with fail;have Lkp4:=Ls kp4;have Lkp6:=Ls kp6;refine ZP [1,0,5,6] ?_;refine Zd ?_;refine Zx hsk ?_;refine Zi fun wp hr=> ?_;replace kp4:=hr.q kp4;replace kp6:=hr.q kp6;have HMP:=Hi hr.mod;obtain⟨v2,wx,⟨a2,q2,c2,rfl⟩,hap1,hap,k2,hfin⟩:=LyS.app 32 32 (HS.out.mod0 hr.mod) (key_bytes kp6 (kc_ext y)) y.h (by have:=fm_le (fun k:Key=>k.l) x.ks.l i;have:=HLEN.out.1;have:=HP1.out;have:=y.h;simp only[List.length_append];omega) 227;have HFN:=Hi hfin;clear hr hfin kp4 kp1;have kp4:=k2;clear k2;(refine eff_append2 (by simp only[zK];rfl) (by rfl) rfl ?hx40 ?hz40 hap ?n40;(case hx40=>simp only[zM];try rfl);(case hz40=>simp only[zM];try rfl);try simp only[zL]);refine Zz ?_;refine ZS ?_;refine ZN kp4 fun wn kp4 mS=> ?_;(try simp only[Array.setIfInBounds,zL]at kp4);have HLY:=Hi (HFN.out _ mS kp4);have HS:=Hi HLY.out.1;clear mS HFN kp4 hap1 hap;obtain⟨wy,rfl⟩:∃wy:World,wy=wn:=⟨_,rfl⟩;have HS:=Hi (show LyS w p4 p1 (p4+1) (.slice a2 q2 c2) (P1++(x.ks.l.take (i+1)).flatMap (·.l)) _ wy by rw[fm_snoc HY.out,←List.append_assoc];exact HS.out);go_wp2_with fail;go_roundw
    case rel=>exact⟨i+1,_,by omega,by go_num,HS⟩
    case measure=>simp[intOf];omega
   ·have hd:=Df hlt;obtain rfl:n1=i:=by omega
    rw[show x.ks.l.take n1=x.ks.l from List.take_of_length_le (by have:=HN.out;omega)]at HS;clear hi hlt;have hsh:=shash p1 5;have kp4:=HS.out.g.1;have kp1:=HS.out.k1;go_upto_region 13 with fail;have Lkp4:=Ls kp4;have Lkp1:=Ls kp1;refine ZP [1,0,0,5,6] ?_;refine Zd ?_;refine Zv ?_;refine Zx hsh ?_;refine Zi fun wp hr=> ?_;replace kp4:=hr.q kp4;replace kp1:=hr.q kp1;have HMP:=Hi hr.mod;obtain⟨v2,wx,⟨a2,q2,c2,rfl⟩,hap1,hap,k2,hfin⟩:=LyS.app 32 32 (HS.out.mod0 hr.mod) (key_bytes kp1 (mgx_hs ..)) x.rc.h (by have:=HLEN.out.1;have:=HP1.out;have:=x.rc.h;simp only[List.length_append];omega) 227;have HFN:=Hi hfin;clear hr hfin kp4 kp1;have kp4:=k2;clear k2;(refine eff_append2 (by simp only[zK];rfl) (by rfl) rfl ?hx46 ?hz46 hap ?n46;(case hx46=>simp only[zM];try rfl);(case hz46=>simp only[zM];try rfl);try simp only[zL]);refine Zz ?_;refine ZS ?_;refine ZN kp4 fun wn kp4 mS=> ?_;(try simp only[Array.setIfInBounds,zL]at kp4);have HLY:=Hi (HFN.out _ mS kp4);have HS:=Hi HLY.out.1;clear mS HFN kp4 hap1 hap;obtain⟨wy,rfl⟩:∃wy:World,wy=wn:=⟨_,rfl⟩;have kp4:=HS.out.g.1;have kp1:=HS.out.k1;go_upto_region 14 with fail;go_wp2_with fail;go_at_call 104;refine(many_c n2 (by omega) _ HS.out.g (by have:=HLEN.out.1;have:=HP1.out;have:=x.rc.h;simp only[List.length_append];omega) HS.out.lt.2.2).mono ?_;rintro e wm ⟨rfl,v3,hG3,hC3⟩;have HS:=Hi (HS.out.step hG3 hC3);clear hG3 hC3 kp4 kp1;obtain⟨P2,hP2⟩:∃P,P=((P1++x.ks.l.flatMap (·.l))++x.rc.l)++shP n2:=⟨_,rfl⟩;rw[←hP2]at HS;have HP2:Hid (P2.length≤200100):=Hi (by rw[hP2];have:=shP_le n2;have:=HLEN.out.1;have:=HP1.out;have:=x.rc.h;simp only[List.length_append];omega);have HE2:=Hi hP2;clear hP2 hsh;have kp1:=HS.out.k1;go_upto_region 15 with fail;have Lkp1:=Ls kp1;refine ZP0 [0,1,0,0] ?_
    iterate 4 first|refine Zv ?_|refine Zd ?_
    refine TD.nil (fun w10 hr=> ?_);replace kp1:=hr.q kp1;have HS:=Hi (HS.out.mod0 hr.mod);clear hr kp1;go_wp2_with fail;go_loopw [57] (fun s57 ws=>∃(i:Nat) (v:Value),i≤n2∧s57= .int .i64 (i:Int)∧Hid (LyS w p4 p1 (p4+1) v (P2++(x.ins.l.take i).flatMap (fun y=>putI (inP y))) (.cells (mgx true x.h0 x.h1 x.h2 x.ks.a n1 x.ks.c x.rc x.ins.a n2 x.ins.c x.lks.a n3 x.lks.c) 51 (0,0)) ws)) (fun s57 _=>n2-(intOf s57).toNat)
    case atStart=>exact⟨0,_,Nat.zero_le _,rfl,by simpa using HS⟩
    case round=>
     clear HS;obtain⟨i,v,hi,rfl,HS⟩:=hrel;by_cases hlt:i<n2
     ·have hd:=Dt hlt;obtain⟨y,hy⟩:∃y,x.ins.l[i]? =some y:=⟨_,List.getElem?_eq_getElem (by have:=HN.out;omega)⟩;obtain⟨g,o,C,U,fr,hga,kg,he,hle⟩:=(HX.out.2.1.1.mod0 HS.out.m).block hy;have HY:=Hi (Ai hy (Ai (HX.out.2.1.2.2 y (List.mem_of_getElem? hy)) (HBI.out y (List.mem_of_getElem? hy))));have kp1:=HS.out.k1;clear hy;go_upto_region 17 with fail;have Lkp1:=Ls kp1;have Lkg:=Ls kg;refine ZP0 [0,1,3,4] ?_;refine Zv ?_;refine Zd ?_;refine Za alIn fun p8 hp8=> ?_;refine Zt ?_;refine TD.nil (fun w9 hr=> ?_);replace kp1:=hr.q kp1;replace kg:=hr.q kg;obtain⟨gp8,kp8⟩:=hr.b p8;have HNE:Hid (p8≠p4∧v.ownBlock≠some p8):=Hi ⟨fun e=>by have:=Ls HS.out.g.1;omega,fun e=>by have:=(HS.out.g.2.1.lt p8 e).2;omega⟩;have HS:=Hi (HS.out.mod0 hr.mod);clear hr he hle kg hga kp1;have hbp:=bL1 y.p;have kp4:=HS.out.g.1;have kp1:=HS.out.k1;go_upto_region 18 with fail;have Lkp4:=Ls kp4;have Lkp8:=Ls kp8;refine ZP0 [1,0,1,3,5,6] ?_
      iterate 3 first|refine Zd ?_|refine Zv ?_
      refine Zy hbp fun p64 hp64=> ?_;refine Zi fun wp hr=> ?_;replace kp4:=hr.q kp4;replace kp8:=hr.q kp8;obtain⟨gp64,kp64⟩:=hr.b p64;have HMP:=Hi hr.mod;obtain⟨v2,wx,⟨a2,q2,c2,rfl⟩,hap1,hap,k2,hfin⟩:=LyS.app 1 1 (HS.out.mod0 hr.mod) (SlAt.one kp64 y.p rfl rfl) rfl (by have:=fm_le (fun y=>putI (inP y)) x.ins.l i;have:=HLEN.out.2.1;have:=HP2.out;simp only[List.length_append,List.length_cons,List.length_nil];omega) 227;have HFN:=Hi hfin;clear hr hfin kp4 kp1;have kp4:=k2;clear k2;refine ZA hap1 ?_;refine Zz ?_;refine ZS ?_;refine ZN kp4 fun wn kp4 mS=> ?_;(try simp only[Array.setIfInBounds,zL]at kp4);have HLY:=Hi (HFN.out _ mS kp4);have HS:=Hi HLY.out.1;clear mS HFN kp4 hap1 hap;obtain⟨wy,rfl⟩:∃wy:World,wy=wn:=⟨_,rfl⟩;have hx:=HLY.out.2.at kp8 HNE.out.1 HNE.out.2;clear kp8;have kp8:=hx.1;have HNE:=Hi (Ai HNE.out.1 hx.2);clear hx;have kp4:=HS.out.g.1;have kp1:=HS.out.k1;go_upto_region 19 with fail;go_wp2_with fail;go_at_call 105;refine(list_c (c:=y.a.c) _ HS.out.g HY.out.2.1.1.1 HS.out.m (by have:=HS.out.lt;omega) HY.out.2.2.1 (by have:=fm_le (fun y=>putI (inP y)) x.ins.l i;have:=HLEN.out.2.1;have:=HP2.out;simp only[List.length_append,List.length_cons,List.length_nil];omega) HS.out.lt.2.2).mono ?_;rintro e wl ⟨rfl,v4,hG4,hC4⟩;have HS:=Hi (HS.out.step hG4 hC4);have hx:=hC4.at kp8 HNE.out.1 HNE.out.2;clear kp8 hC4 hG4 kp4 kp1;have kp8:=hx.1;have HNE:=Hi (Ai HNE.out.1 hx.2);clear hx;have kp4:=HS.out.g.1;have kp1:=HS.out.k1;go_upto_region 20 with fail;go_wp2_with fail;go_at_call 105;refine(list_c (c:=y.d.c) _ HS.out.g HY.out.2.1.2.1 HS.out.m (by have:=HS.out.lt;omega) HY.out.2.2.2 (by have:=fm_le (fun y=>putI (inP y)) x.ins.l i;have:=HLEN.out.2.1;have:=HP2.out;have:=lis_le y.a.l HY.out.2.2.1;simp only[List.length_append,List.length_cons,List.length_nil];omega) HS.out.lt.2.2).mono ?_;rintro e wl ⟨rfl,v4,hG4,hC4⟩;have HS:=Hi (HS.out.step hG4 hC4);have hx:=hC4.at kp8 HNE.out.1 HNE.out.2;clear kp8 hC4 hG4 kp4 kp1;have kp8:=hx.1;have HNE:=Hi (Ai HNE.out.1 hx.2);clear hx;have HS:=Hi (show LyS w p4 p1 (p4+1) v4 (P2++(x.ins.l.take (i+1)).flatMap (fun y=>putI (inP y))) _ wl by
       have e:P2++(x.ins.l.take (i+1)).flatMap (fun y=>putI (inP y))=P2++(x.ins.l.take i).flatMap (fun y=>putI (inP y))++[y.p]++lisP y.a.l++lisP y.d.l:=by
        rw[fm_snoc HY.out.1];simp only[putI,inP,List.append_assoc,List.cons_append,List.nil_append]
       rw[e];exact HS.out)
      clear kp8;go_wp2_with fail;go_roundw
      case rel=>exact⟨i+1,_,by omega,by go_num,HS⟩
      case measure=>simp[intOf];omega
     ·have hd:=Df hlt;obtain rfl:n2=i:=by omega
      rw[show x.ins.l.take n2=x.ins.l from List.take_of_length_le (by have:=HN.out;omega)]at HS;clear hi hlt;have kp1:=HS.out.k1;go_upto_region 22 with fail;have Lkp1:=Ls kp1;refine ZP0 [0,1] ?_;refine Zv ?_;refine Zd ?_;refine TD.nil (fun w11 hr=> ?_);replace kp1:=hr.q kp1;have HS:=Hi (HS.out.mod0 hr.mod);clear hr kp1;have kp4:=HS.out.g.1;have kp1:=HS.out.k1;go_upto_region 23 with fail;go_wp2_with fail;go_at_call 104;refine(many_c n3 (by omega) _ HS.out.g (by have:=HLEN.out.2.1;have:=HP2.out;simp only[List.length_append];omega) HS.out.lt.2.2).mono ?_;rintro e wm ⟨rfl,v3,hG3,hC3⟩;have HS:=Hi (HS.out.step hG3 hC3);clear hG3 hC3 kp4 kp1;obtain⟨P3,hP3⟩:∃P,P=(P2++x.ins.l.flatMap (fun y=>putI (inP y)))++shP n3:=⟨_,rfl⟩;rw[←hP3]at HS;have HP3:Hid (P3.length≤400200):=Hi (by rw[hP3];have:=shP_le n3;have:=HLEN.out.2.1;have:=HP2.out;simp only[List.length_append];omega);have HE3:=Hi hP3;clear hP3;have kp1:=HS.out.k1;go_upto_region 24 with fail;have Lkp1:=Ls kp1;refine ZP0 [0,1,0,0] ?_
      iterate 4 first|refine Zv ?_|refine Zd ?_
      refine TD.nil (fun w12 hr=> ?_);replace kp1:=hr.q kp1;have HS:=Hi (HS.out.mod0 hr.mod);clear hr kp1;go_wp2_with fail;go_loopw [82] (fun s82 ws=>∃(i:Nat) (v:Value),i≤n3∧s82= .int .i64 (i:Int)∧Hid (LyS w p4 p1 (p4+1) v (P3++(x.lks.l.take i).flatMap (fun y=>putLk (loP y))) (.cells (mgx true x.h0 x.h1 x.h2 x.ks.a n1 x.ks.c x.rc x.ins.a n2 x.ins.c x.lks.a n3 x.lks.c) 51 (0,0)) ws)) (fun s82 _=>n3-(intOf s82).toNat)
      case atStart=>exact⟨0,_,Nat.zero_le _,rfl,by simpa using HS⟩
      case round=>
       clear HS;obtain⟨i,v,hi,rfl,HS⟩:=hrel;by_cases hlt:i<n3
       ·have hd:=Dt hlt;obtain⟨y,hy⟩:∃y,x.lks.l[i]? =some y:=⟨_,List.getElem?_eq_getElem (by have:=HN.out;omega)⟩;obtain⟨g,o,C,U,fr,hga,kg,he,hle⟩:=(HX.out.2.2.1.mod0 HS.out.m).block hy;have HY:=Hi (Ai hy (Ai (HX.out.2.2.2.2 y (List.mem_of_getElem? hy)) (HBL.out y (List.mem_of_getElem? hy))));have kp1:=HS.out.k1;clear hy;go_upto_region 26 with fail;have Lkp1:=Ls kp1;have Lkg:=Ls kg;refine ZP0 [0,1,3,4] ?_;refine Zv ?_;refine Zd ?_;refine Za alLo fun p10 hp10=> ?_;refine Zt ?_;refine TD.nil (fun w9 hr=> ?_);replace kp1:=hr.q kp1;replace kg:=hr.q kg;obtain⟨gp10,kp10⟩:=hr.b p10;have HNE:Hid (p10≠p4∧v.ownBlock≠some p10):=Hi ⟨fun e=>by have:=Ls HS.out.g.1;omega,fun e=>by have:=(HS.out.g.2.1.lt p10 e).2;omega⟩;have HS:=Hi (HS.out.mod0 hr.mod);clear hr he hle kg hga kp1;have hsk:=skey p10 0;have kp4:=HS.out.g.1;have kp1:=HS.out.k1;go_upto_region 27 with fail;have Lkp4:=Ls kp4;have Lkp10:=Ls kp10;refine ZP [1,0,0,5,6] ?_;refine Zd ?_;refine Zv ?_;refine Zx hsk ?_;refine Zi fun wp hr=> ?_;replace kp4:=hr.q kp4;replace kp10:=hr.q kp10;have HMP:=Hi hr.mod;obtain⟨v2,wx,⟨a2,q2,c2,rfl⟩,hap1,hap,k2,hfin⟩:=LyS.app 32 32 (HS.out.mod0 hr.mod) (key_bytes kp10 (lor_key y)) y.t.h (by have:=fm_le (fun y=>putLk (loP y)) x.lks.l i;have:=HLEN.out.2.2 (by first|rfl|trivial);have:=HP3.out;have:=y.t.h;simp only[List.length_append];omega) 227;have HFN:=Hi hfin;clear hr hfin kp4 kp1;have kp4:=k2;clear k2;(refine eff_append2 (by simp only[zK];rfl) (by rfl) rfl ?hx77 ?hz77 hap ?n77;(case hx77=>simp only[zM];try rfl);(case hz77=>simp only[zM];try rfl);try simp only[zL]);refine Zz ?_;refine ZS ?_;refine ZN kp4 fun wn kp4 mS=> ?_;(try simp only[Array.setIfInBounds,zL]at kp4);have HLY:=Hi (HFN.out _ mS kp4);have HS:=Hi HLY.out.1;clear mS HFN kp4 hap1 hap;obtain⟨wy,rfl⟩:∃wy:World,wy=wn:=⟨_,rfl⟩;have hx:=HLY.out.2.at kp10 HNE.out.1 HNE.out.2;clear kp10;have kp10:=hx.1;have HNE:=Hi (Ai HNE.out.1 hx.2);clear hx;have kp4:=HS.out.g.1;have kp1:=HS.out.k1;go_upto_region 28 with fail;go_wp2_with fail;go_at_call 105;refine(list_c (c:=y.w.c) _ HS.out.g HY.out.2.1.1.1 HS.out.m (by have:=HS.out.lt;omega) HY.out.2.2.1 (by have:=fm_le (fun y=>putLk (loP y)) x.lks.l i;have:=HLEN.out.2.2 (by first|rfl|trivial);have:=HP3.out;have:=y.t.h;simp only[List.length_append];omega) HS.out.lt.2.2).mono ?_;rintro e wl ⟨rfl,v4,hG4,hC4⟩;have HS:=Hi (HS.out.step hG4 hC4);have hx:=hC4.at kp10 HNE.out.1 HNE.out.2;clear kp10 hC4 hG4 kp4 kp1;have kp10:=hx.1;have HNE:=Hi (Ai HNE.out.1 hx.2);clear hx;have kp4:=HS.out.g.1;have kp1:=HS.out.k1;go_upto_region 29 with fail;go_wp2_with fail;go_at_call 105;refine(list_c (c:=y.r.c) _ HS.out.g HY.out.2.1.2.1 HS.out.m (by have:=HS.out.lt;omega) HY.out.2.2.2 (by have:=fm_le (fun y=>putLk (loP y)) x.lks.l i;have:=HLEN.out.2.2 (by first|rfl|trivial);have:=HP3.out;have:=y.t.h;have:=lis_le y.w.l HY.out.2.2.1;simp only[List.length_append];omega) HS.out.lt.2.2).mono ?_;rintro e wl ⟨rfl,v4,hG4,hC4⟩;have HS:=Hi (HS.out.step hG4 hC4);have hx:=hC4.at kp10 HNE.out.1 HNE.out.2;clear kp10 hC4 hG4 kp4 kp1;have kp10:=hx.1;have HNE:=Hi (Ai HNE.out.1 hx.2);clear hx;have HS:=Hi (show LyS w p4 p1 (p4+1) v4 (P3++(x.lks.l.take (i+1)).flatMap (fun y=>putLk (loP y))) _ wl by
         have e:P3++(x.lks.l.take (i+1)).flatMap (fun y=>putLk (loP y))=P3++(x.lks.l.take i).flatMap (fun y=>putLk (loP y))++y.t.l++lisP y.w.l++lisP y.r.l:=by
          rw[fm_snoc HY.out.1];simp only[putLk,loP,List.append_assoc]
         rw[e];exact HS.out)
        clear kp10;go_wp2_with fail;go_roundw
        case rel=>exact⟨i+1,_,by omega,by go_num,HS⟩
        case measure=>simp[intOf];omega
       ·have hd:=Df hlt;obtain rfl:n3=i:=by omega
        rw[show x.lks.l.take n3=x.lks.l from List.take_of_length_le (by have:=HN.out;omega)]at HS;clear hi hlt;have hB:(P3++x.lks.l.flatMap (fun y=>putLk (loP y)))=PM:=by
         rw[HPUT.out,HE3.out,HE2.out,HE1.out];simp
        rw[hB]at HS;obtain⟨a,c,rfl,hcl,hN⟩:=clip_newL HS.out.g.2.1;obtain⟨k,hk⟩:∃k,PM.length=k:=⟨_,rfl⟩;have kp4:=HS.out.g.1;rw[hk]at kp4 hcl;have HF:=Hi (Ai hN (Ai hk (Ai HS.out.m HS.out.lt)));clear hB hN hk;go_upto_region 31 with fail;have Lkp4:=Ls kp4;refine ZR0 (fun _ _ v=>v= .slice a k k) [1,2,0,0] ?_;refine Zd ?_;(refine Zc ?_ (s:=by intro wq hSq;exact(clipLay_c _ _ _ hcl).mono (fun e w' h=>⟨_,h.1,rfl,by rw[h.2];exact Mod.refl _ _⟩));rintro _ hC;subst hC;try simp only[zL])
        iterate 2 refine Zv ?_
        refine TD.nil (fun wz hr=> ?_);replace kp4:=hr.q kp4;have HMZ:=Hi hr.mod;clear hr hcl;go_wp2_with fail
        go_ret2
        refine⟨a,?_,(HF.out.1.base (by have:=HF.out.2.2.2;omega)).mod0 HMZ.out,HF.out.2.2.1.then0 HMZ.out⟩;rw[HF.out.2.1];rfl
 |false=>
  have kp1:=HS.out.k1;go_upto_region 4 with fail;have Lkp1:=Ls kp1;refine ZP0 [0,1] ?_;refine Zv ?_;refine Zd ?_;refine TD.nil (fun w4 hr=> ?_);replace kp1:=hr.q kp1;have HS:=Hi (HS.out.mod0 hr.mod);clear hr kp1;have kp4:=HS.out.g.1;have kp1:=HS.out.k1;go_upto_region 6 with fail;have Lkp1:=Ls kp1;have Lkp4:=Ls kp4;refine ZP0 [1,0,0,1,0,0,1,0,0,1,3,5,6] ?_
  iterate 10 first|refine Zd ?_|refine Zv ?_
  refine Zy hbh fun p29 hp29=> ?_;refine Zi fun wp hr=> ?_;replace kp1:=hr.q kp1;replace kp4:=hr.q kp4;obtain⟨gp29,kp29⟩:=hr.b p29;have HMP:=Hi hr.mod;obtain⟨v2,wx,⟨a2,q2,c2,rfl⟩,hap1,hap,k2,hfin⟩:=LyS.app 3 3 (HS.out.mod0 hr.mod) (three_at kp29) rfl (by simp) 227;have HFN:=Hi hfin;clear hr hfin kp4 kp1;have kp4:=k2;clear k2;refine ZA hap1 ?_;refine Zz ?_;refine ZS ?_;refine ZN kp4 fun wn kp4 mS=> ?_;(try simp only[Array.setIfInBounds,zL]at kp4);have HLY:=Hi (HFN.out _ mS kp4);have HS:=Hi HLY.out.1;clear mS HFN kp4 hap1 hap;obtain⟨wy,rfl⟩:∃wy:World,wy=wn:=⟨_,rfl⟩;have kp4:=HS.out.g.1;have kp1:=HS.out.k1;go_upto_region 7 with fail;go_wp2_with fail;go_at_call 104;refine(many_c n1 (by omega) _ HS.out.g (by simp) HS.out.lt.2.2).mono ?_;rintro e wm ⟨rfl,v3,hG3,hC3⟩;have HS:=Hi (HS.out.step hG3 hC3);clear hG3 hC3 kp4 kp1;obtain⟨P1,hP1⟩:∃P,P=([]++[x.h0,x.h1,x.h2])++shP n1:=⟨_,rfl⟩;rw[←hP1]at HS;have HP1:Hid (P1.length≤30):=Hi (by rw[hP1];have:=shP_le n1;simp;omega);have HE1:=Hi hP1;clear hP1;have kp1:=HS.out.k1;go_upto_region 8 with fail;have Lkp1:=Ls kp1;refine ZP0 [0,1,0,0] ?_
  iterate 4 first|refine Zv ?_|refine Zd ?_
  refine TD.nil (fun w8 hr=> ?_);replace kp1:=hr.q kp1;have HS:=Hi (HS.out.mod0 hr.mod);clear hr kp1;go_wp2_with fail;go_loopw [38] (fun s38 ws=>∃(i:Nat) (v:Value),i≤n1∧s38= .int .i64 (i:Int)∧Hid (LyS w p4 p1 (p4+1) v (P1++(x.ks.l.take i).flatMap (·.l)) (.cells (mgx false x.h0 x.h1 x.h2 x.ks.a n1 x.ks.c x.rc x.ins.a n2 x.ins.c x.lks.a n3 x.lks.c) 51 (0,0)) ws)) (fun s38 _=>n1-(intOf s38).toNat)
  case atStart=>exact⟨0,_,Nat.zero_le _,rfl,by simpa using HS⟩
  case round=>
   obtain⟨i,v,hi,rfl,HS⟩:=hrel;by_cases hlt:i<n1
   ·have hd:=Dt hlt;obtain⟨y,hy⟩:∃y,x.ks.l[i]? =some y:=⟨_,List.getElem?_eq_getElem (by have:=HN.out;omega)⟩;obtain⟨g,o,C,U,fr,hga,kg,he,hle⟩:=(HX.out.1.1.mod0 HS.out.m).block hy;have HY:=Hi hy;have kp1:=HS.out.k1;clear hy;go_upto_region 10 with fail;have Lkp1:=Ls kp1;have Lkg:=Ls kg;refine ZP0 [0,1,3,4] ?_;refine Zv ?_;refine Zd ?_;refine Za alKey fun p6 hp6=> ?_;refine Zt ?_;refine TD.nil (fun w9 hr=> ?_);replace kp1:=hr.q kp1;replace kg:=hr.q kg;obtain⟨gp6,kp6⟩:=hr.b p6;have HS:=Hi (HS.out.mod0 hr.mod);clear hr he hle kg hga kp1;have hsk:=skey p6 0;have kp4:=HS.out.g.1;have kp1:=HS.out.k1;go_upto_region 11 with fail;have Lkp4:=Ls kp4;have Lkp6:=Ls kp6;refine ZP [1,0,5,6] ?_;refine Zd ?_;refine Zx hsk ?_;refine Zi fun wp hr=> ?_;replace kp4:=hr.q kp4;replace kp6:=hr.q kp6;have HMP:=Hi hr.mod;obtain⟨v2,wx,⟨a2,q2,c2,rfl⟩,hap1,hap,k2,hfin⟩:=LyS.app 32 32 (HS.out.mod0 hr.mod) (key_bytes kp6 (kc_ext y)) y.h (by have:=fm_le (fun k:Key=>k.l) x.ks.l i;have:=HLEN.out.1;have:=HP1.out;have:=y.h;simp only[List.length_append];omega) 227;have HFN:=Hi hfin;clear hr hfin kp4 kp1;have kp4:=k2;clear k2;(refine eff_append2 (by simp only[zK];rfl) (by rfl) rfl ?hx110 ?hz110 hap ?n110;(case hx110=>simp only[zM];try rfl);(case hz110=>simp only[zM];try rfl);try simp only[zL]);refine Zz ?_;refine ZS ?_;refine ZN kp4 fun wn kp4 mS=> ?_;(try simp only[Array.setIfInBounds,zL]at kp4);have HLY:=Hi (HFN.out _ mS kp4);have HS:=Hi HLY.out.1;clear mS HFN kp4 hap1 hap;obtain⟨wy,rfl⟩:∃wy:World,wy=wn:=⟨_,rfl⟩;have HS:=Hi (show LyS w p4 p1 (p4+1) (.slice a2 q2 c2) (P1++(x.ks.l.take (i+1)).flatMap (·.l)) _ wy by rw[fm_snoc HY.out,←List.append_assoc];exact HS.out);go_wp2_with fail;go_roundw
    case rel=>exact⟨i+1,_,by omega,by go_num,HS⟩
    case measure=>simp[intOf];omega
   ·have hd:=Df hlt;obtain rfl:n1=i:=by omega
    rw[show x.ks.l.take n1=x.ks.l from List.take_of_length_le (by have:=HN.out;omega)]at HS;clear hi hlt;have hsh:=shash p1 5;have kp4:=HS.out.g.1;have kp1:=HS.out.k1;go_upto_region 13 with fail;have Lkp4:=Ls kp4;have Lkp1:=Ls kp1;refine ZP [1,0,0,5,6] ?_;refine Zd ?_;refine Zv ?_;refine Zx hsh ?_;refine Zi fun wp hr=> ?_;replace kp4:=hr.q kp4;replace kp1:=hr.q kp1;have HMP:=Hi hr.mod;obtain⟨v2,wx,⟨a2,q2,c2,rfl⟩,hap1,hap,k2,hfin⟩:=LyS.app 32 32 (HS.out.mod0 hr.mod) (key_bytes kp1 (mgx_hs ..)) x.rc.h (by have:=HLEN.out.1;have:=HP1.out;have:=x.rc.h;simp only[List.length_append];omega) 227;have HFN:=Hi hfin;clear hr hfin kp4 kp1;have kp4:=k2;clear k2;(refine eff_append2 (by simp only[zK];rfl) (by rfl) rfl ?hx116 ?hz116 hap ?n116;(case hx116=>simp only[zM];try rfl);(case hz116=>simp only[zM];try rfl);try simp only[zL]);refine Zz ?_;refine ZS ?_;refine ZN kp4 fun wn kp4 mS=> ?_;(try simp only[Array.setIfInBounds,zL]at kp4);have HLY:=Hi (HFN.out _ mS kp4);have HS:=Hi HLY.out.1;clear mS HFN kp4 hap1 hap;obtain⟨wy,rfl⟩:∃wy:World,wy=wn:=⟨_,rfl⟩;have kp4:=HS.out.g.1;have kp1:=HS.out.k1;go_upto_region 14 with fail;go_wp2_with fail;go_at_call 104;refine(many_c n2 (by omega) _ HS.out.g (by have:=HLEN.out.1;have:=HP1.out;have:=x.rc.h;simp only[List.length_append];omega) HS.out.lt.2.2).mono ?_;rintro e wm ⟨rfl,v3,hG3,hC3⟩;have HS:=Hi (HS.out.step hG3 hC3);clear hG3 hC3 kp4 kp1;obtain⟨P2,hP2⟩:∃P,P=((P1++x.ks.l.flatMap (·.l))++x.rc.l)++shP n2:=⟨_,rfl⟩;rw[←hP2]at HS;have HP2:Hid (P2.length≤200100):=Hi (by rw[hP2];have:=shP_le n2;have:=HLEN.out.1;have:=HP1.out;have:=x.rc.h;simp only[List.length_append];omega);have HE2:=Hi hP2;clear hP2 hsh;have kp1:=HS.out.k1;go_upto_region 15 with fail;have Lkp1:=Ls kp1;refine ZP0 [0,1,0,0] ?_
    iterate 4 first|refine Zv ?_|refine Zd ?_
    refine TD.nil (fun w10 hr=> ?_);replace kp1:=hr.q kp1;have HS:=Hi (HS.out.mod0 hr.mod);clear hr kp1;go_wp2_with fail;go_loopw [57] (fun s57 ws=>∃(i:Nat) (v:Value),i≤n2∧s57= .int .i64 (i:Int)∧Hid (LyS w p4 p1 (p4+1) v (P2++(x.ins.l.take i).flatMap (fun y=>putI (inP y))) (.cells (mgx false x.h0 x.h1 x.h2 x.ks.a n1 x.ks.c x.rc x.ins.a n2 x.ins.c x.lks.a n3 x.lks.c) 51 (0,0)) ws)) (fun s57 _=>n2-(intOf s57).toNat)
    case atStart=>exact⟨0,_,Nat.zero_le _,rfl,by simpa using HS⟩
    case round=>
     clear HS;obtain⟨i,v,hi,rfl,HS⟩:=hrel;by_cases hlt:i<n2
     ·have hd:=Dt hlt;obtain⟨y,hy⟩:∃y,x.ins.l[i]? =some y:=⟨_,List.getElem?_eq_getElem (by have:=HN.out;omega)⟩;obtain⟨g,o,C,U,fr,hga,kg,he,hle⟩:=(HX.out.2.1.1.mod0 HS.out.m).block hy;have HY:=Hi (Ai hy (Ai (HX.out.2.1.2.2 y (List.mem_of_getElem? hy)) (HBI.out y (List.mem_of_getElem? hy))));have kp1:=HS.out.k1;clear hy;go_upto_region 17 with fail;have Lkp1:=Ls kp1;have Lkg:=Ls kg;refine ZP0 [0,1,3,4] ?_;refine Zv ?_;refine Zd ?_;refine Za alIn fun p8 hp8=> ?_;refine Zt ?_;refine TD.nil (fun w9 hr=> ?_);replace kp1:=hr.q kp1;replace kg:=hr.q kg;obtain⟨gp8,kp8⟩:=hr.b p8;have HNE:Hid (p8≠p4∧v.ownBlock≠some p8):=Hi ⟨fun e=>by have:=Ls HS.out.g.1;omega,fun e=>by have:=(HS.out.g.2.1.lt p8 e).2;omega⟩;have HS:=Hi (HS.out.mod0 hr.mod);clear hr he hle kg hga kp1;have hbp:=bL1 y.p;have kp4:=HS.out.g.1;have kp1:=HS.out.k1;go_upto_region 18 with fail;have Lkp4:=Ls kp4;have Lkp8:=Ls kp8;refine ZP0 [1,0,1,3,5,6] ?_
      iterate 3 first|refine Zd ?_|refine Zv ?_
      refine Zy hbp fun p64 hp64=> ?_;refine Zi fun wp hr=> ?_;replace kp4:=hr.q kp4;replace kp8:=hr.q kp8;obtain⟨gp64,kp64⟩:=hr.b p64;have HMP:=Hi hr.mod;obtain⟨v2,wx,⟨a2,q2,c2,rfl⟩,hap1,hap,k2,hfin⟩:=LyS.app 1 1 (HS.out.mod0 hr.mod) (SlAt.one kp64 y.p rfl rfl) rfl (by have:=fm_le (fun y=>putI (inP y)) x.ins.l i;have:=HLEN.out.2.1;have:=HP2.out;simp only[List.length_append,List.length_cons,List.length_nil];omega) 227;have HFN:=Hi hfin;clear hr hfin kp4 kp1;have kp4:=k2;clear k2;refine ZA hap1 ?_;refine Zz ?_;refine ZS ?_;refine ZN kp4 fun wn kp4 mS=> ?_;(try simp only[Array.setIfInBounds,zL]at kp4);have HLY:=Hi (HFN.out _ mS kp4);have HS:=Hi HLY.out.1;clear mS HFN kp4 hap1 hap;obtain⟨wy,rfl⟩:∃wy:World,wy=wn:=⟨_,rfl⟩;have hx:=HLY.out.2.at kp8 HNE.out.1 HNE.out.2;clear kp8;have kp8:=hx.1;have HNE:=Hi (Ai HNE.out.1 hx.2);clear hx;have kp4:=HS.out.g.1;have kp1:=HS.out.k1;go_upto_region 19 with fail;go_wp2_with fail;go_at_call 105;refine(list_c (c:=y.a.c) _ HS.out.g HY.out.2.1.1.1 HS.out.m (by have:=HS.out.lt;omega) HY.out.2.2.1 (by have:=fm_le (fun y=>putI (inP y)) x.ins.l i;have:=HLEN.out.2.1;have:=HP2.out;simp only[List.length_append,List.length_cons,List.length_nil];omega) HS.out.lt.2.2).mono ?_;rintro e wl ⟨rfl,v4,hG4,hC4⟩;have HS:=Hi (HS.out.step hG4 hC4);have hx:=hC4.at kp8 HNE.out.1 HNE.out.2;clear kp8 hC4 hG4 kp4 kp1;have kp8:=hx.1;have HNE:=Hi (Ai HNE.out.1 hx.2);clear hx;have kp4:=HS.out.g.1;have kp1:=HS.out.k1;go_upto_region 20 with fail;go_wp2_with fail;go_at_call 105;refine(list_c (c:=y.d.c) _ HS.out.g HY.out.2.1.2.1 HS.out.m (by have:=HS.out.lt;omega) HY.out.2.2.2 (by have:=fm_le (fun y=>putI (inP y)) x.ins.l i;have:=HLEN.out.2.1;have:=HP2.out;have:=lis_le y.a.l HY.out.2.2.1;simp only[List.length_append,List.length_cons,List.length_nil];omega) HS.out.lt.2.2).mono ?_;rintro e wl ⟨rfl,v4,hG4,hC4⟩;have HS:=Hi (HS.out.step hG4 hC4);have hx:=hC4.at kp8 HNE.out.1 HNE.out.2;clear kp8 hC4 hG4 kp4 kp1;have kp8:=hx.1;have HNE:=Hi (Ai HNE.out.1 hx.2);clear hx;have HS:=Hi (show LyS w p4 p1 (p4+1) v4 (P2++(x.ins.l.take (i+1)).flatMap (fun y=>putI (inP y))) _ wl by
       have e:P2++(x.ins.l.take (i+1)).flatMap (fun y=>putI (inP y))=P2++(x.ins.l.take i).flatMap (fun y=>putI (inP y))++[y.p]++lisP y.a.l++lisP y.d.l:=by
        rw[fm_snoc HY.out.1];simp only[putI,inP,List.append_assoc,List.cons_append,List.nil_append]
       rw[e];exact HS.out)
      clear kp8;go_wp2_with fail;go_roundw
      case rel=>exact⟨i+1,_,by omega,by go_num,HS⟩
      case measure=>simp[intOf];omega
     ·have hd:=Df hlt;obtain rfl:n2=i:=by omega
      rw[show x.ins.l.take n2=x.ins.l from List.take_of_length_le (by have:=HN.out;omega)]at HS;clear hi hlt;have kp1:=HS.out.k1;go_upto_region 22 with fail;have Lkp1:=Ls kp1;refine ZP0 [0,1] ?_;refine Zv ?_;refine Zd ?_;refine TD.nil (fun w11 hr=> ?_);replace kp1:=hr.q kp1;have HS:=Hi (HS.out.mod0 hr.mod);clear hr kp1;have hB:(P2++x.ins.l.flatMap (fun y=>putI (inP y)))=PM:=by
       rw[HPUT.out,HE2.out,HE1.out];simp
      rw[hB]at HS;obtain⟨a,c,rfl,hcl,hN⟩:=clip_newL HS.out.g.2.1;obtain⟨k,hk⟩:∃k,PM.length=k:=⟨_,rfl⟩;have kp4:=HS.out.g.1;rw[hk]at kp4 hcl;have HF:=Hi (Ai hN (Ai hk (Ai HS.out.m HS.out.lt)));clear hB hN hk;go_upto_region 31 with fail;have Lkp4:=Ls kp4;refine ZR0 (fun _ _ v=>v= .slice a k k) [1,2,0,0] ?_;refine Zd ?_;(refine Zc ?_ (s:=by intro wq hSq;exact(clipLay_c _ _ _ hcl).mono (fun e w' h=>⟨_,h.1,rfl,by rw[h.2];exact Mod.refl _ _⟩));rintro _ hC;subst hC;try simp only[zL])
      iterate 2 refine Zv ?_
      refine TD.nil (fun wz hr=> ?_);replace kp4:=hr.q kp4;have HMZ:=Hi hr.mod;clear hr hcl;go_wp2_with fail
      go_ret2
      refine⟨a,?_,(HF.out.1.base (by have:=HF.out.2.2.2;omega)).mod0 HMZ.out,HF.out.2.2.1.then0 HMZ.out⟩;rw[HF.out.2.1];rfl
end
section
attribute [local go_sem↓] wlMsg ldMsg stMsg
attribute [local go_sem] txr_ms zSg_size
theorem NewS.offB {b:Nat} {w:World} {v:Value} {l:List UInt8} (h:NewS uc 1 5 b w v l) (hl:l.length≤1000000):SlOff uc 1 5 w b v l:=by
 rcases h with h|⟨g,cur,rfl,hb,hg,hc⟩
 ·exact .inl h
 ·refine .inr ⟨g,0,l.length,cur,rfl,hb,hg,Nat.le_refl _,by unfold maxLen;omega,fun hp=> ?_,?_⟩
  ·obtain⟨x,hx⟩:∃x,l[l.length-1]? =some x:=⟨_,List.getElem?_eq_getElem (by omega)⟩;have:=(hc _ x hx).2;omega
  ·rw[List.drop_zero,Nat.mul_one];apply List.ext_getElem?;intro i;by_cases hi:i<l.length
   ·obtain⟨x,hx⟩:∃x,l[i]? =some x:=⟨_,List.getElem?_eq_getElem hi⟩;obtain⟨h1,h2⟩:=hc i x hx;rw[List.getElem?_take_of_lt hi];have h3:=cellsOf_get (f:=uc) (n:=1) (fun _=>rfl) l i x hx;rw[Nat.mul_one]at h1 h2 h3;have h4:(cellsOf uc l)[i]? =some (u8v x):=by
     have h5:=congrArg (fun L=>L[0]?) h3;simp only[List.getElem?_take_of_lt (show 0<1 by decide),List.getElem?_drop,Nat.add_zero]at h5;rw[h5];rfl
    have h6:cur[i]? =some (u8v x):=by
     have h5:=congrArg (fun C=>C[0]?) h1;simp only[Array.getElem?_extract]at h5;rw[if_pos (by omega)]at h5;simpa[uc] using h5
    rw[h4];simpa using h6
   ·rw[List.getElem?_eq_none (by rw[List.length_take];omega),List.getElem?_eq_none (by rw[cellsOf_len (n:=1) (fun _=>rfl)];omega)]
theorem ssig (p:Nat) (w:World):(Instr.sliceAt 103 (.pointer (some ⟨p,0,none⟩)) none none none).run Tryz.prog w= .ok (.slice (some ⟨p,0,none⟩) 64 64) w:=by kernel_rfl
theorem offClip {w:World} {b:Nat} {v:Value} {l:List UInt8} (h:SlOff uc 1 5 w b v l):∃a c,v= .slice a l.length c∧(∀w2,(Instr.sliceAt 42 (.slice a l.length c) none (some (.int .i64 (l.length:Int))) (some (.int .i64 (l.length:Int)))).run Tryz.prog w2= .ok (.slice a l.length l.length) w2)∧SlAt uc 1 w a l:=by
 obtain⟨a,c,e,hs,_⟩:=h.at bytesT;rcases h with⟨rfl,rfl⟩|⟨g,o,cap,cur,rfl,hb,hg,hn,_⟩
 ·injection e with e1 e2 e3
  subst e1 e3;exact⟨none,0,rfl,fun w2=>sl_clip0 bytesT w2,hs⟩
 ·injection e with e1 e2 e3
  subst e1 e3;exact⟨_,_,rfl,fun w2=>sl_clip bytesT hn w2,hs⟩
theorem sig_bytes {w:World} {g:Nat} {U:TypeId} {fr:Nat×Nat} {k:Sg} (hk:w.heap[g]? =some (.cells (sgc k) U fr)):SlAt uc 1 w (some ⟨g,0,none⟩) k.l:=bytes_at hk (by rw[k.h];exact sgc_ext k)
structure PkS (w0:World) (am:Option Addr) (mk:Nat) (M:List UInt8) (v:Value) (B:List UInt8) (w:World):Prop where
 o:SlOff uc 1 5 w w0.heap.size v B
 n:NewS uc 1 5 w0.heap.size w (.slice am mk mk) M
 a:∀g,(Value.slice am mk mk).ownBlock=some g→v.ownBlock≠some g
 m:Mod (fun _=>False) w0 w
theorem PkS.mod0 {w0:World} {am:Option Addr} {mk:Nat} {M:List UInt8} {v:Value} {B:List UInt8} {w w':World} (h:PkS w0 am mk M v B w) (hm:Mod (fun _=>False) w w'):PkS w0 am mk M v B w':=⟨h.o.mod0 hm,h.n.mod0 hm,h.a,h.m.then0 hm⟩
theorem PkS.app {w0:World} {am:Option Addr} {mk:Nat} {M:List UInt8} {v:Value} {B q:List UInt8} {w:World} {a:Option Addr} (n c:Nat) (h:PkS w0 am mk M v B w) (hq:SlAt uc 1 w a q) (hn:q.length=n) (hl:B.length+q.length≤1000000):
  ∃v' w',(Builtin.append_ #[42,42] 42 #[v,.slice a n c]).run Tryz.prog w= .ok v' w'∧PkS w0 am mk M v' (B++q) w':=by
 subst hn;obtain⟨v',w',h1,h2,h3,h4⟩:=SlOff.append bytesT (c:=c) h.o hq hl (by decide) h.m.size 42;refine⟨v',w',h1,h2,h.n.mod h3 (fun g hg e=>h.a g hg e),fun g hg e=> ?_,h.m.then h3 (fun i hi e=> ?_)⟩
 ·rcases h4 g e with h5|h5
  ·exact h.a g hg h5
  ·have:=(h.n.lt g hg).2;omega
 ·have:=(h.o.lt i e).1;omega
theorem pput_c (x:RdR) (w:World) (hR:TxRd w x) (hB:TxB (txP x)) (hv:x.v0=true∨(x.lks.l.length=0∧x.h0.toNat<128)) (ht:(putT (txP x)).length≤1232):
  Calls Tryz.prog 13 #[.agg (txr x)] w fun e w'=>∃a,e= .returned (.tuple #[.slice a (putT (txP x)).length (putT (txP x)).length,.int .i64 0])∧SlAt uc 1 w' a (putT (txP x))∧Mod (fun _=>False) w w':=by
 have hput:putT (txP x)=shP x.sg.l.length++(x.sg.l.flatMap (·.l)++putM (msgP x)):=rfl;have HX:=Hi hR;have hlen:(x.sg.l.flatMap (·.l)).length≤1232∧(putM (msgP x)).length≤1232:=by
  rw[hput]at ht;simp only[List.length_append]at ht;omega
 have HMP:=Hi (fun w1 (hm:Mod (fun _=>False) w w1)=>mput_c x w1 (hR.2.mod0 hm) hB.2 hv (by have:=hlen.2;omega));have HB:=Hi hB;obtain⟨n,hn⟩:∃n,x.sg.l.length=n:=⟨_,rfl⟩;obtain⟨M,hM⟩:∃M,putM (msgP x)=M:=⟨_,rfl⟩;obtain⟨mk,hmk⟩:∃mk,M.length=mk:=⟨_,rfl⟩;obtain⟨PT,hPT⟩:∃PT,putT (txP x)=PT:=⟨_,rfl⟩;rw[hM,hmk]at HMP;rw[hPT]at hput ht⊢;rw[hM,hn]at hput;rw[hM,hmk]at hlen;have HL:=Hi (Ai hlen (Ai hmk (Ai hn (Ai hput ht))));have hnl:n≤65535:=by have:=hB.1;simp only[txP]at this;omega
 have HNL:=Hi hnl;have hs0:(txr x)[0]? =some (.slice x.sg.a n x.sg.c):=by rw[txr0,hn]
 have hs0':∀h:0<(txr x).size,(txr x)[0]= .slice x.sg.a n x.sg.c:=fun h=>at_get hs0 h;clear hR hB hv ht hput hlen hn hM hmk hPT;go_enter Tryz.func13,Tryz.ntmps13;go_upto_region 0 with fail;refine ZP0 [3,0,0] ?_;refine Zb fun p1 hp1=> ?_
 iterate 2 refine Zv ?_
 refine TD.nil (fun w1 hr=> ?_);obtain⟨gp1,kp1⟩:=hr.b p1;have HM1:=Hi hr.mod;clear hr;go_upto_region 1 with fail;go_wp2_with fail;go_at_call 56;refine(putShort_c n HNL.out _).mono ?_;rintro e w2 ⟨a,rfl,hN,m2⟩;have HO:Hid (SlOff uc 1 5 w2 w.heap.size _ (shP n)):=Hi ((hN.base HM1.out.size).offB (by have:=shP_le n;omega));have HM2:=Hi (HM1.out.then0 m2);replace kp1:=m2.at0 kp1;have HL2:=Hi (hN.lt);clear hN m2;have hG4:=HMP.out w2 HM2.out;go_upto_region 4 with fail;refine region_seq 8 rfl ?_;simp only[List.range,List.range.loop];refine Zq ?_;refine Zr ?_;refine ZC hG4 ?hout (fun vn wn hR=> ?hret) (fun ch wn hR=> ?hpan)
 case hout=>
  rintro w' ⟨_,h,_⟩;cases h
 case hpan=>
  obtain⟨_,h,_⟩:=hR;cases h
 case hret=>
 obtain⟨am,e0,hN,m3⟩:=hR;cases e0;have HS:Hid (PkS w am mk M (.slice a (shP n).length (shP n).length) (shP n) wn):=Hi ⟨HO.out.mod0 m3,hN.base HM2.out.size,fun g hg e=>by have h1:=(hN.lt g hg).1;have h2:=(HL2.out g e).2;omega,HM2.out.then0 m3⟩;replace kp1:=m3.at0 kp1;clear hN m3 hG4;(try simp only[zL])
 iterate 5 refine Zq ?_
 refine sq_nil ?_;obtain⟨w3,rfl⟩:∃w3:World,w3=wn:=⟨_,rfl⟩;go_upto_region 7 with fail;have Lkp1:=Ls kp1;refine ZP0 [0,1,0,0] ?_
 iterate 4 first|refine Zv ?_|refine Zd ?_
 refine TD.nil (fun w4 hr=> ?_);replace kp1:=hr.q kp1;have HS:=Hi (HS.out.mod0 hr.mod);clear hr kp1 hs0 hs0';obtain⟨v0,hv0⟩:∃v0,Value.slice a (shP n).length (shP n).length=v0:=⟨_,rfl⟩;rw[hv0]at HS⊢;clear hv0;go_wp2_with fail;go_loopw [4,31] (fun s4 s31 ws=>∃i:Nat,i≤n∧s31= .int .i64 (i:Int)∧Hid (PkS w am mk M s4 (shP n++(x.sg.l.take i).flatMap (·.l)) ws)) (fun _ s31 _=>n-(intOf s31).toNat)
 case atStart=>exact⟨0,Nat.zero_le _,rfl,by simpa using HS⟩
 case round=>
  clear HS;obtain⟨i,hi,rfl,HS⟩:=hrel;by_cases hlt:i<n
  ·have hd:=Dt hlt;obtain⟨y,hy⟩:∃y,x.sg.l[i]? =some y:=⟨_,List.getElem?_eq_getElem (by have:=HL.out.2.2.1;omega)⟩;obtain⟨g,o,C,U,fr,hga,kg,he,hle⟩:=(HX.out.1.1.mod0 HS.out.m).block hy;have HY:=Hi hy;clear hy;go_upto_region 9 with fail;have Lkg:=Ls kg;refine ZP0 [0,1,3,4] ?_;refine Zv ?_;refine Zd ?_;refine Za alSg fun p8 hp8=> ?_;refine Zt ?_;refine TD.nil (fun w9 hr=> ?_);replace kg:=hr.q kg;obtain⟨gp8,kp8⟩:=hr.b p8;have HS:=Hi (HS.out.mod0 hr.mod);clear hr he hle kg hga;have hsg:=ssig p8;go_upto_region 10 with fail;have Lkp8:=Ls kp8;refine ZP0 [0,0,5,0] ?_;refine Zv ?_;refine Zx hsg ?_;refine Zi fun w10 hr=> ?_;replace kp8:=hr.q kp8;have HS:=Hi (HS.out.mod0 hr.mod);obtain⟨v2,w11,hap,hS⟩:=HS.out.app 64 64 (sig_bytes kp8) y.h (by have:=fm_le (fun k:Sg=>k.l) x.sg.l i;have:=HL.out.1.1;have:=shP_le n;have:=y.h;simp only[List.length_append];omega);have HS2:Hid (PkS w am mk M v2 (shP n++(x.sg.l.take (i+1)).flatMap (·.l)) w11):=Hi (by rw[fm_snoc HY.out,←List.append_assoc];exact hS);clear hr hS kp8 hsg;refine ZA hap ?_;refine Ze ?_;refine TE.nil ?_;clear hap;go_wp2_with fail;go_roundw
   case rel=>exact⟨i+1,by omega,by go_num,HS2⟩
   case measure=>simp[intOf];omega
  ·have hd:=Df hlt;obtain rfl:n=i:=by omega
   rw[show x.sg.l.take n=x.sg.l from List.take_of_length_le (by have:=HL.out.2.2.1;omega)]at HS;clear hi hlt;go_upto_region 12 with fail;refine ZP0 [0,0,5,0] ?_
   iterate 2 refine Zv ?_
   refine Zi fun w10 hr=> ?_;have HS:=Hi (HS.out.mod0 hr.mod);obtain⟨v2,w11,hap,hS⟩:=HS.out.app mk mk (ns_rd HS.out.n) HL.out.2.1 (by have:=HL.out.1;have:=shP_le n;have:=HL.out.2.1;simp only[List.length_append];omega);have hB:shP n++x.sg.l.flatMap (·.l)++M=PT:=by rw[HL.out.2.2.2.1,List.append_assoc]
   rw[hB]at hS;obtain⟨k,hk⟩:∃k,PT.length=k:=⟨_,rfl⟩;obtain⟨ab,cb,rfl,hcl,hat⟩:=offClip hS.o;rw[hk]at hcl hap;have HF:=Hi (Ai hat (Ai hk hS.m));have hkl:decide ((k:Int)>1232)=false:=Df (by have:=HL.out.2.2.2.2;omega);have hkl2:decide ((1232:Int)<(k:Int))=false:=Df (by have:=HL.out.2.2.2.2;omega);have hkl3:decide (1232<k)=false:=Df (by have:=HL.out.2.2.2.2;omega);have HCL:=Hi hcl;clear hr hS hB hk hcl hat;refine ZA hap ?_;refine Ze ?_;refine TE.nil ?_;clear hap;go_wp2_with fail;go_at_call 36;refine(clipY_c _ _ _ HCL.out).mono ?_;rintro e wz ⟨rfl,rfl⟩;go_wp2_with fail
   go_ret2
   refine⟨ab,?_,HF.out.1,HF.out.2.2⟩;rw[HF.out.2.1];rfl
end
section
attribute [local go_sem↓] ldAcct ldHold wlHash ldHash stHash wlSig ldSig stSig wlLim ldLim wlRdy ldRdy stRdy wlOut ldOut stOut wlTd ldTd stTd wlTx ldTx stTx
attribute [local go_sem] neMap av_size av_all hd_size hd_key hd_acct hd_one zHold_size zHash_size zSg_size zLim_size zRdy_size zOut_size zTried_size rdr_size rdr_all rdr_one rdr_rec rdr1 rdr1' ocr_size ocr_all ocr_one ocr2 ocr3 ocr4 ocr5 ocr2' ocr3' ocr4' ocr5' tdr_size tdr_all tdr_one tdr_r tdr_o tdr_tx tdr_rec tdr0 tdr41 tdr50 tdr51 tdr52 tdr0' tdr41' tdr50' tdr51' tdr52'
theorem tdT:ElT Tryz.prog 41 65 tdr 54 296 where
 u:=Tryz.underlying41
 info:=by
  obtain⟨i0,hi,hz0,hz1,hz2⟩:=info_parts (show(Tryz.prog.info? 65).map (fun i=>(i.zero,i.size,i.bytes))=some (some (.agg zTried),54,296)by kernel_rfl);exact⟨i0,_,hi,hz0,hz1,hz2,by simp[Value.cells,zTried_size,tdr_size]⟩
 pos:=by omega
 size:=tdr_size
 one x:=by
  have h2:=tdr_one' x;rw[Array.all_eq_true_iff_forall_mem]at h2;intro u hu;exact h2 u (by simpa using hu)
theorem tdE_list (r:RdR) (o:OcR):(tdr ⟨r,o⟩).toList=(rdr r).toList++ocl o:=by simp[tdr,rdr,mx]
theorem bldTdR (r:RdR) (w:World):(Instr.build 65 #[(0,.agg (rdr r))]).run Tryz.prog w= .ok (.agg (tdr ⟨r,oc0⟩)) w:=by
 refine run_build_struct (z:= .agg zTried) (places:= #[(0,48),(48,6)]) Tryz.underlying65 (fun w=>by kernel_rfl) (fun w=>by kernel_rfl) ?_ w;show Instr.fill _ zTried [(0,_)]=_;rw[fill_cons (off:=0) (n:=48) rfl (by simp[Value.cells,rdr_size]) (by rw[zTried_size];omega)];refine congrArg some ?_;apply Array.toList_inj.1;have h1:(rdr r).toList.length=48:=by simp[rdr_size]
 have h2:(rdr rd0).toList.length=48:=by simp[rdr_size]
 simp only[Value.cells];rw[wr_list _ _ _ (by rw[zTried_size,h1];omega),tdE_list];unfold zTried;rw[show td0=⟨rd0,oc0⟩from rfl,tdE_list];simp[List.drop_append,h1,h2]
def RdK (b:Nat) (w:World) (x:TdR):Prop:=NewS sgc 64 103 b w (.slice x.r.sg.a x.r.sg.l.length x.r.sg.c) x.r.sg.l∧NewS rcr 34 192 b w (.slice x.r.ro.a x.r.ro.l.length x.r.ro.c) x.r.ro.l∧
 NewS inr 3 146 b w (.slice x.r.ins.a x.r.ins.l.length x.r.ins.c) x.r.ins.l∧NewS uc 1 5 b w x.r.b.v x.r.b.l∧
 (x.r.ro.l.length≤300∧x.r.ins.l.length≤140737488355328∧x.r.sg.l.length≤140737488355328∧(∀y∈x.r.ins.l,y.d.l.length≤140737488355328)∧x.r.b.l.length≤1232)∧x.o=oc0∧wireP x.r.b.l= .ok (txP x.r)
theorem RdK.mod {b:Nat} {w w':World} {x:TdR} {S:Nat→Prop} (h:RdK b w x) (hm:Mod S w w') (hS:∀g,S g→g<b∨∃C E,w.heap[g]? =some (.cells C E (0,0))∧E≠103∧E≠192∧E≠146∧E≠5):RdK b w' x:=by
 have hg:∀ {α:Type} {f:α→Array Value} {n:Nat} {E:TypeId} {v:Value} {l:List α},NewS f n E b w v l→(∀F,F=E→F=103∨F=192∨F=146∨F=5)→NewS f n E b w' v l:=fun hn hE=>hn.mod hm (fun g hg hs=>by
  rcases hS g hs with h|⟨C,F,hk,h1,h2,h3,h4⟩
  ·have:=(hn.lt g hg).1;omega
  ·obtain⟨cur,hc⟩:=hn.ty hg;rw[hc]at hk;injection (Option.some.inj hk)with _ e
   rcases hE F e.symm with h|h|h|h
   ·exact h1 h
   ·exact h2 h
   ·exact h3 h
   ·exact h4 h)
 exact⟨hg h.1 (fun F e=> .inl e),hg h.2.1 (fun F e=> .inr (.inl e)),hg h.2.2.1 (fun F e=> .inr (.inr (.inl e))),hg h.2.2.2.1 (fun F e=> .inr (.inr (.inr e))),h.2.2.2.2⟩
theorem RdK.rc {b:Nat} {w:World} {x:TdR} (h:RdK b w x):RcOk w x:=by
 have ho:x.o.ch.a=none∧x.o.ch.l=[]:=by rw[h.2.2.2.2.2.1];exact⟨rfl,rfl⟩
 have hz:=h.2.2.2.2.1;exact⟨⟨h.1.slAt,h.2.1.slAt,h.2.2.1.slAt,hz.1,hz.2.1,hz.2.2.1,hz.2.2.2.1⟩,by rw[ho.1,ho.2];exact .inl rfl,by rw[ho.2];simp,h.2.2.2.1.slAt⟩
theorem RdK.pk {b:Nat} {w:World} {x:TdR} (h:RdK b w x):PkOf x:=⟨h.2.2.2.2.2.2,by rw[h.2.2.2.2.2.1];rfl⟩
theorem RdK.of {T:TbL} {b:Nat} {w:World} {l:List UInt8} {y:RyP} {r:RdR} (hy:readyP T l= .ok y) (h:RyO b w r) (hr:ryP r=y) (hB:TxB (txP r)):RdK b w ⟨r,oc0⟩:=by
 obtain⟨x,ws,rs,ro,hx,hro,rfl,hlen⟩:=ready_ok hy;have e1:r.b.l=l:=congrArg RyP.b hr;have e2:txP r=x:=congrArg RyP.x hr;have e3:r.ro.l=ro:=congrArg RyP.ro hr;have hf:=(wire_few hx).1;have hw:=wire_put hx;refine⟨h.1.1,h.2.2.1,h.1.2.2.1,h.2.1,⟨?_,?_,?_,?_,?_⟩,rfl,?_⟩
 ·show r.ro.l.length≤300;rw[e3];omega
 ·have h1:=hB.2.2.1.1;have h2:(txP r).m.ins.length=r.ins.l.length:=by simp[txP,msgP]
  show r.ins.l.length≤_;omega
 ·have h1:=hB.1;have h2:(txP r).sg.length=r.sg.l.length:=rfl;show r.sg.l.length≤_;omega
 ·intro y hy;have h1:=hB.2.2.1.2 (inP y) (List.mem_map_of_mem hy);have h2:=h1.2;have h3:(inP y).d.length=y.d.l.length:=rfl;omega
 ·show r.b.l.length≤1232;rw[e1];exact hw.2
 ·show wireP r.b.l=_;rw[e1,hx,e2]
end
end Go.Proofs.YtceodkliooeccaaGreatDoor