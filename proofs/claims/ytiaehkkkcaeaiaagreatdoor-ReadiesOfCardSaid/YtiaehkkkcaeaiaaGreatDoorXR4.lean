/- The lemmas of the proof, part XO4: how the program and its data lie in memory, and what its functions do. -/
import Derived.Test.YtiaehkkkcaeaiaaGreatDoorXR3
import Derived.Laws.CopyRow
import Derived.Laws.MakeOwn
set_option linter.unusedSimpArgs false
set_option linter.unusedVariables false
set_option linter.unusedSectionVars false

set_option maxRecDepth 20000
set_option maxHeartbeats 6400000
namespace Go.Proofs.YtiaehkkkcaeaiaaGreatDoor
open Go.RowKit
open Go.ChangeMaps (setBlock)
attribute [local go_sem↓] ldKey ldSg ldTc stKey stSg stTc wlKey wlTc
attribute [local go_sem] Value.cells cell_blk frozen_blk kc_ext kc_one kc_one0 kc_size one_bool one_int one_map one_ptr one_slice txr_all txr_one txr_one' txr_size zKey_size
section
attribute [local go_sem↓] wlMsg ldMsg stMsg
attribute [local go_sem] mgx_size mgx_ext mgx_one mgx_one0
attribute [local go_sem↓] wlHs stHs wlIn ldIn stIn wlLo ldLo stLo
attribute [local go_sem] zMsg_size zMsg_all zMsg_all0 mg0 mg1 mg2 mg3 mg4 mg37 mg38
def MsgL (b:Nat) (w:World) (r:RdR):Prop:=SlOwn kc 32 82 w b (.slice r.ks.a r.ks.l.length r.ks.c) r.ks.l∧(SlOwn inr 3 125 w b (.slice r.ins.a r.ins.l.length r.ins.c) r.ins.l∧∀i∈r.ins.l,YAt b w i.a.a i.a.l i.a.c∧YAt b w i.d.a i.d.l i.d.c)∧
 (SlOwn lor 34 121 w b (.slice r.lks.a r.lks.l.length r.lks.c) r.lks.l∧∀i∈r.lks.l,YAt b w i.w.a i.w.l i.w.c∧YAt b w i.r.a i.r.l i.r.c)
def RgetP (w:World) (l:List UInt8) (en:Ending) (w':World):Prop:=Mod (fun _=>False) w w'∧match pMsg l 0 with
 | .ok (x,k)=>∃r,en= .returned (.tuple #[.agg (msr r),i64n k,i64n 0])∧MsgL w.heap.size w' r∧msgP r=x
 | .error n=>en= .returned (.tuple #[.agg zMsg,i64n 0,i64n n])
theorem bTk (a:Option Addr) (n c:Nat) (w:World):(Instr.build 222 #[(0,.slice a n c)]).run Tryz.prog w= .ok (.agg (tkC a n c 0 0)) w:=by kernel_rfl
theorem Inv.ifn {β:Type} {R F:PR β} {e n:Nat} {p:Prop} [Decidable p] (h:Inv R e (if p then .error n else F)) (hp:e=0→¬p):Inv R e F:=
 ⟨fun h0=>by rw[h.1 h0,if_neg (hp h0)],h.2⟩
theorem mg37' {v0:Bool} {h0 h1 h2:UInt8} {ka:Option Addr} {kn kc':Nat} {rc:Key} {ia:Option Addr} {n1 c1:Nat} {la:Option Addr} {n2 c2:Nat} (h:37<(mgx v0 h0 h1 h2 ka kn kc' rc ia n1 c1 la n2 c2).size):(mgx v0 h0 h1 h2 ka kn kc' rc ia n1 c1 la n2 c2)[37]= .slice ia n1 c1:=at_get (mg37 ..) h
theorem mg38' {v0:Bool} {h0 h1 h2:UInt8} {ka:Option Addr} {kn kc':Nat} {rc:Key} {ia:Option Addr} {n1 c1:Nat} {la:Option Addr} {n2 c2:Nat} (h:38<(mgx v0 h0 h1 h2 ka kn kc' rc ia n1 c1 la n2 c2).size):(mgx v0 h0 h1 h2 ka kn kc' rc ia n1 c1 la n2 c2)[38]= .slice la n2 c2:=at_get (mg38 ..) h
attribute [local go_sem] mg37' mg38'
theorem inr_sz (x:InR):(inr x).size=3:=rfl
theorem inr_al (x:InR):(inr x).all (·.oneCell')=true:=by simp[inr,Value.oneCell']
theorem inr_al0 (x:InR):(inr x).all (·.oneCell') 0 3=true:=all_of (inr_sz x) (inr_al x)
theorem inr_ex (x:InR):(inr x).extract 0 3=inr x:=rfl
theorem inr1 (x:InR):(inr x)[1]? =some (.slice x.a.a x.a.l.length x.a.c):=rfl
theorem inr2 (x:InR):(inr x)[2]? =some (.slice x.d.a x.d.l.length x.d.c):=rfl
theorem lor32 (x:LoR):(lor x)[32]? =some (.slice x.w.a x.w.l.length x.w.c):=kx_get x.t _ 0
theorem lor33 (x:LoR):(lor x)[33]? =some (.slice x.r.a x.r.l.length x.r.c):=kx_get x.t _ 1
theorem zIn_sz:zIn.size=3:=rfl
theorem lor_sz (x:LoR):(lor x).size=34:=kx_size _ _
theorem lor_al (x:LoR):(lor x).all (·.oneCell')=true:=kx_one _ _ rfl
theorem lor_al0 (x:LoR):(lor x).all (·.oneCell') 0 34=true:=all_of (lor_sz x) (lor_al x)
theorem lor_ex (x:LoR):(lor x).extract 0 34=lor x:=kx_all _ _ rfl
theorem zLo_sz:zLo.size=34:=lor_sz _
attribute [local go_sem] inr_sz inr_al inr_al0 inr_ex zIn_sz lor_sz lor_al lor_al0 lor_ex zLo_sz inr1 inr2 lor32 lor33
theorem TkA.modQ {p q:Nat} {a:Option Addr} {l:List UInt8} {c k e:Nat} {w w':World} (h:TkA p a l c k e w) (m:Mod (fun i=>i=q) w w') (hp:p≠q) (ha:∀x,a=some x→x.block≠q):TkA p a l c k e w':=by
 obtain⟨h1,h2,h3⟩:=h;exact⟨m.at_ne h1 hp,h2.mod m (fun b o e he=>ha _ e he),h3⟩
theorem own_ty {α:Type} {f:α→Array Value} {n:Nat} {E:TypeId} {w:World} {base:Nat} {v:Value} {l:List α} (h:SlOwn f n E w base v l) {g:Nat} {C:Array Value} {U:TypeId} (hg:w.heap[g]? =some (.cells C U (0,0))) (hE:U≠E):¬v.ownBlock=some g:=fun e=>by
 obtain⟨cur,hc⟩:=own_blk2 h g e;rw[hg]at hc;injection hc with hc
 injection hc with _ hc
 exact hE hc
theorem own_ne {α:Type} {f:α→Array Value} {n:Nat} {E U:TypeId} {w:World} {base p:Nat} {v:Value} {l:List α} {C:Array Value} {fr:Nat×Nat} (h:SlOwn f n E w base v l) (hk:w.heap[p]? =some (.cells C U fr)) (hE:U≠E):∀g,v.ownBlock=some g→¬g=p:=fun g hg e=>by
 obtain⟨cur,hc⟩:=own_blk2 h g hg;rw[e,hk]at hc;injection hc with hc
 injection hc with _ hc
 exact hE hc
theorem Inv.nm {α β:Type} {R:PR β} {e:Nat} {res:PR α} {F:α→Nat→PR β} (h:Inv R e (pBind res F)):∃G,Inv R e (pBind res G)∧G=F:=⟨F,h,rfl⟩
def TkLd (p:Nat) (a:Option Addr) (l:List UInt8) (c k:Nat) (v:Value):Land:=fun T w=>∃(x:Key) (k' e':Nat),v= .agg (kc x)∧Tk 0 (pKey l k) x k' e'∧k'≤l.length∧(T p∧w.heap[p]? =some (.cells (tkC a l.length c k' e') 222 (0,0)))
theorem goodTkLd (p:Nat) (a:Option Addr) (l:List UInt8) (c k:Nat) (v:Value):Good (TkLd p a l c k v):=Good.ex fun _=>Good.ex fun _=>Good.ex fun _=>(Good.pure _).and ((Good.pure _).and ((Good.pure _).and (Good.at _ _)))
theorem keyL {p:Nat} {a:Option Addr} {l:List UInt8} {c k:Nat} {T:Nat→Prop} {w:World} (h:TkA p a l c k 0 w) (hT:T p):Calls Tryz.prog 141 #[pV p] w fun e w'=>∃v,e= .returned v∧Mod T w w'∧TkLd p a l c k v (Grow T w w') w':=
 (tkey_c w h).mono (fun e w' ⟨v,x,k',e',h1,h2,h3,h4,h5⟩=>⟨v,h1,h5.mono (fun i _ e=>by rw[e];exact hT),x,k',e',h2,h3,h4.2.2.1,.inl hT,h4.1⟩)
def mkR (z:Bool) (b0 b1 b2:UInt8) (ks:Sl Key) (rc:Key) (ins:Sl InR) (lks:Sl LoR):RdR:=⟨⟨none,[],0⟩,⟨none,[],0⟩,z,b0,b1,b2,ks,rc,ins,lks,⟨none,[],0⟩,0,0,0,0,0,0⟩
theorem MsgL.mod {b:Nat} {w w':World} {r:RdR} {S:Nat→Prop} (h:MsgL b w r) (hm:Mod S w w') (hS:∀g C E,w.heap[g]? =some (.cells C E (0,0))→(E=82∨E=125∨E=121∨E=5)→¬S g):MsgL b w' r:=by
 obtain⟨h1,⟨h2,h3⟩,h4,h5⟩:=h;have hy:∀g C,w.heap[g]? =some (.cells C 5 (0,0))→¬S g:=fun g C hk=>hS g C _ hk (.inr (.inr (.inr rfl)));exact⟨h1.mod hm (fun g hg=>by obtain⟨C,hk⟩:=own_blk2 h1 g hg;exact hS g C _ hk (.inl rfl)),
  ⟨h2.mod hm (fun g hg=>by obtain⟨C,hk⟩:=own_blk2 h2 g hg;exact hS g C _ hk (.inr (.inl rfl))),fun i hi=>⟨(h3 i hi).1.mod hm hy,(h3 i hi).2.mod hm hy⟩⟩,
  h4.mod hm (fun g hg=>by obtain⟨C,hk⟩:=own_blk2 h4 g hg;exact hS g C _ hk (.inr (.inr (.inl rfl)))),fun i hi=>⟨(h5 i hi).1.mod hm hy,(h5 i hi).2.mod hm hy⟩⟩
theorem ty_ne {w:World} {p:Nat} {C:Array Value} {U:TypeId} {fr:Nat×Nat} (hk:w.heap[p]? =some (.cells C U fr)) {g:Nat} {C':Array Value} {E:TypeId} (hg:w.heap[g]? =some (.cells C' E (0,0))) (hE:U≠E):¬g=p:=fun e=>by
 rw[e,hk]at hg;injection hg with hg
 injection hg with _ hg
 exact hE hg
theorem two_ne {w:World} {p q:Nat} {C D:Array Value} (hp:w.heap[p]? =some (.cells C 222 (0,0))) (hq:w.heap[q]? =some (.cells D 33 (0,0))):∀g C E,w.heap[g]? =some (.cells C E (0,0))→(E=82∨E=125∨E=121∨E=5)→¬(g=p∨g=q):=fun g C' E hg hE h=>by
 rcases h with h|h
 ·exact ty_ne hp hg (by rcases hE with rfl|rfl|rfl|rfl<;>decide) h
 ·exact ty_ne hq hg (by rcases hE with rfl|rfl|rfl|rfl<;>decide) h
theorem bInI (q:UInt8) (w:World):(Instr.build 125 #[(0,u8v q)]).run Tryz.prog w= .ok (.agg (inr ⟨q,⟨none,[],0⟩,⟨none,[],0⟩⟩)) w:=by kernel_rfl
theorem inr_a (q:UInt8) (A D:Sl UInt8) {a:Option Addr} {x:List UInt8} {n c:Nat} (h:x.length=n):(inr ⟨q,A,D⟩).setIfInBounds 1 (.slice a n c)=inr ⟨q,⟨a,x,c⟩,D⟩:=by
 subst h;rfl
theorem inr_d (q:UInt8) (A D:Sl UInt8) {a:Option Addr} {x:List UInt8} {n c:Nat} (h:x.length=n):(inr ⟨q,A,D⟩).setIfInBounds 2 (.slice a n c)=inr ⟨q,A,⟨a,x,c⟩⟩:=by
 subst h;rfl
theorem msr_mk {z:Bool} {b0 b1 b2:UInt8} {a1 a2 a3:Option Addr} {L:List Key} {L2:List InR} {L3:List LoR} {i c1 i2 c2 i3 c3:Nat} {rc:Key} (h1:L.length=i) (h2:L2.length=i2) (h3:L3.length=i3):mgx z b0 b1 b2 a1 i c1 rc a2 i2 c2 a3 i3 c3=msr (mkR z b0 b1 b2 ⟨a1,L,c1⟩ rc ⟨a2,L2,c2⟩ ⟨a3,L3,c3⟩):=by
 subst h1;subst h2;subst h3;rfl
theorem bLoI (k:Key) (w:World):(Instr.build 121 #[(0,.agg (kc k))]).run Tryz.prog w= .ok (.agg (lor ⟨k,⟨none,[],0⟩,⟨none,[],0⟩⟩)) w:=by
 refine run_build_struct (z:= .agg zLo) (places:= #[(0,32),(32,1),(33,1)]) Tryz.underlying121 (fun w=>by kernel_rfl) (fun w=>by kernel_rfl) ?_ w;show Instr.fill _ zLo [(0,_)]=_;rw[fill_cons (off:=0) (n:=32) rfl (by simp[Value.cells]) (by rw[zLo_sz];omega)];show some (wr zLo 0 (kc k).toList)=some _;congr 1;exact lox_key key0 k none 0 0 none 0 0
theorem lor_w' (q:Key) (A D:Sl UInt8) {a:Option Addr} {x:List UInt8} {n c:Nat} (h:x.length=n):(lor ⟨q,A,D⟩).setIfInBounds 32 (.slice a n c)=lor ⟨q,⟨a,x,c⟩,D⟩:=by
 subst h;exact kx_set1 q _ 0 _
theorem lor_r' (q:Key) (A D:Sl UInt8) {a:Option Addr} {x:List UInt8} {n c:Nat} (h:x.length=n):(lor ⟨q,A,D⟩).setIfInBounds 33 (.slice a n c)=lor ⟨q,A,⟨a,x,c⟩⟩:=by
 subst h;exact kx_set1 q _ 1 _
theorem rget3_c {a:Option Addr} {l:List UInt8} {c:Nat} (w:World) (hl:SlAt uc 1 w a l) (hc:l.length≤c) (hn:a=none→c=0) (hln:l.length≤1000000) (hin:∀x,a=some x→x.block<w.heap.size):
  Calls Tryz.prog 129 #[.slice a l.length c] w (RgetP w l):=by
 have HL:=Hi (Ai hl (Ai hc (Ai hn (Ai hln hin))));obtain⟨ll,hll⟩:∃ll,l.length=ll:=⟨_,rfl⟩;have HLL:=Hi hll;rw[hll];clear hl hc hn hln hin hll;go_enter Tryz.func129,Tryz.ntmps129;go_upto_region 0 with fail;refine ZP0 [3,0,0] ?_;refine Za alMsg fun p2 hp2=> ?_
 iterate 2 refine Zv ?_
 refine TD.nil (fun w1 hr=> ?_);obtain⟨gp2,kp2⟩:=hr.b p2;have m1:=hr.mod;clear hr;replace kp2:w1.heap[p2]? =some (.cells zMsg 33 (0,0)):=kp2;have hb:=bTk;go_upto_region 1 with fail;have Lkp2:=Ls kp2;refine ZP0 [0,0,3,0] ?_;refine Zv ?_;refine Zu (hb _ _ _) ?_;refine Zb fun p16 hp16=> ?_;refine Zv ?_;refine TD.nil (fun w2 hr=> ?_);replace kp2:=hr.q kp2;obtain⟨gp16,kp16⟩:=hr.b p16;have m2:=m1.trans hr.mod;have hp16b:w1.heap.size≤p16:=gp16;have HA0:Hid (TkA p16 a l c 0 0 w2):=Hi ⟨by rw[HLL.out];exact kp16,HL.out.1.mod0 m2,Nat.zero_le _,HL.out.2.1,HL.out.2.2.1,fun x hx e=>by have:=HL.out.2.2.2.2 x hx;have:=m1.size;omega,HL.out.2.2.2.1⟩;clear hr hb;have h2p:p2≠p16:=by have:=Ls kp2;omega
 have hp16:=Ls kp16;have hb:=bMsg0;go_upto_region 2 with fail;have Lkp2:=Ls kp2;have Lkp16:=Ls kp16;refine ZP0 [0,3,4] ?_;refine Zu hb ?_;refine Za alMsg fun p6 hp6=> ?_;refine Zt ?_;refine TD.nil (fun wc hr=> ?_);replace kp2:=hr.q kp2;replace kp16:=hr.q kp16;obtain⟨gp6,kp6⟩:=hr.b p6;have m3:=m2.trans hr.mod;have hws:=m2.size;have hw0:w.heap.size≤p2:=gp2;replace kp6:wc.heap[p6]? =some (.cells (mgx false 0 0 0 none 0 0 key0 none 0 0 none 0 0) 33 (0,0)):=kp6;have HM:Hid (Mod (fun _=>False) w wc):=Hi m3;have HA:Hid (TkA p16 a l c 0 0 wc):=Hi (HA0.out.mod0 hr.mod);have HI:Hid (Inv (pMsg l 0) 0 (pMsg l 0)):=Hi (Inv.start _);have h26:p2≠p6:=by have:=Ls kp2;omega
 have h6p:p6≠p16:=by omega
 have hp16w:w.heap.size≤p16:=by omega
 have hp6w:w.heap.size≤p6:=by omega
 clear hr m1 m2 m3 kp16 hws hb;go_wp2_with fail;go_at_call 139;refine(tbyte_c _ HA.out).mono ?_;rintro en w3 ⟨v9,q,k1,e1,rfl,rfl,hT,hA,hm⟩;have HI1:=Hi (HI.out.step hT (NE.byte _ _));have kt:=hA.1;unfold tkC at kt;have HA:=Hi hA;have HM:=Hi (HM.out.then hm (fun i hi e=>by omega));replace kp2:=hm.at_ne kp2 h2p;replace kp6:=hm.at_ne kp6 h6p;clear hT hA hm HI;rw[HLL.out]at kt;go_upto_region 4 with fail;go_cut [28]from 20 (fun s28 wx=>∃z:Bool,s28= .bool z∧Hid (z=true↔(e1=0∧128<q.toNat))∧wx=w3)
 case first=>
  as_aux_lemma=>
  by_cases he:e1=0
  ·have he0:((e1:Int)==0)=true:=by simpa using he
   by_cases hq:128<q.toNat
   ·have hd:decide (128<q.toNat)=true:=Dt hq;have hd1:decide ((q.toNat:Int)>128)=true:=Dt (by omega);go_wp2_with fail;go_meet
    case rel=>exact⟨true,rfl,Hi ⟨fun _=>⟨he,hq⟩,fun _=>rfl⟩,rfl⟩
   ·have hd:decide (128<q.toNat)=false:=Df hq;have hd1:decide ((q.toNat:Int)>128)=false:=Df (by omega);go_wp2_with fail;go_meet
    case rel=>exact⟨false,rfl,Hi ⟨fun h=>(by cases h),fun h=>absurd h.2 hq⟩,rfl⟩
  ·have he0:((e1:Int)==0)=false:=by simpa using he
   go_wp2_with fail;go_meet
   case rel=>exact⟨false,rfl,Hi ⟨fun h=>(by cases h),fun h=>absurd h.1 he⟩,rfl⟩
 case rest=>
 obtain⟨z,rfl,HZ,rfl⟩:=hcut;cases z with
 |true=>
  as_aux_lemma=>
  have HE:Hid (pMsg l 0= .error 4):=Hi (by
   obtain⟨h1,h2⟩:=HZ.out.1 rfl;rw[HI1.out.1 h1,if_pos h2])
  have hb:=bMsg0;go_upto_region 5 with fail;have Lkp2:=Ls kp2;refine ZP0 [0,5,0,0] ?_;refine Zu hb ?_;refine Zi fun w5 hr=> ?_;replace kp2:=hr.q kp2;have HM5:=Hi (HM.out.then0 hr.mod);clear hr;refine ZS ?_;refine ZM kp2 fun wn kp2 mS=> ?_;have HM6:=Hi (HM5.out.then mS (fun i hi e=>by omega));clear mS;refine Ze ?_;refine Ze ?_;refine TE.nil ?_;go_wp2_with fail;refine bodyPost_ret (results_ctt rfl rfl (ldZM kp2)) rfl ?_;unfold RgetP;rw[HE.out];exact⟨HM6.out,rfl⟩
 |false=>
  have HI:=Hi (HI1.out.ifn (fun h0 h=>by have:=HZ.out.2 ⟨h0,h⟩;cases this));clear HI1 HZ;obtain⟨z,hz⟩:∃z,((q.toNat:Int)==128)=z:=⟨_,rfl⟩;have hzq:decide (q.toNat=128)=z:=by
   rw[←hz,Bool.eq_iff_iff,decide_eq_true_iff,beq_iff_eq];omega
  have HZ:=Hi hzq;clear hzq kt
  go_upto_if 31 with fail
  go_cut [7]from 8 (fun s7 wx=>∃(h0:UInt8) (k2 e2:Nat),s7= .int .u8 (h0.toNat:Int)∧Hid (Tk e1 (if q.toNat=128 then pByte l k1 else .ok (q,k1)) h0 k2 e2)∧Hid (TkA p16 a l c k2 e2 wx)∧Hid (Mod (fun _=>False) w wx)∧wx.heap[p2]? =some (.cells zMsg 33 (0,0))∧wx.heap[p6]? =some (.cells (mgx z 0 0 0 none 0 0 key0 none 0 0 none 0 0) 33 (0,0)))
  case first=>
   as_aux_lemma=>
   cases z with
   |false=>
    have HQ:Hid (Tk e1 (if q.toNat=128 then pByte l k1 else .ok (q,k1)) q k1 e1):=Hi (by rw[if_neg (of_decide_eq_false HZ.out)];exact Tk.pure);go_wp2_with fail;go_meet
    case rel=>exact⟨q,k1,e1,rfl,HQ,HA,HM,kp2,kp6⟩
   |true=>
    go_upto_region 7 with fail;have Lkp6:=Ls kp6;refine ZP0 [0,5] ?_;refine Zv ?_;refine Zi fun wE hr=> ?_;replace kp6:=hr.mod.at0 kp6;have mE:=hr.mod;refine ZS ?_;refine ZN kp6 fun w4 kp6 mS=> ?_;replace kp6:w4.heap[p6]? =some (.cells (mgx true 0 0 0 none 0 0 key0 none 0 0 none 0 0) 33 (0,0)):=by
     rw[kp6,mgx_v0]
    have m4:=(mE.mono (T:=fun i=>i=p6) (fun _ _ h=>h.elim)).trans mS;have HA:=Hi (TkA.modN HA0.out (by omega) HA.out m4);have HM:=Hi (HM.out.then m4 (fun i hi e=>by omega));replace kp2:=m4.at_ne kp2 h26;clear hr mE mS m4;go_wp2_with fail;go_at_call 139;refine(tbyte_c _ HA.out).mono ?_;rintro en w5 ⟨v9,q2,k2,e2,rfl,rfl,hT,hA,hm⟩;have HF:=Hi (Ai (by rw[if_pos (of_decide_eq_true HZ.out)];exact hT:Tk e1 (if q.toNat=128 then pByte l k1 else .ok (q,k1)) q2 k2 e2) (Ai hA (HM.out.then hm (fun i hi e=>by omega))));replace kp2:=hm.at_ne kp2 h2p;replace kp6:=hm.at_ne kp6 h6p;clear hT hA hm;go_wp2_with fail;go_meet
    case rel=>exact⟨q2,k2,e2,rfl,Hi HF.out.1,Hi HF.out.2.1,Hi HF.out.2.2,kp2,kp6⟩
  case rest=>
  obtain⟨b0,k2,e2,rfl,HQ,HA,HM,kp2,kp6⟩:=hcut;have HI:=Hi (HI.out.step HQ.out (by
   split
   ·exact NE.byte _ _
   ·simp[NE]))
  clear HQ;go_upto_region 9 with fail;have Lkp2:=Ls kp2;have Lkp6:=Ls kp6;refine ZP0 [0,0,0,5] ?_
  iterate 3 refine Zv ?_
  refine Zi fun wE hr=> ?_;replace kp2:=hr.mod.at0 kp2;replace kp6:=hr.mod.at0 kp6;have mE:=hr.mod;refine ZS ?_;refine ZN kp6 fun wc kp6 mS=> ?_;replace kp2:=mS.at_ne kp2 (by omega);replace kp6:wc.heap[p6]? =some (.cells (mgx z b0 0 0 none 0 0 key0 none 0 0 none 0 0) 33 (0,0)):=by
   rw[kp6,mgx_h0]
  have m4:=(mE.mono (T:=fun i=>i=p6) (fun _ _ h=>h.elim)).trans mS;have HA:=Hi (TkA.modN HA0.out (by omega) HA.out m4);have HM:=Hi (HM.out.then m4 (fun i hi e=>by omega));clear hr mE mS m4;go_upto_region 10 with fail;have hB:=tbyte_c wc HA.out;refine region_seq 5 rfl ?_;simp only[List.range,List.range.loop];refine Zq ?_;refine ZC hB ?hout (fun vn wn hR=> ?hret) (fun ch wn hR=> ?hpan)
  case hout=>exact fun w' h=>h.noOut
  case hpan=>exact hR.noPan.elim
  case hret=>
  obtain⟨v9,b1,k9,e9,hv9,rfl,hT,hA,hm⟩:=hR;cases hv9;have HI2:=Hi (HI.out.step hT (NE.byte _ _));have HA:=Hi hA;have HM:=Hi (HM.out.then hm (fun i hi e=>by omega));replace kp2:=hm.at_ne kp2 h2p;replace kp6:=hm.at_ne kp6 h6p;clear hB hT hA hm HI;(try simp only[zL]);obtain⟨w4,rfl⟩:∃w4:World,w4=wn:=⟨_,rfl⟩
  iterate 2 refine Zq ?_
  refine ZT ?_;refine ZQ kp6 fun wn kp6 mS=> ?_;refine sq_nil ?_;replace kp6:wn.heap[p6]? =some (.cells (mgx z b0 b1 0 none 0 0 key0 none 0 0 none 0 0) 33 (0,0)):=by
   rw[kp6,mgx_h1]
  have HA:=Hi (TkA.modN HA0.out (by omega) HA.out mS);have HM:=Hi (HM.out.then mS (fun i hi e=>by omega));replace kp2:=mS.at_ne kp2 h26;clear mS;obtain⟨wc,rfl⟩:∃wc:World,wc=wn:=⟨_,rfl⟩;have HI:=HI2;clear HI2;go_upto_region 11 with fail;have hB:=tbyte_c wc HA.out;refine region_seq 5 rfl ?_;simp only[List.range,List.range.loop];refine Zq ?_;refine ZC hB ?hout (fun vn wn hR=> ?hret) (fun ch wn hR=> ?hpan)
  case hout=>exact fun w' h=>h.noOut
  case hpan=>exact hR.noPan.elim
  case hret=>
  obtain⟨v9,b2,k9,e9,hv9,rfl,hT,hA,hm⟩:=hR;cases hv9;have HI2:=Hi (HI.out.step hT (NE.byte _ _));have HA:=Hi hA;have HM:=Hi (HM.out.then hm (fun i hi e=>by omega));replace kp2:=hm.at_ne kp2 h2p;replace kp6:=hm.at_ne kp6 h6p;clear hB hT hA hm HI;(try simp only[zL]);obtain⟨w4,rfl⟩:∃w4:World,w4=wn:=⟨_,rfl⟩
  iterate 2 refine Zq ?_
  refine ZT ?_;refine ZQ kp6 fun wn kp6 mS=> ?_;refine sq_nil ?_;replace kp6:wn.heap[p6]? =some (.cells (mgx z b0 b1 b2 none 0 0 key0 none 0 0 none 0 0) 33 (0,0)):=by
   rw[kp6,mgx_h2]
  have HA:=Hi (TkA.modN HA0.out (by omega) HA.out mS);have HM:=Hi (HM.out.then mS (fun i hi e=>by omega));replace kp2:=mS.at_ne kp2 h26;clear mS;obtain⟨wc,rfl⟩:∃wc:World,wc=wn:=⟨_,rfl⟩;have HI:=HI2;clear HI2;go_wp2_with fail;go_at_call 140;refine(tshort_c _ HA.out).mono ?_;rintro en w5 ⟨v9,n,k5,e5,rfl,⟨rfl,hn5⟩,hT,hA,hm⟩;obtain⟨G,HG,HGF⟩:∃G,Hid (Inv (pMsg l 0) e5 (pBind (pMore [] (pRep (pKey l) (n-0) k5)) G))∧Hid (G=_):=by
   obtain⟨G,h1,h2⟩:=HI.out.nm;exact⟨G,Hi (h1.all0 hT),Hi h2⟩
  have HA:=Hi hA;have HM:=Hi (HM.out.then hm (fun i hi e=>by omega));replace kp2:=hm.at_ne kp2 h2p;replace kp6:=hm.at_ne kp6 h6p;clear hT hA hm HI;go_wp2_with fail;go_loopw [9] (fun s9 ws=>∃(i kk ee c1:Nat) (a1:Option Addr) (L:List Key),i≤n∧s9= .int .i64 (i:Int)∧Hid (L.length=i)∧Hid (SlOwn kc 32 82 ws w.heap.size (.slice a1 i c1) L)∧Hid (TkA p16 a l c kk ee ws)∧Hid (Mod (fun _=>False) w ws)∧Hid (Inv (pMsg l 0) ee (pBind (pMore L (pRep (pKey l) (n-i) kk)) G))∧ws.heap[p2]? =some (.cells zMsg 33 (0,0))∧ws.heap[p6]? =some (.cells (mgx z b0 b1 b2 a1 i c1 key0 none 0 0 none 0 0) 33 (0,0))) (fun s9 _=>n-(intOf s9).toNat)
  case atStart=>exact⟨0,k5,e5,0,none,[],by omega,rfl,Hi rfl,Hi (SlOwn.nil _ _),HA,HM,HG,kp2,kp6⟩
  case round=>
   obtain⟨i,kk,ee,c1,a1,L,hi,rfl,HLi,HO,HA,HM,HI,kp2,kp6⟩:=hrel;have kt:=HA.out.1;unfold tkC at kt;rw[HLL.out]at kt;go_upto_region 14 with fail;go_cut [57]from 48 to 66 (fun s57 wx=>∃z:Bool,s57= .bool z∧Hid (z=true↔(i<n∧ee=0))∧wx=wr)
   case first=>
    as_aux_lemma=>
    by_cases hlt:i<n
    ·have hd:=Dt hlt;by_cases he:ee=0
     ·have he0:((ee:Int)==0)=true:=by simpa using he
      go_wp2_with fail;go_meet
      case rel=>exact⟨true,rfl,Hi ⟨fun _=>⟨hlt,he⟩,fun _=>rfl⟩,rfl⟩
     ·have he0:((ee:Int)==0)=false:=by simpa using he
      go_wp2_with fail;go_meet
      case rel=>exact⟨false,rfl,Hi ⟨fun h=>(by cases h),fun h=>absurd h.2 he⟩,rfl⟩
    ·have hd:=Df hlt;go_wp2_with fail;go_meet
     case rel=>exact⟨false,rfl,Hi ⟨fun h=>(by cases h),fun h=>absurd h.1 hlt⟩,rfl⟩
   case rest=>
   obtain⟨zz,rfl,HZZ,rfl⟩:=hcut;cases zz with
   |true=>
    as_aux_lemma=>
    obtain⟨hlt,rfl⟩:=HZZ.out.1 rfl;clear HZZ;rw[←HLL.out]at kt;go_upto_region 16 with fail;have Lkp6:=Ls kp6;refine wp_epass (T0:=fun i=>i=p16) (K:=fun T w=>T p16∧w.heap[p16]? =some (.cells (tkC a l.length c kk 0) 222 (0,0))) (κ:=fun i=>[0,0,0,6,3,6,0,6].getD i 0) (υ:=fun _=>[]) [0,1,2,3,4] [5,6,7] (by kernel_rfl) (by kernel_rfl) (Good.at p16 (.cells (tkC a l.length c kk 0) 222 (0,0))).cl (⟨rfl,kt⟩) (fun i hi=>by subst hi;exact Ls kt) ?_;have gK:=Good.at p16 (.cells (tkC a l.length c kk 0) 222 (0,0));refine Zg ?_;(refine TG.load (v:= ?v33) (p:= ?p33) (by simp only[zK];rfl) rfl (by rfl) rfl ?hx33 (fun wq hSq=> ?y33) ?n33;(case hx33=>simp only[zM];try rfl);(case y33=>(have kp6q:=hSq.at kp6 (by intro hT;first|exact hT|exact absurd hT (by assumption)|omega|(simp only at hT;omega));go_simp;(try with_reducible rfl)));try simp only[zL]);refine Zg ?_;(refine TG.callK (f:= ?f35) (args:= ?r35) (TkLd p16 a l c kk) (goodTkLd p16 a l c kk) (by simp only[zK];rfl) rfl (by rfl) (fun w1=> ?y35) (fun T wq kq ltq hSq ub=> ?hsp35) ?n35;(case y35=>(go_simp;(first|with_reducible rfl|(constructor<;>with_reducible rfl))));(case hsp35=>(have kp6q:=hSq.at kp6 (by intro hT;first|exact hT|exact absurd hT (by assumption)|omega|(simp only at hT;omega));exact keyL ⟨kq.2,HA.out.2.1.modB hSq HA.out.2.2.2.2.2.1,HA.out.2.2⟩ kq.1));rintro v35 ⟨wI,TI,hI⟩;replace gK:=(goodTkLd p16 a l c kk) v35;(obtain⟨x,_,_,rfl,_⟩:=hI.k);(try clear hI TI wI);try simp only[zL]);(refine TG.bslice (by simp only[zK];rfl) rfl (by rfl) rfl rfl ?hx36 (bsKeyR x) (fun p64 hp64 _=> ?n36);(case hx36=>(simp only[List.map_toArray,List.map_cons,List.map_nil,zM];(try rfl)));try simp only[zL]);refine TG.nil (fun w7 ⟨TR,hr⟩=> ?_);replace kp6:=hr.mod.at kp6 (by intro hT;first|exact hT|exact absurd hT (by assumption)|omega|(simp only at hT;omega));obtain⟨gp64,nTp64,kp64⟩:=hr.b p64;clear gK;obtain⟨x2,k',e',hx2,hTk,hle,hT16,kt2⟩:=hr.k;obtain rfl:x=x2:=kc_inj (by injection hx2);have m7:=hr.mod;have hO7:=HO.out.mod m7 (own_ne HO.out HA.out.1 (by decide));have hLi:=HLi.out;have hM7:=HM.out.then m7 (fun i hi e=>by omega);obtain⟨v8,w8,hap,hO8,m8,hn8⟩:=SlOwn.append keysT (q:=[x]) (c:=1) hO7 (SlAt.one kp64 x rfl (kc_size _)) (by simp only[List.length_singleton];omega) (by decide) hM7.size 27;obtain⟨a8,c8,rfl,-,-⟩:=hO8.at keysT;have hlen:(L++[x]).length=i+1:=by rw[List.length_append,hLi];rfl
    rw[hlen]at hap hO8;have hM8:=hM7.then m8 (fun j hj e=>by have:=(hO7.lt j e).1;omega);have kt8:=m8.at kt2 (fun e=>own_ne hO7 kt2 (by decide) _ e rfl);have HA8:Hid (TkA p16 a l c k' e' w8):=Hi ⟨kt8,HL.out.1.mod0 hM8,hle,HA.out.2.2.2⟩;have HM8:=Hi hM8;have HO8:=Hi (Ai hO8 hlen);replace kp2:=m8.at (m7.at_ne kp2 h2p) (fun e=>own_ne hO7 (m7.at_ne kp2 h2p) (by decide) _ e rfl);replace kp6:=m8.at kp6 (fun e=>own_ne hO7 kp6 (by decide) _ e rfl);have HI8:=Hi (HI.out.rep hlt hTk (NE.key _ _));have HN6:=Hi (own_ne HO8.out.1 kp6 (by decide));clear hr hTk m7 m8 hO7 hM7 hM8 hO8 hn8 hlen kt2 kt8 kt hx2 hT16 kp64 gp64 hLi;refine Zz ?_;refine ZA hap ?_;refine Ze ?_;refine Zz ?_;refine ZS ?_;refine ZN kp6 fun wn kp6 mS=> ?_;replace kp6:wn.heap[p6]? =some (.cells (mgx z b0 b1 b2 a8 (i+1) c8 key0 none 0 0 none 0 0) 33 (0,0)):=by
     rw[kp6,mgx_ks]
    have HA9:=Hi (TkA.modN HA0.out (by omega) HA8.out mS);have HM9:=Hi (HM8.out.then mS (fun i hi e=>by omega));have HO9:=Hi (HO8.out.1.mod mS HN6.out);replace kp2:=mS.at_ne kp2 h26;clear mS;go_wp2_with fail;go_roundw
    case rel=>exact⟨i+1,k',e',c8,a8,L++[x],by omega,by go_num,Hi HO8.out.2,HO9,HA9,HM9,HI8,kp2,kp6⟩
    case measure=>simp[intOf];omega
   |false=>
    have hdn:=HI.out.done (by
     by_cases h0:ee=0
     ·exact .inl (by have:=mt (fun h=>HZZ.out.2 ⟨h,h0⟩) (by simp:¬(false=true));omega)
     ·exact .inr h0)
    rw[HGF.out]at hdn;have HI2:=Hi hdn;clear hdn HI HG HGF HZZ kt;have HKS:=Hi (Ai HLi.out HO.out);obtain⟨nk,hnk⟩:∃nk,i=nk:=⟨_,rfl⟩;subst hnk;clear HO HLi hi;go_upto_region 17 with fail;have hB:=tkey_c _ HA.out;refine region_seq 4 rfl ?_;simp only[List.range,List.range.loop];refine Zq ?_;refine ZC hB ?hout (fun vn wn hR=> ?hret) (fun ch wn hR=> ?hpan)
    case hout=>exact fun w' h=>h.noOut
    case hpan=>exact hR.noPan.elim
    case hret=>
    obtain⟨v9,rc,k6,e6,hv9,rfl,hT,hA,hm⟩:=hR;cases hv9;have HI:=Hi (HI2.out.step hT (NE.key _ _));have HKS1:=Hi (Ai HKS.out.1 (HKS.out.2.mod hm (own_ne HKS.out.2 HA.out.1 (by decide))));have HA:=Hi hA;have HM:=Hi (HM.out.then hm (fun i hi e=>by omega));replace kp2:=hm.at_ne kp2 h2p;replace kp6:=hm.at_ne kp6 h6p;clear hB hT hA hm HI2 HKS;(try simp only[zL]);obtain⟨w4,rfl⟩:∃w4:World,w4=wn:=⟨_,rfl⟩;have HN6:=Hi (own_ne HKS1.out.2 kp6 (by decide));refine Zq ?_;refine ZT ?_;refine ZQ kp6 fun wn kp6 mS=> ?_;refine sq_nil ?_;replace kp6:wn.heap[p6]? =some (.cells (mgx z b0 b1 b2 a1 i c1 rc none 0 0 none 0 0) 33 (0,0)):=by
     rw[kp6]
     first|rw[mgx_rc]|simp[mgx_rc]
    have HML:Hid (MsgL w.heap.size wn (mkR z b0 b1 b2 ⟨a1,L,c1⟩ rc ⟨none,[],0⟩ ⟨none,[],0⟩)):=Hi ⟨by
     rw[show(mkR z b0 b1 b2 ⟨a1,L,c1⟩ rc ⟨none,[],0⟩ ⟨none,[],0⟩).ks=⟨a1,L,c1⟩from rfl];simp only;rw[HKS1.out.1];exact HKS1.out.2.mod mS HN6.out,⟨SlOwn.nil _ _,fun _ h=>(by cases h)⟩,SlOwn.nil _ _,fun _ h=>(by cases h)⟩
    have HLk:=Hi HKS1.out.1;have HA:=Hi (TkA.modN HA0.out (by omega) HA.out mS);have HM:=Hi (HM.out.then mS (fun i hi e=>by omega));replace kp2:=mS.at_ne kp2 h26;clear mS HN6 HKS1;obtain⟨w5,rfl⟩:∃w5:World,w5=wn:=⟨_,rfl⟩;go_wp2_with fail;go_at_call 140;refine(tshort_c _ HA.out).mono ?_;rintro en w6 ⟨v9,n2,k7,e7,rfl,⟨rfl,hn7⟩,hT,hA,hm⟩;obtain⟨G,HG,HGF⟩:∃G,Hid (Inv (pMsg l 0) e7 (pBind (pMore [] (pRep (pInstr l) (n2-0) k7)) G))∧Hid (G=_):=by
     obtain⟨G,h1,h2⟩:=HI.out.nm;exact⟨G,Hi (h1.all0 hT),Hi h2⟩
    have HML:=Hi (HML.out.mod hm (fun g C E hk hE h=>two_ne HA.out.1 kp6 g C E hk hE (.inl h)));have HA:=Hi hA;have HM:=Hi (HM.out.then hm (fun i hi e=>by omega));replace kp2:=hm.at_ne kp2 h2p;replace kp6:=hm.at_ne kp6 h6p;clear hT hA hm HI;go_wp2_with fail;go_loopw [10] (fun s10 ws=>∃(i2 kk ee c2:Nat) (a2:Option Addr) (L2:List InR),i2≤n2∧s10= .int .i64 (i2:Int)∧Hid (L2.length=i2)∧Hid (MsgL w.heap.size ws (mkR z b0 b1 b2 ⟨a1,L,c1⟩ rc ⟨a2,L2,c2⟩ ⟨none,[],0⟩))∧Hid (TkA p16 a l c kk ee ws)∧Hid (Mod (fun _=>False) w ws)∧Hid (Inv (pMsg l 0) ee (pBind (pMore (L2.map inP) (pRep (pInstr l) (n2-i2) kk)) G))∧ws.heap[p2]? =some (.cells zMsg 33 (0,0))∧ws.heap[p6]? =some (.cells (mgx z b0 b1 b2 a1 i c1 rc a2 i2 c2 none 0 0) 33 (0,0))) (fun s10 _=>n2-(intOf s10).toNat)
    case atStart=>exact⟨0,k7,e7,0,none,[],by omega,rfl,Hi rfl,HML,HA,HM,HG,kp2,kp6⟩
    case round=>
     obtain⟨i2,kk,ee,c2,a2,L2,hi,rfl,HLi,HML,HA,HM,HI,kp2,kp6⟩:=hrel;have kt:=HA.out.1;unfold tkC at kt;rw[HLL.out]at kt;go_upto_region 20 with fail;go_cut [81]from 72 to 102 (fun s81 wx=>∃z:Bool,s81= .bool z∧Hid (z=true↔(i2<n2∧ee=0))∧wx=wr)
     case first=>
      as_aux_lemma=>
      by_cases hlt:i2<n2
      ·have hd:=Dt hlt;by_cases he:ee=0
       ·have he0:((ee:Int)==0)=true:=by simpa using he
        go_wp2_with fail;go_meet
        case rel=>exact⟨true,rfl,Hi ⟨fun _=>⟨hlt,he⟩,fun _=>rfl⟩,rfl⟩
       ·have he0:((ee:Int)==0)=false:=by simpa using he
        go_wp2_with fail;go_meet
        case rel=>exact⟨false,rfl,Hi ⟨fun h=>(by cases h),fun h=>absurd h.2 he⟩,rfl⟩
      ·have hd:=Df hlt;go_wp2_with fail;go_meet
       case rel=>exact⟨false,rfl,Hi ⟨fun h=>(by cases h),fun h=>absurd h.1 hlt⟩,rfl⟩
     case rest=>
     obtain⟨zz,rfl,HZZ,rfl⟩:=hcut;cases zz with
     |true=>
      as_aux_lemma=>
      obtain⟨hlt,rfl⟩:=HZZ.out.1 rfl;clear HZZ kt;have HTW:=Hi (two_ne HA.out.1 kp6);go_upto_region 22 with fail;have hB:=tbyte_c _ HA.out;refine region_seq 5 rfl ?_;simp only[List.range,List.range.loop];refine Zq ?_;refine ZC hB ?hout (fun vn wn hR=> ?hret) (fun ch wn hR=> ?hpan)
      case hout=>exact fun w' h=>h.noOut
      case hpan=>exact hR.noPan.elim
      case hret=>
      obtain⟨v9,q,k8,e8,hv9,rfl,hT,hA,hm⟩:=hR;cases hv9;have HT1:=Hi hT;have HA:=Hi hA;have HW:=Hi (hm.mono (T:=fun i=>i=p16∨i=p6) (fun i _ h=> .inl h));replace kp2:=hm.at_ne kp2 h2p;replace kp6:=hm.at_ne kp6 h6p;clear hB hT hA hm;(try simp only[zL]);obtain⟨w7,rfl⟩:∃w7:World,w7=wn:=⟨_,rfl⟩;have hb:=bInI q;(refine sq_bldS (by simp only[zK];rfl) (by rfl) rfl ?hx46 (hb _) ?n46;(case hx46=>(simp only[List.map_toArray,List.map_cons,List.map_nil,zM];(try rfl)));try simp only[zL]);(refine sq_alloc (by simp only[zK];rfl) (by rfl) rfl alIn (fun p11 wn gp11 kp11 mp11=> ?n47);try simp only[zL]);refine ZT ?_;refine ZQ kp11 fun wn kp11 mS=> ?_;refine sq_nil ?_;replace kp11:wn.heap[p11]? =some (.cells (inr ⟨q,⟨none,[],0⟩,⟨none,[],0⟩⟩) 125 (0,0)):=kp11;have hz6:=Ls kp6;have hz2:=Ls kp2;have hz16:=Ls HA.out.1;have hne:p2≠p11∧p6≠p11∧p16≠p11:=by omega
      have hz11r:=Nat.le_trans HW.out.size (Nat.le_of_eq gp11);have hz11:w.heap.size≤p11:=by have:=HM.out.size;have:=HW.out.size;omega
      have HW:=Hi ((HW.out.then0 mp11).then mS (fun i hi e=>by have:=HW.out.size;omega));have HA:=Hi ((HA.out.mod0 mp11).modQ mS hne.2.2 (fun x e=>by have:=HL.out.2.2.2.2 x e;omega));replace kp2:=mS.at_ne (mp11.at0 kp2) hne.1;replace kp6:=mS.at_ne (mp11.at0 kp6) hne.2.1;clear mS mp11 gp11 hb hz6 hz2 hz16;obtain⟨w8,rfl⟩:∃w8:World,w8=wn:=⟨_,rfl⟩;go_upto_region 23 with fail;have hB:=tshort_c _ HA.out;refine region_seq 6 rfl ?_;simp only[List.range,List.range.loop]
      iterate 2 refine Zq ?_
      refine ZC hB ?hout (fun vn wn hR=> ?hret) (fun ch wn hR=> ?hpan)
      case hout=>exact fun w' h=>h.noOut
      case hpan=>exact hR.noPan.elim
      case hret=>
      obtain⟨v9,nn,k9,e9,hv9,⟨rfl,hnb⟩,hT,hA,hm⟩:=hR;cases hv9;have HTs:=Hi hT;have HWa:=Hi (HW.out.trans (hm.mono (T:=fun i=>i=p16∨i=p6) (fun i _ h=> .inl h)));have hyt:∀g C,w8.heap[g]? =some (.cells C 5 (0,0))→¬g=p16:=fun g C hg=>ty_ne HA.out.1 hg (by decide);skip;replace kp2:=hm.at_ne kp2 h2p;replace kp6:=hm.at_ne kp6 h6p;replace kp11:=hm.at_ne kp11 hne.2.2.symm;have HAa:=Hi hA;clear hB hT hA hm hyt;(try simp only[zL]);have hB:=tbytes_c nn _ HAa.out (by omega);obtain⟨w7,rfl⟩:∃w7:World,w7=wn:=⟨_,rfl⟩;refine ZC hB ?hout (fun vn wn hR=> ?hret) (fun ch wn hR=> ?hpan)
      case hout=>exact fun w' h=>h.noOut
      case hpan=>exact hR.noPan.elim
      case hret=>
      obtain⟨v9,x1,k8,e8,hv9,⟨hO,hx⟩,hT,hA,hm⟩:=hR;cases hv9;have HT2:=Hi (HTs.out.list hT);obtain⟨ax1,cx1,rfl,-,-⟩:=hO.at bytesT;have hwb:w.heap.size≤w7.heap.size:=by have:=HM.out.size;have:=HWa.out.size;omega
      have HY1:=Hi (YAt.of hO hwb);have HWb:=Hi (HWa.out.trans (hm.mono (T:=fun i=>i=p16∨i=p6) (fun i _ h=> .inl h)));have hyt:∀g C,w7.heap[g]? =some (.cells C 5 (0,0))→¬g=p16:=fun g C hg=>ty_ne HAa.out.1 hg (by decide);skip;replace kp2:=hm.at_ne kp2 h2p;replace kp6:=hm.at_ne kp6 h6p;replace kp11:=hm.at_ne kp11 hne.2.2.symm;have HAb:=Hi hA;have hk11:=kp11;clear hB hT hA hm hyt hO hx HTs HWa HAa HW HA;(try simp only[zL]);obtain⟨w9,rfl⟩:∃w9:World,w9=wn:=⟨_,rfl⟩;have H11:=Hi kp11;refine Zq ?_;refine ZT ?_;refine ZQ kp11 fun wn kp11 mS=> ?_;refine sq_nil ?_;replace kp11:wn.heap[p11]? =some (.cells (inr ⟨q,⟨ax1,x1,cx1⟩,⟨none,[],0⟩⟩) 125 (0,0)):=by
       rw[kp11];exact congrArg _ (congrArg (fun z=>Obj.cells z 125 (0,0)) (inr_a _ _ _ rfl))
      have hyt:∀g C,w9.heap[g]? =some (.cells C 5 (0,0))→¬g=p11:=fun g C hg=>ty_ne H11.out hg (by decide);have HY1:=Hi (HY1.out.mod mS hyt);skip;have HW:=Hi (HWb.out.then mS (fun i hi e=>by omega));have HA:=Hi (HAb.out.modQ mS hne.2.2 (fun x e=>by have:=HL.out.2.2.2.2 x e;omega));replace kp2:=mS.at_ne kp2 hne.1;replace kp6:=mS.at_ne kp6 hne.2.1;clear mS hyt H11 HWb HAb hk11;obtain⟨w8,rfl⟩:∃w8:World,w8=wn:=⟨_,rfl⟩;go_upto_region 24 with fail;have hB:=tshort_c _ HA.out;refine region_seq 6 rfl ?_;simp only[List.range,List.range.loop]
      iterate 2 refine Zq ?_
      refine ZC hB ?hout (fun vn wn hR=> ?hret) (fun ch wn hR=> ?hpan)
      case hout=>exact fun w' h=>h.noOut
      case hpan=>exact hR.noPan.elim
      case hret=>
      obtain⟨v9,nn,k9,e9,hv9,⟨rfl,hnb⟩,hT,hA,hm⟩:=hR;cases hv9;have HTs:=Hi hT;have HWa:=Hi (HW.out.trans (hm.mono (T:=fun i=>i=p16∨i=p6) (fun i _ h=> .inl h)));have hyt:∀g C,w8.heap[g]? =some (.cells C 5 (0,0))→¬g=p16:=fun g C hg=>ty_ne HA.out.1 hg (by decide);have HY1:=Hi (HY1.out.mod hm hyt);replace kp2:=hm.at_ne kp2 h2p;replace kp6:=hm.at_ne kp6 h6p;replace kp11:=hm.at_ne kp11 hne.2.2.symm;have HAa:=Hi hA;clear hB hT hA hm hyt;(try simp only[zL]);have hB:=tbytes_c nn _ HAa.out (by omega);obtain⟨w7,rfl⟩:∃w7:World,w7=wn:=⟨_,rfl⟩;refine ZC hB ?hout (fun vn wn hR=> ?hret) (fun ch wn hR=> ?hpan)
      case hout=>exact fun w' h=>h.noOut
      case hpan=>exact hR.noPan.elim
      case hret=>
      obtain⟨v9,x2,k8,e8,hv9,⟨hO,hx⟩,hT,hA,hm⟩:=hR;cases hv9;have HT3:=Hi (HTs.out.list hT);obtain⟨ax2,cx2,rfl,-,-⟩:=hO.at bytesT;have hwb:w.heap.size≤w7.heap.size:=by have:=HM.out.size;have:=HWa.out.size;omega
      have HY2:=Hi (YAt.of hO hwb);have HWb:=Hi (HWa.out.trans (hm.mono (T:=fun i=>i=p16∨i=p6) (fun i _ h=> .inl h)));have hyt:∀g C,w7.heap[g]? =some (.cells C 5 (0,0))→¬g=p16:=fun g C hg=>ty_ne HAa.out.1 hg (by decide);have HY1:=Hi (HY1.out.mod hm hyt);replace kp2:=hm.at_ne kp2 h2p;replace kp6:=hm.at_ne kp6 h6p;replace kp11:=hm.at_ne kp11 hne.2.2.symm;have HAb:=Hi hA;have hk11:=kp11;clear hB hT hA hm hyt hO hx HTs HWa HAa HW HA;(try simp only[zL]);obtain⟨w9,rfl⟩:∃w9:World,w9=wn:=⟨_,rfl⟩;have H11:=Hi kp11;refine Zq ?_;refine ZT ?_;refine ZQ kp11 fun wn kp11 mS=> ?_;refine sq_nil ?_;replace kp11:wn.heap[p11]? =some (.cells (inr ⟨q,⟨ax1,x1,cx1⟩,⟨ax2,x2,cx2⟩⟩) 125 (0,0)):=by
       rw[kp11];exact congrArg _ (congrArg (fun z=>Obj.cells z 125 (0,0)) (inr_d _ _ _ rfl))
      have hyt:∀g C,w9.heap[g]? =some (.cells C 5 (0,0))→¬g=p11:=fun g C hg=>ty_ne H11.out hg (by decide);have HY2:=Hi (HY2.out.mod mS hyt);have HY1:=Hi (HY1.out.mod mS hyt);have HW:=Hi (HWb.out.then mS (fun i hi e=>by omega));have HA:=Hi (HAb.out.modQ mS hne.2.2 (fun x e=>by have:=HL.out.2.2.2.2 x e;omega));replace kp2:=mS.at_ne kp2 hne.1;replace kp6:=mS.at_ne kp6 hne.2.1;clear mS hyt H11 HWb HAb hk11;obtain⟨w8,rfl⟩:∃w8:World,w8=wn:=⟨_,rfl⟩;have HTA:Hid (Tk 0 (pInstr l kk) ⟨q,x1,x2⟩ k8 e8):=Hi (by
       rw[pInstr_bind];exact HT1.out.bind (NE.byte _ _) (HT2.out.bind (NE.list _ _) (HT3.out.bind (NE.list _ _) Tk.pure)))
      clear HT1 HT2 HT3;obtain⟨r,hr⟩:∃r:InR,r=⟨q,⟨ax1,x1,cx1⟩,⟨ax2,x2,cx2⟩⟩:=⟨_,rfl⟩;rw[←hr]at kp11;have HRR:=Hi hr;clear hr;have hbs:=bsInR r;go_upto_region 25 with fail;refine region_seq 7 rfl ?_;simp only[List.range,List.range.loop];refine Zq ?_;refine Zr ?_;refine Zr ?_;(refine sq_new (by simp only[zK];rfl) (by rfl) rfl ?hx64 (hbs _) (fun q100 wn gq100 kq100 mq100=> ?n64);(case hx64=>(simp only[List.map_toArray,List.map_cons,List.map_nil,zM];(try rfl)));try simp only[zL]);have hLi:=HLi.out;have hML:=HML.out.mod (HW.out.then0 mq100) HTW.out;have hO2:SlOwn inr 3 125 wn w.heap.size (.slice a2 L2.length c2) L2:=hML.2.1.1;have hMq:=(HM.out.then HW.out (fun i hi e=>by omega)).then0 mq100;obtain⟨v8,w8',hap,hO8,m8,hn8⟩:=SlOwn.append instrT (q:=[r]) (c:=1) hO2 (SlAt.one kq100 r rfl (inr_sz r)) (by show L2.length+_≤_;simp only[List.length_singleton];omega) (by decide) hMq.size 30;obtain⟨a8,c8,rfl,-,-⟩:=hO8.at instrT;have hlen:(L2++[r]).length=i2+1:=by rw[List.length_append,hLi];rfl
      have hlo:=hO2.lt;have hy8:∀g C,wn.heap[g]? =some (.cells C 5 (0,0))→¬(Value.slice a2 L2.length c2).ownBlock=some g:=fun g C hg=>own_ty (C:=C) hO2 hg (by decide);have hML8:MsgL w.heap.size w8' (mkR z b0 b1 b2 ⟨a1,L,c1⟩ rc ⟨a8,L2++[r],c8⟩ ⟨none,[],0⟩):=by
       refine⟨hML.1.mod m8 (fun g hg=>by obtain⟨C,hk⟩:=own_blk2 hML.1 g hg;exact own_ty hO2 hk (by decide)),⟨hO8,fun j hj=> ?_⟩,SlOwn.nil _ _,fun _ h=>(by cases h)⟩;rcases List.mem_append.1 hj with hj|hj
       ·exact⟨(hML.2.1.2 j hj).1.mod m8 hy8,(hML.2.1.2 j hj).2.mod m8 hy8⟩
       ·rw[List.mem_singleton]at hj;subst hj;rw[HRR.out];exact⟨(HY1.out.mod mq100 (fun _ _ _ h=>h)).mod m8 hy8,(HY2.out.mod mq100 (fun _ _ _ h=>h)).mod m8 hy8⟩
      have hM8:=hMq.then m8 (fun j hj e=>by have:=(hlo j e).1;omega);have hA8:TkA p16 a l c k8 e8 w8':=by
       have h1:=HA.out.mod0 mq100;exact⟨m8.at h1.1 (fun e=>own_ne hO2 h1.1 (by decide) _ e rfl),HL.out.1.mod0 hM8,h1.2.2⟩
      replace kp2:=m8.at (mq100.at0 kp2) (fun e=>own_ne hO2 (mq100.at0 kp2) (by decide) _ e rfl);replace kp6:=m8.at (mq100.at0 kp6) (fun e=>own_ne hO2 (mq100.at0 kp6) (by decide) _ e rfl);have HI8:Hid (Inv (pMsg l 0) e8 (pBind (pMore ((L2++[r]).map inP) (pRep (pInstr l) (n2-(i2+1)) k8)) G)):=Hi (by
       have h1:=HI.out.rep hlt HTA.out (NE.instr _ _);rw[List.map_append,HRR.out];exact h1)
      have HTW8:=Hi (two_ne hA8.1 kp6);have HF:=Hi (Ai hML8 (Ai hM8 (Ai hA8 hlen)));have hap2:(Builtin.append_ #[30,30] 30 #[.slice a2 i2 c2,.slice (some ⟨q100,0,none⟩) 1 1]).run Tryz.prog wn= .ok (.slice a8 (i2+1) c8) w8':=by
       have h1:=hap;rw[hlen,hLi]at h1;exact h1
      clear hap hML hO2 hMq hO8 m8 hn8 hlen hlo hy8 hML8 hM8 hA8 hLi mq100 kq100 gq100 hbs;(refine sq_append (by simp only[zK];rfl) (by rfl) rfl ?hx65 ?hz65 hap2 ?n65;(case hx65=>simp only[zM];try rfl);(case hz65=>simp only[zM];try rfl);try simp only[zL]);refine Zq ?_;refine ZT ?_;refine ZQ kp6 fun wn kp6 mS=> ?_;refine sq_nil ?_;replace kp6:wn.heap[p6]? =some (.cells (mgx z b0 b1 b2 a1 i c1 rc a8 (i2+1) c8 none 0 0) 33 (0,0)):=by
       rw[kp6,mgx_ins]
      have HA9:=Hi (HF.out.2.2.1.modQ mS h6p.symm (fun x e=>by have:=HL.out.2.2.2.2 x e;omega));have HM9:=Hi (HF.out.2.1.then mS (fun i hi e=>by omega));have HML9:=Hi (HF.out.1.mod mS (fun g C E hk hE h=>HTW8.out g C E hk hE (.inr h)));replace kp2:=mS.at_ne kp2 h26;have HL9:=Hi HF.out.2.2.2;clear mS;go_wp2_with fail;go_roundw
      case rel=>exact⟨i2+1,k8,e8,c8,a8,L2++[r],by omega,by go_num,HL9,HML9,HA9,HM9,HI8,kp2,kp6⟩
      case measure=>simp[intOf];omega
     |false=>
      have hdn:=HI.out.done (by
       by_cases h0:ee=0
       ·exact .inl (by have:=mt (fun h=>HZZ.out.2 ⟨h,h0⟩) (by simp:¬(false=true));omega)
       ·exact .inr h0)
      rw[HGF.out]at hdn;have HI2:=Hi hdn;have HLj:=Hi HLi.out;clear hdn HI HG HGF HZZ HLi;cases z with
      |false=>
       have HI3:Hid (Inv (pMsg l 0) ee (.ok (⟨false,b0,b1,b2,L,rc,L2.map inP,[]⟩,kk))):=Hi (by
        have h1:=HI2.out;dsimp only at h1;rw[if_neg (of_decide_eq_false HZ.out),HZ.out]at h1;exact h1)
       have HMS:Hid (mgx false b0 b1 b2 a1 i c1 rc a2 i2 c2 none 0 0=msr (mkR false b0 b1 b2 ⟨a1,L,c1⟩ rc ⟨a2,L2,c2⟩ ⟨none,[],0⟩)):=Hi (msr_mk HLk.out HLj.out rfl);go_upto_region 35 with fail;by_cases he:ee=0
       ·subst he;have hne:((0:Int) !=0)=false:=rfl;have HE:Hid (pMsg l 0=_):=Hi (HI3.out.1 rfl);have HKL:=Hi HA.out.2.2.1;have nW:¬(fun i=>i=p2) p16:=by simp only;omega
        have nW6:¬(fun i=>i=p2) p6:=by simp only;omega
        obtain⟨X,hX⟩:∃X,mgx false b0 b1 b2 a1 i c1 rc a2 i2 c2 none 0 0=X:=⟨_,rfl⟩;have hXs:X.size=39:=by rw[←hX,mgx_size]
        have hXe:X.extract 0 39=X:=by rw[←hX,mgx_ext]
        have hXo:X.all (·.oneCell')=true:=by rw[←hX];exact mgx_one ..
        have HX:=Hi hX;have HXO:=Hi (Ai hXs hXo);rw[hX]at kp6;clear hX hXo;have hld:∀w',w'.heap[p6]? =some (.cells X 33 (0,0))→(Instr.loadAt 33 (.pointer (some ⟨p6,0,none⟩))).run Tryz.prog w'= .ok (.agg X) w':=fun w' h=>by rw[ldMsg,h];simp[hXs,hXe]
        have HLD:=Hi hld;clear hld hXs hXe;go_upto_region 37 with fail;have Lkt:=Ls kt;have Lkp6:=Ls kp6;refine wp_gpass (T0:=fun i=>i=p2) (K:=fun T w=>T p2∧w.heap[p2]? =some (.cells zMsg 33 (0,0))) (κ:=fun i=>[0,0,0,0,0,6,0,0].getD i 0) (υ:=fun _=>[]) [0,1,2,3,4,5,6,7] (by kernel_rfl) (by kernel_rfl) (Good.at p2 (.cells zMsg 33 (0,0))).cl (⟨rfl,kp2⟩) (fun i hi=>by subst hi;exact Ls kp2) ?_;have gK:=Good.at p2 (.cells zMsg 33 (0,0));(refine TG.load (v:= ?v68) (p:= ?p68) (by simp only[zK];rfl) rfl (by rfl) rfl ?hx68 (fun wq hSq=> ?y68) ?n68;(case hx68=>simp only[zM];try rfl);(case y68=>(have ktq:=hSq.at kt (by intro hT;first|exact hT|exact absurd hT (by assumption)|omega|(simp only at hT;omega));have kp6q:=hSq.at kp6 (by intro hT;first|exact hT|exact absurd hT (by assumption)|omega|(simp only at hT;omega));exact HLD.out _ kp6q));try simp only[zL])
        iterate 3 refine Zg ?_
        (refine TG.load (v:= ?v72) (p:= ?p72) (by simp only[zK];rfl) rfl (by rfl) rfl ?hx72 (fun wq hSq=> ?y72) ?n72;(case hx72=>simp only[zM];try rfl);(case y72=>(have ktq:=hSq.at kt (by intro hT;first|exact hT|exact absurd hT (by assumption)|omega|(simp only at hT;omega));have kp6q:=hSq.at kp6 (by intro hT;first|exact hT|exact absurd hT (by assumption)|omega|(simp only at hT;omega));go_simp;(try with_reducible rfl)));try simp only[zL]);(refine TG.storeO (X:= ?X73) (Y:= ?Y73) (fun T w=>T p2∧w.heap[p2]? =some (.cells X 33 (0,0))) (Good.at p2 (.cells X 33 (0,0))) (by simp only[zK];rfl) rfl (by rfl) rfl rfl ?hx73 ?hz73 (fun T wq kq=> ?y73) (fun _=> ?n73);(case hx73=>simp only[zM];try rfl);(case hz73=>simp only[zM];try rfl);(case y73=>(obtain⟨k1,k2⟩:=kq;refine⟨setBlock wq p2 (.cells X 33 (0,0)),?_,(mod_set wq p2 _).mono (fun i _ e=>by rw[e];exact k1),k1,heap_setBlock wq _ (Ls k2)⟩;exact run_store_box k2 (by rw[HXO.out.1];kernel_rfl) (by rw[HXO.out.1,zMsg_size]) HXO.out.2));replace gK:=(Good.at p2 (.cells X 33 (0,0)));try simp only[zL])
        iterate 2 refine Zg ?_
        refine TG.nil (fun w9 ⟨TR,hr⟩=> ?_);replace kt:=hr.mod.at kt (by intro hT;first|exact hT|exact absurd hT (by assumption)|omega|(simp only at hT;omega));replace kp6:=hr.mod.at kp6 (by intro hT;first|exact hT|exact absurd hT (by assumption)|omega|(simp only at hT;omega));clear gK;have HF:Hid (w9.heap[p2]? =some (.cells X 33 (0,0))∧Mod (fun _=>False) w w9):=Hi ⟨hr.k.2,HM.out.then hr.mod (fun i hi e=>by omega)⟩;have HMF:=Hi (HML.out.mod hr.mod (fun g C E hk hE e=>ty_ne kp2 hk (by rcases hE with rfl|rfl|rfl|rfl<;>decide) e));clear hr kp2;go_wp2_with fail;refine bodyPost_ret (results_ctt rfl rfl (v1:= .agg X) (by rw[←HX.out];exact ldMgx (by rw[HX.out];exact HF.out.1))) rfl ?_;unfold RgetP;rw[HE.out];refine⟨HF.out.2,_,?_,HMF.out,rfl⟩;show Ending.returned (.tuple #[.agg X,i64n kk,i64n 0])=_;rw[←HX.out,HMS.out]
       ·have hne:((ee:Int) !=0)=true:=by simpa using he
        have HE:Hid (pMsg l 0= .error ee):=Hi (HI3.out.2 he);have nW:¬(fun i=>i=p2) p16:=by simp only;omega
        have hb:=bMsg0;go_upto_region 36 with fail;have Lkt:=Ls kt;refine wp_gpass (T0:=fun i=>i=p2) (K:=fun T w=>T p2∧w.heap[p2]? =some (.cells zMsg 33 (0,0))) (κ:=fun i=>[0,0,0,0,0,6,0,0].getD i 0) (υ:=fun _=>[]) [0,1,2,3,4,5,6,7] (by kernel_rfl) (by kernel_rfl) (Good.at p2 (.cells zMsg 33 (0,0))).cl (⟨rfl,kp2⟩) (fun i hi=>by subst hi;exact Ls kp2) ?_;have gK:=Good.at p2 (.cells zMsg 33 (0,0));(refine TG.build (v:= ?v76) (ps:= ?p76) (by simp only[zK];rfl) rfl (by rfl) rfl ?hx76 (fun w1=> ?y76) ?n76;(case hx76=>(simp only[List.map_toArray,List.map_cons,List.map_nil,zM];(try rfl)));(case y76=>(rw[hb];(try with_reducible rfl)));try simp only[zL])
        iterate 3 refine Zg ?_
        (refine TG.load (v:= ?v80) (p:= ?p80) (by simp only[zK];rfl) rfl (by rfl) rfl ?hx80 (fun wq hSq=> ?y80) ?n80;(case hx80=>simp only[zM];try rfl);(case y80=>(have ktq:=hSq.at kt (by intro hT;first|exact hT|exact absurd hT (by assumption)|omega|(simp only at hT;omega));go_simp;(try with_reducible rfl)));try simp only[zL]);(refine TG.storeO (X:= ?X81) (Y:= ?Y81) (fun T w=>T p2∧w.heap[p2]? =some (.cells zMsg 33 (0,0))) (Good.at p2 (.cells zMsg 33 (0,0))) (by simp only[zK];rfl) rfl (by rfl) rfl rfl ?hx81 ?hz81 (fun T wq kq=> ?y81) (fun _=> ?n81);(case hx81=>simp only[zM];try rfl);(case hz81=>simp only[zM];try rfl);(case y81=>(obtain⟨k1,k2⟩:=kq;refine⟨setBlock wq p2 (.cells zMsg 33 (0,0)),?_,(mod_set wq p2 _).mono (fun i _ e=>by rw[e];exact k1),k1,heap_setBlock wq _ (Ls k2)⟩;exact run_store_box k2 (by kernel_rfl) rfl zMsg_all));replace gK:=(Good.at p2 (.cells zMsg 33 (0,0)));try simp only[zL])
        iterate 2 refine Zg ?_
        refine TG.nil (fun w9 ⟨TR,hr⟩=> ?_);replace kt:=hr.mod.at kt (by intro hT;first|exact hT|exact absurd hT (by assumption)|omega|(simp only at hT;omega));clear gK;have HF:Hid (w9.heap[p2]? =some (.cells zMsg 33 (0,0))∧Mod (fun _=>False) w w9):=Hi ⟨hr.k.2,HM.out.then hr.mod (fun i hi e=>by omega)⟩;clear hr kp2;go_wp2_with fail;refine bodyPost_ret (results_ctt rfl rfl (ldZM HF.out.1)) rfl ?_;unfold RgetP;rw[HE.out];exact⟨HF.out.2,rfl⟩
      |true=>
       have HI:=Hi (show Inv (pMsg l 0) ee (pBind (pAll (pLook l) l kk) _)from by
        have h1:=HI2.out;dsimp only at h1;rw[if_pos (of_decide_eq_true HZ.out)]at h1;exact h1)
       go_wp2_with fail;go_at_call 140;refine(tshort_c _ HA.out).mono ?_;rintro en w6 ⟨v9,n3,q7,qe7,rfl,⟨rfl,hn9⟩,hT,hA,hm⟩;obtain⟨G,HG,HGF⟩:∃G,Hid (Inv (pMsg l 0) qe7 (pBind (pMore [] (pRep (pLook l) (n3-0) q7)) G))∧Hid (G=_):=by
        obtain⟨G,h1,h2⟩:=HI.out.nm;exact⟨G,Hi (h1.all0 hT),Hi h2⟩
       have HML:=Hi (HML.out.mod hm (fun g C E hk hE h=>two_ne HA.out.1 kp6 g C E hk hE (.inl h)));have HA:=Hi hA;have HM:=Hi (HM.out.then hm (fun i hi e=>by omega));replace kp2:=hm.at_ne kp2 h2p;replace kp6:=hm.at_ne kp6 h6p;clear hT hA hm HI;go_wp2_with fail;go_loopw [12] (fun s12 ws=>∃(i3 kk ee c3:Nat) (a3:Option Addr) (L3:List LoR),i3≤n3∧s12= .int .i64 (i3:Int)∧Hid (L3.length=i3)∧Hid (MsgL w.heap.size ws (mkR true b0 b1 b2 ⟨a1,L,c1⟩ rc ⟨a2,L2,c2⟩ ⟨a3,L3,c3⟩))∧Hid (TkA p16 a l c kk ee ws)∧Hid (Mod (fun _=>False) w ws)∧Hid (Inv (pMsg l 0) ee (pBind (pMore (L3.map loP) (pRep (pLook l) (n3-i3) kk)) G))∧ws.heap[p2]? =some (.cells zMsg 33 (0,0))∧ws.heap[p6]? =some (.cells (mgx true b0 b1 b2 a1 i c1 rc a2 i2 c2 a3 i3 c3) 33 (0,0))) (fun s12 _=>n3-(intOf s12).toNat)
       case atStart=>exact⟨0,q7,qe7,0,none,[],by omega,rfl,Hi rfl,HML,HA,HM,HG,kp2,kp6⟩
       case round=>
        obtain⟨i3,kk,ee,c3,a3,L3,hi,rfl,HLi,HML,HA,HM,HI,kp2,kp6⟩:=hrel;have kt:=HA.out.1;unfold tkC at kt;rw[HLL.out]at kt;go_upto_region 29 with fail;go_cut [116]from 107 to 137 (fun s116 wx=>∃z:Bool,s116= .bool z∧Hid (z=true↔(i3<n3∧ee=0))∧wx=wr)
        case first=>
         as_aux_lemma=>
         by_cases hlt:i3<n3
         ·have hd:=Dt hlt;by_cases he:ee=0
          ·have he0:((ee:Int)==0)=true:=by simpa using he
           go_wp2_with fail;go_meet
           case rel=>exact⟨true,rfl,Hi ⟨fun _=>⟨hlt,he⟩,fun _=>rfl⟩,rfl⟩
          ·have he0:((ee:Int)==0)=false:=by simpa using he
           go_wp2_with fail;go_meet
           case rel=>exact⟨false,rfl,Hi ⟨fun h=>(by cases h),fun h=>absurd h.2 he⟩,rfl⟩
         ·have hd:=Df hlt;go_wp2_with fail;go_meet
          case rel=>exact⟨false,rfl,Hi ⟨fun h=>(by cases h),fun h=>absurd h.1 hlt⟩,rfl⟩
        case rest=>
        obtain⟨zz,rfl,HZZ,rfl⟩:=hcut;cases zz with
        |true=>
         as_aux_lemma=>
         obtain⟨hlt,rfl⟩:=HZZ.out.1 rfl;clear HZZ kt;have HTW:=Hi (two_ne HA.out.1 kp6);go_upto_region 31 with fail;have hB:=tkey_c _ HA.out;refine region_seq 5 rfl ?_;simp only[List.range,List.range.loop];refine Zq ?_;refine ZC hB ?hout (fun vn wn hR=> ?hret) (fun ch wn hR=> ?hpan)
         case hout=>exact fun w' h=>h.noOut
         case hpan=>exact hR.noPan.elim
         case hret=>
         obtain⟨v9,q,k8,e8,hv9,rfl,hT,hA,hm⟩:=hR;cases hv9;have HT1:=Hi hT;have HA:=Hi hA;have HW:=Hi (hm.mono (T:=fun i=>i=p16∨i=p6) (fun i _ h=> .inl h));replace kp2:=hm.at_ne kp2 h2p;replace kp6:=hm.at_ne kp6 h6p;clear hB hT hA hm;(try simp only[zL]);obtain⟨w7,rfl⟩:∃w7:World,w7=wn:=⟨_,rfl⟩;have hb:=bLoI q;(refine sq_bldS (by simp only[zK];rfl) (by rfl) rfl ?hx86 (hb _) ?n86;(case hx86=>(simp only[List.map_toArray,List.map_cons,List.map_nil,zM];(try rfl)));try simp only[zL]);(refine sq_alloc (by simp only[zK];rfl) (by rfl) rfl alLo (fun p13 wn gp13 kp13 mp13=> ?n87);try simp only[zL]);refine ZT ?_;refine ZQ kp13 fun wn kp13 mS=> ?_;refine sq_nil ?_;replace kp13:wn.heap[p13]? =some (.cells (lor ⟨q,⟨none,[],0⟩,⟨none,[],0⟩⟩) 121 (0,0)):=kp13;have hz6:=Ls kp6;have hz2:=Ls kp2;have hz16:=Ls HA.out.1;have hne:p2≠p13∧p6≠p13∧p16≠p13:=by omega
         have hz13r:=Nat.le_trans HW.out.size (Nat.le_of_eq gp13);have hz13:w.heap.size≤p13:=by have:=HM.out.size;have:=HW.out.size;omega
         have HW:=Hi ((HW.out.then0 mp13).then mS (fun i hi e=>by have:=HW.out.size;omega));have HA:=Hi ((HA.out.mod0 mp13).modQ mS hne.2.2 (fun x e=>by have:=HL.out.2.2.2.2 x e;omega));replace kp2:=mS.at_ne (mp13.at0 kp2) hne.1;replace kp6:=mS.at_ne (mp13.at0 kp6) hne.2.1;clear mS mp13 gp13 hb hz6 hz2 hz16;obtain⟨w8,rfl⟩:∃w8:World,w8=wn:=⟨_,rfl⟩;go_upto_region 32 with fail;have hB:=tshort_c _ HA.out;refine region_seq 6 rfl ?_;simp only[List.range,List.range.loop]
         iterate 2 refine Zq ?_
         refine ZC hB ?hout (fun vn wn hR=> ?hret) (fun ch wn hR=> ?hpan)
         case hout=>exact fun w' h=>h.noOut
         case hpan=>exact hR.noPan.elim
         case hret=>
         obtain⟨v9,nn,k9,e9,hv9,⟨rfl,hnb⟩,hT,hA,hm⟩:=hR;cases hv9;have HTs:=Hi hT;have HWa:=Hi (HW.out.trans (hm.mono (T:=fun i=>i=p16∨i=p6) (fun i _ h=> .inl h)));have hyt:∀g C,w8.heap[g]? =some (.cells C 5 (0,0))→¬g=p16:=fun g C hg=>ty_ne HA.out.1 hg (by decide);skip;replace kp2:=hm.at_ne kp2 h2p;replace kp6:=hm.at_ne kp6 h6p;replace kp13:=hm.at_ne kp13 hne.2.2.symm;have HAa:=Hi hA;clear hB hT hA hm hyt;(try simp only[zL]);have hB:=tbytes_c nn _ HAa.out (by omega);obtain⟨w7,rfl⟩:∃w7:World,w7=wn:=⟨_,rfl⟩;refine ZC hB ?hout (fun vn wn hR=> ?hret) (fun ch wn hR=> ?hpan)
         case hout=>exact fun w' h=>h.noOut
         case hpan=>exact hR.noPan.elim
         case hret=>
         obtain⟨v9,x1,k8,e8,hv9,⟨hO,hx⟩,hT,hA,hm⟩:=hR;cases hv9;have HT2:=Hi (HTs.out.list hT);obtain⟨ax1,cx1,rfl,-,-⟩:=hO.at bytesT;have hwb:w.heap.size≤w7.heap.size:=by have:=HM.out.size;have:=HWa.out.size;omega
         have HY1:=Hi (YAt.of hO hwb);have HWb:=Hi (HWa.out.trans (hm.mono (T:=fun i=>i=p16∨i=p6) (fun i _ h=> .inl h)));have hyt:∀g C,w7.heap[g]? =some (.cells C 5 (0,0))→¬g=p16:=fun g C hg=>ty_ne HAa.out.1 hg (by decide);skip;replace kp2:=hm.at_ne kp2 h2p;replace kp6:=hm.at_ne kp6 h6p;replace kp13:=hm.at_ne kp13 hne.2.2.symm;have HAb:=Hi hA;have hk13:=kp13;clear hB hT hA hm hyt hO hx HTs HWa HAa HW HA;(try simp only[zL]);obtain⟨w9,rfl⟩:∃w9:World,w9=wn:=⟨_,rfl⟩;have H13:=Hi kp13;refine Zq ?_;refine ZT ?_;refine ZQ kp13 fun wn kp13 mS=> ?_;refine sq_nil ?_;replace kp13:wn.heap[p13]? =some (.cells (lor ⟨q,⟨ax1,x1,cx1⟩,⟨none,[],0⟩⟩) 121 (0,0)):=by
          rw[kp13];exact congrArg _ (congrArg (fun z=>Obj.cells z 121 (0,0)) (lor_w' _ _ _ rfl))
         have hyt:∀g C,w9.heap[g]? =some (.cells C 5 (0,0))→¬g=p13:=fun g C hg=>ty_ne H13.out hg (by decide);have HY1:=Hi (HY1.out.mod mS hyt);skip;have HW:=Hi (HWb.out.then mS (fun i hi e=>by omega));have HA:=Hi (HAb.out.modQ mS hne.2.2 (fun x e=>by have:=HL.out.2.2.2.2 x e;omega));replace kp2:=mS.at_ne kp2 hne.1;replace kp6:=mS.at_ne kp6 hne.2.1;clear mS hyt H13 HWb HAb hk13;obtain⟨w8,rfl⟩:∃w8:World,w8=wn:=⟨_,rfl⟩;go_upto_region 33 with fail;have hB:=tshort_c _ HA.out;refine region_seq 6 rfl ?_;simp only[List.range,List.range.loop]
         iterate 2 refine Zq ?_
         refine ZC hB ?hout (fun vn wn hR=> ?hret) (fun ch wn hR=> ?hpan)
         case hout=>exact fun w' h=>h.noOut
         case hpan=>exact hR.noPan.elim
         case hret=>
         obtain⟨v9,nn,k9,e9,hv9,⟨rfl,hnb⟩,hT,hA,hm⟩:=hR;cases hv9;have HTs:=Hi hT;have HWa:=Hi (HW.out.trans (hm.mono (T:=fun i=>i=p16∨i=p6) (fun i _ h=> .inl h)));have hyt:∀g C,w8.heap[g]? =some (.cells C 5 (0,0))→¬g=p16:=fun g C hg=>ty_ne HA.out.1 hg (by decide);have HY1:=Hi (HY1.out.mod hm hyt);replace kp2:=hm.at_ne kp2 h2p;replace kp6:=hm.at_ne kp6 h6p;replace kp13:=hm.at_ne kp13 hne.2.2.symm;have HAa:=Hi hA;clear hB hT hA hm hyt;(try simp only[zL]);have hB:=tbytes_c nn _ HAa.out (by omega);obtain⟨w7,rfl⟩:∃w7:World,w7=wn:=⟨_,rfl⟩;refine ZC hB ?hout (fun vn wn hR=> ?hret) (fun ch wn hR=> ?hpan)
         case hout=>exact fun w' h=>h.noOut
         case hpan=>exact hR.noPan.elim
         case hret=>
         obtain⟨v9,x2,k8,e8,hv9,⟨hO,hx⟩,hT,hA,hm⟩:=hR;cases hv9;have HT3:=Hi (HTs.out.list hT);obtain⟨ax2,cx2,rfl,-,-⟩:=hO.at bytesT;have hwb:w.heap.size≤w7.heap.size:=by have:=HM.out.size;have:=HWa.out.size;omega
         have HY2:=Hi (YAt.of hO hwb);have HWb:=Hi (HWa.out.trans (hm.mono (T:=fun i=>i=p16∨i=p6) (fun i _ h=> .inl h)));have hyt:∀g C,w7.heap[g]? =some (.cells C 5 (0,0))→¬g=p16:=fun g C hg=>ty_ne HAa.out.1 hg (by decide);have HY1:=Hi (HY1.out.mod hm hyt);replace kp2:=hm.at_ne kp2 h2p;replace kp6:=hm.at_ne kp6 h6p;replace kp13:=hm.at_ne kp13 hne.2.2.symm;have HAb:=Hi hA;have hk13:=kp13;clear hB hT hA hm hyt hO hx HTs HWa HAa HW HA;(try simp only[zL]);obtain⟨w9,rfl⟩:∃w9:World,w9=wn:=⟨_,rfl⟩;have H13:=Hi kp13;refine Zq ?_;refine ZT ?_;refine ZQ kp13 fun wn kp13 mS=> ?_;refine sq_nil ?_;replace kp13:wn.heap[p13]? =some (.cells (lor ⟨q,⟨ax1,x1,cx1⟩,⟨ax2,x2,cx2⟩⟩) 121 (0,0)):=by
          rw[kp13];exact congrArg _ (congrArg (fun z=>Obj.cells z 121 (0,0)) (lor_r' _ _ _ rfl))
         have hyt:∀g C,w9.heap[g]? =some (.cells C 5 (0,0))→¬g=p13:=fun g C hg=>ty_ne H13.out hg (by decide);have HY2:=Hi (HY2.out.mod mS hyt);have HY1:=Hi (HY1.out.mod mS hyt);have HW:=Hi (HWb.out.then mS (fun i hi e=>by omega));have HA:=Hi (HAb.out.modQ mS hne.2.2 (fun x e=>by have:=HL.out.2.2.2.2 x e;omega));replace kp2:=mS.at_ne kp2 hne.1;replace kp6:=mS.at_ne kp6 hne.2.1;clear mS hyt H13 HWb HAb hk13;obtain⟨w8,rfl⟩:∃w8:World,w8=wn:=⟨_,rfl⟩;have HTA:Hid (Tk 0 (pLook l kk) ⟨q,x1,x2⟩ k8 e8):=Hi (by
          rw[pLook_bind];exact HT1.out.bind (NE.key _ _) (HT2.out.bind (NE.list _ _) (HT3.out.bind (NE.list _ _) Tk.pure)))
         clear HT1 HT2 HT3;obtain⟨r,hr⟩:∃r:LoR,r=⟨q,⟨ax1,x1,cx1⟩,⟨ax2,x2,cx2⟩⟩:=⟨_,rfl⟩;rw[←hr]at kp13;have HRR:=Hi hr;clear hr;have hbs:=bsLoR r;go_upto_region 34 with fail;refine region_seq 7 rfl ?_;simp only[List.range,List.range.loop];refine Zq ?_;refine Zr ?_;refine Zr ?_;(refine sq_new (by simp only[zK];rfl) (by rfl) rfl ?hx104 (hbs _) (fun q135 wn gq135 kq135 mq135=> ?n104);(case hx104=>(simp only[List.map_toArray,List.map_cons,List.map_nil,zM];(try rfl)));try simp only[zL]);have hLi:=HLi.out;have hML:=HML.out.mod (HW.out.then0 mq135) HTW.out;have hO2:SlOwn lor 34 121 wn w.heap.size (.slice a3 L3.length c3) L3:=hML.2.2.1;have hMq:=(HM.out.then HW.out (fun i hi e=>by omega)).then0 mq135;obtain⟨v8,w8',hap,hO8,m8,hn8⟩:=SlOwn.append lookupT (q:=[r]) (c:=1) hO2 (SlAt.one kq135 r rfl (lor_sz r)) (by show L3.length+_≤_;simp only[List.length_singleton];omega) (by decide) hMq.size 31;obtain⟨a8,c8,rfl,-,-⟩:=hO8.at lookupT;have hlen:(L3++[r]).length=i3+1:=by rw[List.length_append,hLi];rfl
         have hlo:=hO2.lt;have hy8:∀g C,wn.heap[g]? =some (.cells C 5 (0,0))→¬(Value.slice a3 L3.length c3).ownBlock=some g:=fun g C hg=>own_ty (C:=C) hO2 hg (by decide);have hML8:MsgL w.heap.size w8' (mkR true b0 b1 b2 ⟨a1,L,c1⟩ rc ⟨a2,L2,c2⟩ ⟨a8,L3++[r],c8⟩):=by
          refine⟨hML.1.mod m8 (fun g hg=>by obtain⟨C,hk⟩:=own_blk2 hML.1 g hg;exact own_ty hO2 hk (by decide)),⟨hML.2.1.1.mod m8 (fun g hg=>by obtain⟨C,hk⟩:=own_blk2 hML.2.1.1 g hg;exact own_ty hO2 hk (by decide)),fun j hj=>⟨(hML.2.1.2 j hj).1.mod m8 hy8,(hML.2.1.2 j hj).2.mod m8 hy8⟩⟩,hO8,fun j hj=> ?_⟩;rcases List.mem_append.1 hj with hj|hj
          ·exact⟨(hML.2.2.2 j hj).1.mod m8 hy8,(hML.2.2.2 j hj).2.mod m8 hy8⟩
          ·rw[List.mem_singleton]at hj;subst hj;rw[HRR.out];exact⟨(HY1.out.mod mq135 (fun _ _ _ h=>h)).mod m8 hy8,(HY2.out.mod mq135 (fun _ _ _ h=>h)).mod m8 hy8⟩
         have hM8:=hMq.then m8 (fun j hj e=>by have:=(hlo j e).1;omega);have hA8:TkA p16 a l c k8 e8 w8':=by
          have h1:=HA.out.mod0 mq135;exact⟨m8.at h1.1 (fun e=>own_ne hO2 h1.1 (by decide) _ e rfl),HL.out.1.mod0 hM8,h1.2.2⟩
         replace kp2:=m8.at (mq135.at0 kp2) (fun e=>own_ne hO2 (mq135.at0 kp2) (by decide) _ e rfl);replace kp6:=m8.at (mq135.at0 kp6) (fun e=>own_ne hO2 (mq135.at0 kp6) (by decide) _ e rfl);have HI8:Hid (Inv (pMsg l 0) e8 (pBind (pMore ((L3++[r]).map loP) (pRep (pLook l) (n3-(i3+1)) k8)) G)):=Hi (by
          have h1:=HI.out.rep hlt HTA.out (NE.look _ _);rw[List.map_append,HRR.out];exact h1)
         have HTW8:=Hi (two_ne hA8.1 kp6);have HF:=Hi (Ai hML8 (Ai hM8 (Ai hA8 hlen)));have hap2:(Builtin.append_ #[31,31] 31 #[.slice a3 i3 c3,.slice (some ⟨q135,0,none⟩) 1 1]).run Tryz.prog wn= .ok (.slice a8 (i3+1) c8) w8':=by
          have h1:=hap;rw[hlen,hLi]at h1;exact h1
         clear hap hML hO2 hMq hO8 m8 hn8 hlen hlo hy8 hML8 hM8 hA8 hLi mq135 kq135 gq135 hbs;(refine sq_append (by simp only[zK];rfl) (by rfl) rfl ?hx105 ?hz105 hap2 ?n105;(case hx105=>simp only[zM];try rfl);(case hz105=>simp only[zM];try rfl);try simp only[zL]);refine Zq ?_;refine ZT ?_;refine ZQ kp6 fun wn kp6 mS=> ?_;refine sq_nil ?_;replace kp6:wn.heap[p6]? =some (.cells (mgx true b0 b1 b2 a1 i c1 rc a2 i2 c2 a8 (i3+1) c8) 33 (0,0)):=by
          rw[kp6,mgx_lks]
         have HA9:=Hi (HF.out.2.2.1.modQ mS h6p.symm (fun x e=>by have:=HL.out.2.2.2.2 x e;omega));have HM9:=Hi (HF.out.2.1.then mS (fun i hi e=>by omega));have HML9:=Hi (HF.out.1.mod mS (fun g C E hk hE h=>HTW8.out g C E hk hE (.inr h)));replace kp2:=mS.at_ne kp2 h26;have HL9:=Hi HF.out.2.2.2;clear mS;go_wp2_with fail;go_roundw
         case rel=>exact⟨i3+1,k8,e8,c8,a8,L3++[r],by omega,by go_num,HL9,HML9,HA9,HM9,HI8,kp2,kp6⟩
         case measure=>simp[intOf];omega
        |false=>
         have hdn:=HI.out.done (by
          by_cases h0:ee=0
          ·exact .inl (by have:=mt (fun h=>HZZ.out.2 ⟨h,h0⟩) (by simp:¬(false=true));omega)
          ·exact .inr h0)
         rw[HGF.out]at hdn;have HI3:Hid (Inv (pMsg l 0) ee (.ok (⟨true,b0,b1,b2,L,rc,L2.map inP,L3.map loP⟩,kk))):=Hi (by
          have h1:=hdn;dsimp only at h1;rw[HZ.out]at h1;exact h1)
         have HMS:Hid (mgx true b0 b1 b2 a1 i c1 rc a2 i2 c2 a3 i3 c3=msr (mkR true b0 b1 b2 ⟨a1,L,c1⟩ rc ⟨a2,L2,c2⟩ ⟨a3,L3,c3⟩)):=Hi (msr_mk HLk.out HLj.out HLi.out);clear hdn HI HG HGF HZZ;go_upto_region 35 with fail;by_cases he:ee=0
         ·subst he;have hne:((0:Int) !=0)=false:=rfl;have HE:Hid (pMsg l 0=_):=Hi (HI3.out.1 rfl);have HKL:=Hi HA.out.2.2.1;have nW:¬(fun i=>i=p2) p16:=by simp only;omega
          have nW6:¬(fun i=>i=p2) p6:=by simp only;omega
          obtain⟨X,hX⟩:∃X,mgx true b0 b1 b2 a1 i c1 rc a2 i2 c2 a3 i3 c3=X:=⟨_,rfl⟩;have hXs:X.size=39:=by rw[←hX,mgx_size]
          have hXe:X.extract 0 39=X:=by rw[←hX,mgx_ext]
          have hXo:X.all (·.oneCell')=true:=by rw[←hX];exact mgx_one ..
          have HX:=Hi hX;have HXO:=Hi (Ai hXs hXo);rw[hX]at kp6;clear hX hXo;have hld:∀w',w'.heap[p6]? =some (.cells X 33 (0,0))→(Instr.loadAt 33 (.pointer (some ⟨p6,0,none⟩))).run Tryz.prog w'= .ok (.agg X) w':=fun w' h=>by rw[ldMsg,h];simp[hXs,hXe]
          have HLD:=Hi hld;clear hld hXs hXe;go_upto_region 37 with fail;have Lkt:=Ls kt;have Lkp6:=Ls kp6;refine wp_gpass (T0:=fun i=>i=p2) (K:=fun T w=>T p2∧w.heap[p2]? =some (.cells zMsg 33 (0,0))) (κ:=fun i=>[0,0,0,0,0,6,0,0].getD i 0) (υ:=fun _=>[]) [0,1,2,3,4,5,6,7] (by kernel_rfl) (by kernel_rfl) (Good.at p2 (.cells zMsg 33 (0,0))).cl (⟨rfl,kp2⟩) (fun i hi=>by subst hi;exact Ls kp2) ?_;have gK:=Good.at p2 (.cells zMsg 33 (0,0));(refine TG.load (v:= ?v108) (p:= ?p108) (by simp only[zK];rfl) rfl (by rfl) rfl ?hx108 (fun wq hSq=> ?y108) ?n108;(case hx108=>simp only[zM];try rfl);(case y108=>(have ktq:=hSq.at kt (by intro hT;first|exact hT|exact absurd hT (by assumption)|omega|(simp only at hT;omega));have kp6q:=hSq.at kp6 (by intro hT;first|exact hT|exact absurd hT (by assumption)|omega|(simp only at hT;omega));exact HLD.out _ kp6q));try simp only[zL])
          iterate 3 refine Zg ?_
          (refine TG.load (v:= ?v112) (p:= ?p112) (by simp only[zK];rfl) rfl (by rfl) rfl ?hx112 (fun wq hSq=> ?y112) ?n112;(case hx112=>simp only[zM];try rfl);(case y112=>(have ktq:=hSq.at kt (by intro hT;first|exact hT|exact absurd hT (by assumption)|omega|(simp only at hT;omega));have kp6q:=hSq.at kp6 (by intro hT;first|exact hT|exact absurd hT (by assumption)|omega|(simp only at hT;omega));go_simp;(try with_reducible rfl)));try simp only[zL]);(refine TG.storeO (X:= ?X113) (Y:= ?Y113) (fun T w=>T p2∧w.heap[p2]? =some (.cells X 33 (0,0))) (Good.at p2 (.cells X 33 (0,0))) (by simp only[zK];rfl) rfl (by rfl) rfl rfl ?hx113 ?hz113 (fun T wq kq=> ?y113) (fun _=> ?n113);(case hx113=>simp only[zM];try rfl);(case hz113=>simp only[zM];try rfl);(case y113=>(obtain⟨k1,k2⟩:=kq;refine⟨setBlock wq p2 (.cells X 33 (0,0)),?_,(mod_set wq p2 _).mono (fun i _ e=>by rw[e];exact k1),k1,heap_setBlock wq _ (Ls k2)⟩;exact run_store_box k2 (by rw[HXO.out.1];kernel_rfl) (by rw[HXO.out.1,zMsg_size]) HXO.out.2));replace gK:=(Good.at p2 (.cells X 33 (0,0)));try simp only[zL])
          iterate 2 refine Zg ?_
          refine TG.nil (fun w9 ⟨TR,hr⟩=> ?_);replace kt:=hr.mod.at kt (by intro hT;first|exact hT|exact absurd hT (by assumption)|omega|(simp only at hT;omega));replace kp6:=hr.mod.at kp6 (by intro hT;first|exact hT|exact absurd hT (by assumption)|omega|(simp only at hT;omega));clear gK;have HF:Hid (w9.heap[p2]? =some (.cells X 33 (0,0))∧Mod (fun _=>False) w w9):=Hi ⟨hr.k.2,HM.out.then hr.mod (fun i hi e=>by omega)⟩;have HMF:=Hi (HML.out.mod hr.mod (fun g C E hk hE e=>ty_ne kp2 hk (by rcases hE with rfl|rfl|rfl|rfl<;>decide) e));clear hr kp2;go_wp2_with fail;refine bodyPost_ret (results_ctt rfl rfl (v1:= .agg X) (by rw[←HX.out];exact ldMgx (by rw[HX.out];exact HF.out.1))) rfl ?_;unfold RgetP;rw[HE.out];refine⟨HF.out.2,_,?_,HMF.out,rfl⟩;show Ending.returned (.tuple #[.agg X,i64n kk,i64n 0])=_;rw[←HX.out,HMS.out]
         ·have hne:((ee:Int) !=0)=true:=by simpa using he
          have HE:Hid (pMsg l 0= .error ee):=Hi (HI3.out.2 he);have nW:¬(fun i=>i=p2) p16:=by simp only;omega
          have hb:=bMsg0;go_upto_region 36 with fail;have Lkt:=Ls kt;refine wp_gpass (T0:=fun i=>i=p2) (K:=fun T w=>T p2∧w.heap[p2]? =some (.cells zMsg 33 (0,0))) (κ:=fun i=>[0,0,0,0,0,6,0,0].getD i 0) (υ:=fun _=>[]) [0,1,2,3,4,5,6,7] (by kernel_rfl) (by kernel_rfl) (Good.at p2 (.cells zMsg 33 (0,0))).cl (⟨rfl,kp2⟩) (fun i hi=>by subst hi;exact Ls kp2) ?_;have gK:=Good.at p2 (.cells zMsg 33 (0,0));(refine TG.build (v:= ?v116) (ps:= ?p116) (by simp only[zK];rfl) rfl (by rfl) rfl ?hx116 (fun w1=> ?y116) ?n116;(case hx116=>(simp only[List.map_toArray,List.map_cons,List.map_nil,zM];(try rfl)));(case y116=>(rw[hb];(try with_reducible rfl)));try simp only[zL])
          iterate 3 refine Zg ?_
          (refine TG.load (v:= ?v120) (p:= ?p120) (by simp only[zK];rfl) rfl (by rfl) rfl ?hx120 (fun wq hSq=> ?y120) ?n120;(case hx120=>simp only[zM];try rfl);(case y120=>(have ktq:=hSq.at kt (by intro hT;first|exact hT|exact absurd hT (by assumption)|omega|(simp only at hT;omega));go_simp;(try with_reducible rfl)));try simp only[zL]);(refine TG.storeO (X:= ?X121) (Y:= ?Y121) (fun T w=>T p2∧w.heap[p2]? =some (.cells zMsg 33 (0,0))) (Good.at p2 (.cells zMsg 33 (0,0))) (by simp only[zK];rfl) rfl (by rfl) rfl rfl ?hx121 ?hz121 (fun T wq kq=> ?y121) (fun _=> ?n121);(case hx121=>simp only[zM];try rfl);(case hz121=>simp only[zM];try rfl);(case y121=>(obtain⟨k1,k2⟩:=kq;refine⟨setBlock wq p2 (.cells zMsg 33 (0,0)),?_,(mod_set wq p2 _).mono (fun i _ e=>by rw[e];exact k1),k1,heap_setBlock wq _ (Ls k2)⟩;exact run_store_box k2 (by kernel_rfl) rfl zMsg_all));replace gK:=(Good.at p2 (.cells zMsg 33 (0,0)));try simp only[zL])
          iterate 2 refine Zg ?_
          refine TG.nil (fun w9 ⟨TR,hr⟩=> ?_);replace kt:=hr.mod.at kt (by intro hT;first|exact hT|exact absurd hT (by assumption)|omega|(simp only at hT;omega));clear gK;have HF:Hid (w9.heap[p2]? =some (.cells zMsg 33 (0,0))∧Mod (fun _=>False) w w9):=Hi ⟨hr.k.2,HM.out.then hr.mod (fun i hi e=>by omega)⟩;clear hr kp2;go_wp2_with fail;refine bodyPost_ret (results_ctt rfl rfl (ldZM HF.out.1)) rfl ?_;unfold RgetP;rw[HE.out];exact⟨HF.out.2,rfl⟩
end
section
theorem run_copyN {P:Program} (w:World) (dT sT ty elem:TypeId) (g o dLen dCap:Nat) (a:Addr) (sLen sCap:Nat) (cur:Array Value) (t:TypeId) (cs:List Value) {k m:Nat}
  (hu:P.underlying dT=some (.slice elem)) (hs:(P.info? elem).map (·.size)=some k) (hm:m=Nat.min sLen dLen)
  (hg:w.heap[g]? =some (.cells cur t (0,0))) (hn:cs.length=m*k)
  (hsrc:∀j v,cs[j]? =some v→w.cell? (a.add j)=some v) (hfit:o+cs.length≤cur.size) (h1:∀v∈cs,v.oneCell'=true):
  (Builtin.copy_ #[dT,sT] ty #[.slice (some ⟨g,o,none⟩) dLen dCap,.slice (some a) sLen sCap]).run P w=
   .ok (goInt m) (w.setRow g (cur.toList.take o++cs++cur.toList.drop (o+cs.length)).toArray):=by
 have hl:=run_loadCells_list (P:=P) w a cs hsrc;have hst:=run_storeCells_at P g o t cs 0 cur w hg (by simpa using hfit) h1;cases hq:P.info? elem with
 |none=>simp[hq]at hs
 |some i=>
  have hi:i.size=k:=by simpa[hq] using hs
  simp[Builtin.copy_,run_underlying hu,Builtin.lenOf,Builtin.firstCells,sizeOf,typeInfo,hq,hi,←hm,←hn,hl,hst]
section
variable {α:Type} {f:α→Array Value} {n B:Nat} {P:Program} {T E:TypeId}
theorem sl_cells (hT:ElT P T E f n B) {w:World} {ad:Addr} {q:List α} (hq:SlAt f n w (some ad) q):∀j u,(cellsOf f q)[j]? =some u→w.cell? (ad.add j)=some u:=fun j u hu=>by
 have hj:j<(cellsOf f q).length:=(List.getElem?_eq_some_iff.1 hu).1;rw[cellsOf_len hT.size q]at hj;have hn:=hT.pos;have hd:j/n<q.length:=Nat.div_lt_of_lt_mul (by rw[Nat.mul_comm];exact hj);obtain⟨x,hx⟩:∃x,q[j/n]? =some x:=⟨_,List.getElem?_eq_getElem hd⟩;obtain⟨b,o,C,U,fr,ha,hb,he,hsz⟩:=hq.block hx;cases ha;have hjm:j/n*n+j % n=j:=by rw[Nat.mul_comm];exact Nat.div_add_mod j n
 have hlt:=Nat.mod_lt j hn;have hget:=cellsOf_get hT.size q (j/n) x hx;have hv:(f x)[j % n]? =some u:=by
  have h1:=congrArg (fun L=>L[j % n]?) hget;simp only[List.getElem?_take,List.getElem?_drop,hlt,if_true,hjm]at h1;rw[hu]at h1;simpa using h1.symm
 have hcell:=cell_in hb he hv;have hadd:(⟨b,o,none⟩:Addr).add j=⟨b,o+j/n*n+j % n,none⟩:=by
  rw[Nat.add_assoc,hjm];unfold Addr.add;split<;>simp_all
 rw[hadd];exact hcell
theorem copyT (hT:ElT P T E f n B) {w:World} {q:List α} {ad:Addr} (hq:SlAt f n w (some ad) q) {p cap c:Nat} {cur:Array Value} {ty:TypeId} (hp:w.heap[p]? =some (.cells cur E (0,0))) (hc:cur.size=q.length*n):
  (Builtin.copy_ #[T,T] ty #[.slice (some ⟨p,0,none⟩) q.length cap,.slice (some ad) q.length c]).run P w= .ok (goInt q.length) (setBlock w p (.cells (cellsOf f q).toArray E (0,0))):=by
 obtain⟨i0,z,hi,hz,hz1,hz2,hz3⟩:=hT.info;have hlen:=cellsOf_len hT.size q;have h:=run_copyN (P:=P) (m:=q.length) (k:=n) w T T ty E p 0 q.length cap ad q.length c cur E (cellsOf f q) hT.u (by rw[hi];exact congrArg some hz1) (Nat.min_self _).symm hp hlen (sl_cells hT hq) (by rw[hlen,hc];omega) (fun u hu=>by
  obtain⟨x,_,hx⟩:=List.mem_flatMap.1 hu;exact hT.one x u hx)
 have e:(List.take 0 cur.toList++cellsOf f q++List.drop (0+(cellsOf f q).length) cur.toList).toArray=(cellsOf f q).toArray:=by
  rw[List.take_zero,List.nil_append,List.drop_of_length_le (by rw[Array.length_toList,hc,hlen];omega),List.append_nil]
 rw[h,setRow_blk hp,e]
theorem copyT0 (hT:ElT P T E f n B) (w:World) {p m cap:Nat} {ty:TypeId}:(Builtin.copy_ #[T,T] ty #[.slice (some ⟨p,0,none⟩) m cap,.slice none 0 0]).run P w= .ok (goInt 0) w:=by
 obtain⟨i0,z,hi,hz,hz1,hz2,hz3⟩:=hT.info;exact run_copy_nil (P:=P) w T T ty E ⟨p,0,none⟩ m cap hT.u (by rw[hi];rfl)
theorem makeT (hT:ElT P T E f n B) (m:Nat) (hm:m*B≤281474976710656) (hm2:m≤9223372036854775807):∃cur:Array Value,cur.size=m*n∧∀w:World,(Instr.makeSlice T (.int .i64 (m:Int)) (.int .i64 (m:Int))).run P w= .ok (.slice (some ⟨w.heap.size,0,none⟩) m m) (w.alloc (.cells cur E)):=by
 obtain⟨i0,z,hi,hz,hz1,hz2,hz3⟩:=hT.info;have hB:(i0.bytes:Int)*(m:Int)≤281474976710656:=by
  rw[hz2,←Int.natCast_mul,Nat.mul_comm];omega
 refine⟨madeCells z.cells (m*i0.size),?_,fun w=> ?_⟩
 ·rw[hz1];exact size_madeCells ..
 ·have h:=run_make (P:=P) w T E i0 z hT.u hi hz .i64 .i64 (m:Int) (m:Int) (by omega) (by omega) hB (by omega);simpa using h
theorem NewS.made (hT:ElT P T E f n B) {w:World} {base p:Nat} {q:List α} (hb:base≤p) (hp:w.heap[p]? =some (.cells (cellsOf f q).toArray E (0,0))):NewS f n E base w (.slice (some ⟨p,0,none⟩) q.length q.length) q:=by
 refine .inr ⟨p,_,rfl,hb,hp,fun i x hx=> ?_⟩;have hl:=cellsOf_len hT.size q;have hi:=(List.getElem?_eq_some_iff.1 hx).1;have h1:(i+1)*n≤q.length*n:=Nat.mul_le_mul_right _ hi;rw[Nat.add_mul,Nat.one_mul]at h1;refine⟨?_,by simp[hl];omega⟩;apply Array.toList_inj.1;rw[←cellsOf_get hT.size q i x hx];simp[List.take_drop,Nat.add_comm]
end
end
section
theorem sigIsS:IsSigT Tryz.prog 101 5 where
 laid:=laid
 row:=of_decide_eq_true (by kernel_rfl)
 at2:=by kernel_rfl
 u:=Tryz.underlying101
 e:=Tryz.underlying5
 cK:=by kernel_rfl
 cE:=by kernel_rfl
 kt:=by kernel_rfl
theorem eqSigS (a b:Sg) (w:World):(Op.equalIn 10000 101 (.agg (sgc a)) (.agg (sgc b))).run Tryz.prog w= .ok (decide (a=b)) w:=sigIsS.eqIn 9998 a b w
attribute [local go_sem↓] eqSigS eqKey1
attribute [local go_sem] sgc_size sgc_ext sgc_one0 sgc_one'
theorem sameK_c (a a2:Option Addr) (l l2:List Key) (c c2:Nat) (w:World) (h1:SlAt kc 32 w a l) (h2:SlAt kc 32 w a2 l2) (hb:l.length≤1000000):Calls Tryz.prog 102 #[.slice a l.length c,.slice a2 l2.length c2] w fun e w'=>e= .returned (.bool (decide (l=l2)))∧Mod (fun _=>False) w w':=by
 by_cases hl:l.length=l2.length
 ·have HL:=Hi hl;have hd0:((l.length:Int) !=(l2.length:Int))=false:=by simp[hl]
  clear hl;go_enter Tryz.func102,Tryz.ntmps102;go_wp2_with fail;clear hd0;go_loopw [5] (fun s5 ws=>∃i:Nat,i≤l.length∧s5= .int .i64 (i:Int)∧Hid (l.take i=l2.take i)∧Mod (fun _=>False) w ws) (fun s5 _=>l.length-(intOf s5).toNat)
  case atStart=>exact⟨0,by omega,rfl,Hi (by simp),Mod.refl _ _⟩
  case round=>
   obtain⟨i,hi,rfl,HT,hm⟩:=hrel;by_cases hlt:i<l.length
   ·obtain⟨x,hx⟩:∃x,l[i]? =some x:=⟨_,List.getElem?_eq_getElem hlt⟩;obtain⟨y,hy⟩:∃y,l2[i]? =some y:=⟨_,List.getElem?_eq_getElem (by have:=HL.out;omega)⟩;obtain⟨g,o,C,U,fr,rfl,kl,he,hle⟩:=(h1.mod0 hm).block hx;obtain⟨g2,o2,C2,U2,fr2,rfl,kl2,he2,hle2⟩:=(h2.mod0 hm).block hy;have hlt2:(i:Int)<(l2.length:Int):=by
     have:=HL.out;omega
    have HX:=Hi hx;have HY:=Hi hy;have H1:=Hi h1;have H2:=Hi h2;clear h1 h2 hx hy;by_cases hxy:x=y
    ·subst hxy;go_upto_region 6 with fail;have Lkl:=Ls kl;have Lkl2:=Ls kl2;refine ZP [0,0,0,1,0,0,0,1,0] ?_
     iterate 9 first|refine Zv ?_|refine Zd ?_
     refine TD.nil (fun w2 hr=> ?_);replace kl:=hr.q kl;replace kl2:=hr.q kl2;have mm:=hm.then0 hr.mod;clear he he2 hle hle2;go_wp2_with fail;go_roundw
     case rel=>exact⟨i+1,by omega,by go_num,Hi (by
      rw[List.take_add_one,List.take_add_one,HT.out,HX.out,HY.out]),mm⟩
     case measure=>first|omega|(simp[intOf];omega)
    ·go_upto_region 6 with fail;have Lkl:=Ls kl;have Lkl2:=Ls kl2;refine ZP [0,0,0,1,0,0,0,1,0] ?_
     iterate 9 first|refine Zv ?_|refine Zd ?_
     refine TD.nil (fun w2 hr=> ?_);replace kl:=hr.q kl;replace kl2:=hr.q kl2;have mm:=hm.then0 hr.mod;clear he he2 hle hle2;go_wp2_with fail;go_ret;refine⟨?_,mm⟩;rw[show decide (l=l2)=false from Df (fun e=>by
      subst e;have h1:=HX.out;have h2:=HY.out;rw[h1]at h2;exact hxy (by injection h2))]
     rfl
   ·have hll:l=l2:=by
     have:=HT.out;rw[List.take_of_length_le (by omega),List.take_of_length_le (by have:=HL.out;omega)]at this;exact this
    have HLL:=Hi hll;clear hll HT;go_wp2_with fail;go_ret;exact⟨by rw[HLL.out];simp,hm⟩
 ·have hd0:((l.length:Int) !=(l2.length:Int))=true:=by
   simp only[bne_iff_ne,ne_eq];omega
  have HD:Hid (decide (l=l2)=false):=Hi (Df (fun e=>hl (by rw[e])));clear hl;go_enter Tryz.func102,Tryz.ntmps102;go_wp2_with fail;go_ret;exact⟨by rw[HD.out];rfl,Mod.refl _ _⟩
theorem sameS_c (a a2:Option Addr) (l l2:List Sg) (c c2:Nat) (w:World) (h1:SlAt sgc 64 w a l) (h2:SlAt sgc 64 w a2 l2) (hb:l.length≤1000000):Calls Tryz.prog 57 #[.slice a l.length c,.slice a2 l2.length c2] w fun e w'=>e= .returned (.bool (decide (l=l2)))∧Mod (fun _=>False) w w':=by
 by_cases hl:l.length=l2.length
 ·have HL:=Hi hl;have hd0:((l.length:Int) !=(l2.length:Int))=false:=by simp[hl]
  clear hl;go_enter Tryz.func57,Tryz.ntmps57;go_wp2_with fail;clear hd0;go_loopw [5] (fun s5 ws=>∃i:Nat,i≤l.length∧s5= .int .i64 (i:Int)∧Hid (l.take i=l2.take i)∧Mod (fun _=>False) w ws) (fun s5 _=>l.length-(intOf s5).toNat)
  case atStart=>exact⟨0,by omega,rfl,Hi (by simp),Mod.refl _ _⟩
  case round=>
   obtain⟨i,hi,rfl,HT,hm⟩:=hrel;by_cases hlt:i<l.length
   ·obtain⟨x,hx⟩:∃x,l[i]? =some x:=⟨_,List.getElem?_eq_getElem hlt⟩;obtain⟨y,hy⟩:∃y,l2[i]? =some y:=⟨_,List.getElem?_eq_getElem (by have:=HL.out;omega)⟩;obtain⟨g,o,C,U,fr,rfl,kl,he,hle⟩:=(h1.mod0 hm).block hx;obtain⟨g2,o2,C2,U2,fr2,rfl,kl2,he2,hle2⟩:=(h2.mod0 hm).block hy;have hlt2:(i:Int)<(l2.length:Int):=by
     have:=HL.out;omega
    have HX:=Hi hx;have HY:=Hi hy;have H1:=Hi h1;have H2:=Hi h2;clear h1 h2 hx hy;by_cases hxy:x=y
    ·subst hxy;go_upto_region 6 with fail;have Lkl:=Ls kl;have Lkl2:=Ls kl2;refine ZP [0,0,0,1,0,0,0,1,0] ?_
     iterate 9 first|refine Zv ?_|refine Zd ?_
     refine TD.nil (fun w2 hr=> ?_);replace kl:=hr.q kl;replace kl2:=hr.q kl2;have mm:=hm.then0 hr.mod;clear he he2 hle hle2;go_wp2_with fail;go_roundw
     case rel=>exact⟨i+1,by omega,by go_num,Hi (by
      rw[List.take_add_one,List.take_add_one,HT.out,HX.out,HY.out]),mm⟩
     case measure=>first|omega|(simp[intOf];omega)
    ·go_upto_region 6 with fail;have Lkl:=Ls kl;have Lkl2:=Ls kl2;refine ZP [0,0,0,1,0,0,0,1,0] ?_
     iterate 9 first|refine Zv ?_|refine Zd ?_
     refine TD.nil (fun w2 hr=> ?_);replace kl:=hr.q kl;replace kl2:=hr.q kl2;have mm:=hm.then0 hr.mod;clear he he2 hle hle2;go_wp2_with fail;go_ret;refine⟨?_,mm⟩;rw[show decide (l=l2)=false from Df (fun e=>by
      subst e;have h1:=HX.out;have h2:=HY.out;rw[h1]at h2;exact hxy (by injection h2))]
     rfl
   ·have hll:l=l2:=by
     have:=HT.out;rw[List.take_of_length_le (by omega),List.take_of_length_le (by have:=HL.out;omega)]at this;exact this
    have HLL:=Hi hll;clear hll HT;go_wp2_with fail;go_ret;exact⟨by rw[HLL.out];simp,hm⟩
 ·have hd0:((l.length:Int) !=(l2.length:Int))=true:=by
   simp only[bne_iff_ne,ne_eq];omega
  have HD:Hid (decide (l=l2)=false):=Hi (Df (fun e=>hl (by rw[e])));clear hl;go_enter Tryz.func57,Tryz.ntmps57;go_wp2_with fail;go_ret;exact⟨by rw[HD.out];rfl,Mod.refl _ _⟩
theorem sameB_c (a a2:Option Addr) (l l2:List UInt8) (c c2:Nat) (w:World) (h1:SlAt uc 1 w a l) (h2:SlAt uc 1 w a2 l2) (hb:l.length≤1000000):Calls Tryz.prog 41 #[.slice a l.length c,.slice a2 l2.length c2] w fun e w'=>e= .returned (.bool (decide (l=l2)))∧Mod (fun _=>False) w w':=by
 by_cases hl:l.length=l2.length
 ·have HL:=Hi hl;have hd0:((l.length:Int) !=(l2.length:Int))=false:=by simp[hl]
  clear hl;go_enter Tryz.func41,Tryz.ntmps41;go_wp2_with fail;clear hd0;go_loopw [5] (fun s5 ws=>∃i:Nat,i≤l.length∧s5= .int .i64 (i:Int)∧Hid (l.take i=l2.take i)∧Mod (fun _=>False) w ws) (fun s5 _=>l.length-(intOf s5).toNat)
  case atStart=>exact⟨0,by omega,rfl,Hi (by simp),Mod.refl _ _⟩
  case round=>
   obtain⟨i,hi,rfl,HT,hm⟩:=hrel;by_cases hlt:i<l.length
   ·obtain⟨x,hx⟩:∃x,l[i]? =some x:=⟨_,List.getElem?_eq_getElem hlt⟩;obtain⟨y,hy⟩:∃y,l2[i]? =some y:=⟨_,List.getElem?_eq_getElem (by have:=HL.out;omega)⟩;obtain⟨g,o,C,U,fr,rfl,kl,he⟩:=u8_at (h1.mod0 hm) hx;obtain⟨g2,o2,C2,U2,fr2,rfl,kl2,he2⟩:=u8_at (h2.mod0 hm) hy;have hlt2:(i:Int)<(l2.length:Int):=by
     have:=HL.out;omega
    have HX:=Hi hx;have HY:=Hi hy;have H1:=Hi h1;have H2:=Hi h2;clear h1 h2 hx hy;by_cases hxy:x=y
    ·have hd1:((x.toNat:Int) !=(y.toNat:Int))=false:=by simp[hxy]
     have hd2:(x.toNat !=y.toNat)=false:=by simp[hxy]
     have HXY:=Hi hxy;clear hxy;go_upto_region 6 with fail;have Lkl:=Ls kl;have Lkl2:=Ls kl2;refine ZP [0,0,0,1,0,0,0,1,0] ?_
     iterate 9 first|refine Zv ?_|refine Zd ?_
     refine TD.nil (fun w2 hr=> ?_);replace kl:=hr.q kl;replace kl2:=hr.q kl2;have mm:=hm.then0 hr.mod;clear he he2;go_wp2_with fail;go_roundw
     case rel=>exact⟨i+1,by omega,by go_num,Hi (by
      rw[List.take_add_one,List.take_add_one,HT.out,HX.out,HY.out,HXY.out]),mm⟩
     case measure=>first|omega|(simp[intOf];omega)
    ·have hn:x.toNat≠y.toNat:=fun e=>hxy (UInt8.toNat_inj.1 e);have hd1:((x.toNat:Int) !=(y.toNat:Int))=true:=by simp;omega
     have hd2:(x.toNat !=y.toNat)=true:=by simp[hn]
     go_upto_region 6 with fail;have Lkl:=Ls kl;have Lkl2:=Ls kl2;refine ZP [0,0,0,1,0,0,0,1,0] ?_
     iterate 9 first|refine Zv ?_|refine Zd ?_
     refine TD.nil (fun w2 hr=> ?_);replace kl:=hr.q kl;replace kl2:=hr.q kl2;have mm:=hm.then0 hr.mod;clear he he2;go_wp2_with fail;go_ret;refine⟨?_,mm⟩;rw[show decide (l=l2)=false from Df (fun e=>by
      subst e;have h1:=HX.out;have h2:=HY.out;rw[h1]at h2;exact hxy (by injection h2))]
     rfl
   ·have hll:l=l2:=by
     have:=HT.out;rw[List.take_of_length_le (by omega),List.take_of_length_le (by have:=HL.out;omega)]at this;exact this
    have HLL:=Hi hll;clear hll HT;go_wp2_with fail;go_ret;exact⟨by rw[HLL.out];simp,hm⟩
 ·have hd0:((l.length:Int) !=(l2.length:Int))=true:=by
   simp only[bne_iff_ne,ne_eq];omega
  have HD:Hid (decide (l=l2)=false):=Hi (Df (fun e=>hl (by rw[e])));clear hl;go_enter Tryz.func41,Tryz.ntmps41;go_wp2_with fail;go_ret;exact⟨by rw[HD.out];rfl,Mod.refl _ _⟩
end
section
attribute [local go_sem↓] wlMsg ldMsg stMsg wlRg ldRg stRg
attribute [local go_sem] mgx_size mgx_ext mgx_one mgx_one0 zMsg_size zMsg_all zMsg_all0
theorem msr_sz (r:RdR):(msr r).size=39:=mx_size _ _ _
theorem msr_al (r:RdR):(msr r).all (·.oneCell')=true:=mx_one rfl rfl
theorem msr_al0 (r:RdR):(msr r).all (·.oneCell') 0 39=true:=all_of (msr_sz r) (msr_al r)
theorem msr_ex (r:RdR):(msr r).extract 0 39=msr r:=mx_full rfl
attribute [local go_sem] rgx0' rgx40' rgx_size rgx_one rgx_one0 rgx0 rgx40 tcx_size tcx_ext tcx_one tcx_one0 mcx_size mcx_one0 mcx_ext tcx0 zTc_size zTc_ext zTc_all zTc_all0 sgc_size sgc_ext sgc_one0 sgc_one' msr_sz msr_al msr_al0 msr_ex
def TxLd (b:Nat) (w:World) (r:RdR):Prop:=SlOwn sgc 64 101 w b (.slice r.sg.a r.sg.l.length r.sg.c) r.sg.l∧MsgL b w r
def RpgetP (w:World) (l:List UInt8) (en:Ending) (w':World):Prop:=Mod (fun _=>False) w w'∧match pTx l with
 | .ok (x,k)=>∃r,en= .returned (.tuple #[.agg (txr r),i64n k,i64n 0])∧TxLd w.heap.size w' r∧txP r=x
 | .error n=>en= .returned (.tuple #[.agg zTc,i64n 0,i64n n])
theorem slAll64 (p:Nat) (w:World):(Instr.sliceAt 101 (.pointer (some ⟨p,0,none⟩)) none none none).run Tryz.prog w= .ok (.slice (some ⟨p,0,none⟩) 64 64) w:=by kernel_rfl
theorem tcx_s (sa sa':Option Addr) (sn sn' sc sc':Nat) (m:McR):(tcx sa sn sc m).setIfInBounds 0 (.slice sa' sn' sc')=tcx sa' sn' sc' m:=mx_setpre (by simp) _
theorem tcx0' {sa:Option Addr} {sn sc:Nat} {m:McR} (h:0<(tcx sa sn sc m).size):(tcx sa sn sc m)[0]= .slice sa sn sc:=at_get (tcx0 ..) h
theorem zSg_size:zSg.size=64:=by simp[zSg]
attribute [local go_sem] tcx0' zSg_size
theorem RgetP.noOut {w w':World} {l:List UInt8} (h:RgetP w l .outgrown w'):False:=by
 unfold RgetP at h;split at h
 ·obtain⟨_,_,h,_⟩:=h;cases h
 ·cases h.2
theorem RgetP.noPan {w w':World} {l:List UInt8} {ch:List PanicEntry} (h:RgetP w l (.panicked ch) w'):False:=by
 unfold RgetP at h;split at h
 ·obtain⟨_,_,h,_⟩:=h;cases h
 ·cases h.2
theorem YAt.base {b b':Nat} {w:World} {a:Option Addr} {l:List UInt8} {c:Nat} (h:YAt b w a l c) (hb:b'≤b):YAt b' w a l c:=⟨h.1,fun x e=>⟨Nat.le_trans hb (h.2.1 x e).1,(h.2.1 x e).2⟩,h.2.2⟩
theorem MsgL.base {b b':Nat} {w:World} {r:RdR} (h:MsgL b w r) (hb:b'≤b):MsgL b' w r:=
 ⟨h.1.low hb,⟨h.2.1.1.low hb,fun i hi=>⟨(h.2.1.2 i hi).1.base hb,(h.2.1.2 i hi).2.base hb⟩⟩,h.2.2.1.low hb,fun i hi=>⟨(h.2.2.2 i hi).1.base hb,(h.2.2.2 i hi).2.base hb⟩⟩
theorem tcx_m (sa:Option Addr) (sc:Nat) (S:List Sg) (m:McR) (r:RdR) {sn:Nat} (h:S.length=sn):wr (tcx sa sn sc m) 1 (msr r).toList=txr {r with sg:=⟨sa,S,sc⟩}:=by
 subst h;apply Array.toList_inj.1;have h1:(msr r).toList.length=39:=by rw[Array.length_toList,msr_sz]
 rw[wr_list _ _ _ (by rw[tcx_size,h1];omega),h1];have e1:(tcx sa S.length sc m).toList=[.slice sa S.length sc]++(mpr m++(m.rc.l.map bc++mpo m)):=by simp[tcx,mx]
 have e3:(txr {r with sg:=⟨sa,S,sc⟩}).toList=[.slice sa S.length sc]++(msr r).toList:=by simp[txr,msr,mx,rpre,rpost]
 have h39:(mpr m++(m.rc.l.map bc++mpo m)).length=39:=by simp[mpr,mpo,m.rc.h]
 rw[e1,e3];generalize mpr m++(m.rc.l.map bc++mpo m)=X at *;rw[List.take_left' (by rfl),←List.drop_drop,List.drop_left' (by rfl),List.drop_of_length_le (by omega)];simp
theorem ldMsr {w:World} {p:Nat} {r:RdR} {U:TypeId} {fr:Nat×Nat} (h:w.heap[p]? =some (.cells (msr r) U fr)):(Instr.loadAt 33 (.pointer (some ⟨p,0,none⟩))).run Tryz.prog w= .ok (.agg (msr r)) w:=by
 rw[ldMsg,h];simp[msr_sz,msr_ex]
theorem ldTxr {w:World} {p:Nat} {r:RdR} {U:TypeId} {fr:Nat×Nat} (h:w.heap[p]? =some (.cells (txr r) U fr)):(Instr.loadAt 35 (.pointer (some ⟨p,0,none⟩))).run Tryz.prog w= .ok (.agg (txr r)) w:=by
 rw[ldTc,h];simp[txr_size,txr_all]
theorem rpget_c {a:Option Addr} {l:List UInt8} {c:Nat} (w:World) (hl:SlAt uc 1 w a l) (hc:l.length≤c) (hn:a=none→c=0) (hln:l.length≤900000) (hin:∀x,a=some x→x.block<w.heap.size):
  Calls Tryz.prog 100 #[.slice a l.length c] w (RpgetP w l):=by
 have HL:=Hi (Ai hl (Ai hc (Ai hn (Ai hln hin))));obtain⟨ll,hll⟩:∃ll,l.length=ll:=⟨_,rfl⟩;have HLL:=Hi hll;have hlb:ll≤900000:=by omega
 rw[hll];obtain⟨n,took,er,hg⟩:∃n took er,gsh 0 0 l=(n,took,er):=⟨_,_,_,rfl⟩;have HG:=Hi hg;clear hl hc hn hln hin hll hg;go_enter Tryz.func100,Tryz.ntmps100;go_upto_region 0 with fail;refine ZP0 [3,0,0] ?_;refine Za alTc fun p2 hp2=> ?_
 iterate 2 refine Zv ?_
 refine TD.nil (fun w1 hr=> ?_);obtain⟨gp2,kp2⟩:=hr.b p2;have m1:=hr.mod;clear hr;replace kp2:w1.heap[p2]? =some (.cells zTc 35 (0,0)):=kp2;have hw2:w.heap.size≤p2:=gp2;have hG:=rgsh_c a l c w1 (HL.out.1.mod0 m1) (by have:=HL.out.2.2.2.1;omega);rw[HLL.out,HG.out]at hG;have HG1:=Hi hG;clear hG;go_wp2_with fail;go_at_call 128;refine HG1.out.mono ?_;rintro e w2 ⟨rfl,m2⟩;replace kp2:=m2.at0 kp2;have HM2:=Hi (m1.trans m2);clear m1 m2 HG1;have hb:=bTx0;by_cases he:er=0
 ·subst he;have hne:((0:Int) !=0)=false:=rfl;have hfit:=gsh_fit l 0 0 (by decide) (by omega) (by rw[HG.out]);rw[HG.out]at hfit;simp only at hfit;have HFT:=Hi hfit;have htk:took≤ll:=by have:=HLL.out;omega
  have hn65:=hfit.1;clear hfit;go_upto_region 4 with fail;have Lkp2:=Ls kp2;refine ZP0 [0,3,4] ?_;refine Zu hb ?_;refine Za alTc fun p8 hp8=> ?_;refine Zt ?_;refine TD.nil (fun w3 hr=> ?_);replace kp2:=hr.q kp2;obtain⟨gp8,kp8⟩:=hr.b p8;replace kp8:w3.heap[p8]? =some (.cells (tcx none 0 0 mc0) 35 (0,0)):=kp8;have h28:p2≠p8:=by have:=Ls kp2;omega
  have h28l:p2<p8:=by have:=Ls kp2;omega
  have HM3:=Hi (HM2.out.trans hr.mod);have hw8:w.heap.size≤p8:=by have:=HM2.out.size;omega
  clear hr HM2;go_wp2_with fail;go_loopw [6,9] (fun s6 s9 ws=>∃(i at_ sc:Nat) (sa:Option Addr) (S:List Sg),i≤n∧s9= .int .i64 (i:Int)∧s6= .int .i64 (at_:Int)∧at_≤ll∧Hid (S.length=i)∧Hid (SlOwn sgc 64 101 ws (p8+1) (.slice sa i sc) S)∧Hid (Mod (fun _=>False) w ws)∧Hid (takeS n (l.drop took)=preS S (takeS (n-i) (l.drop at_)))∧ws.heap[p2]? =some (.cells zTc 35 (0,0))∧ws.heap[p8]? =some (.cells (tcx sa i sc mc0) 35 (0,0))) (fun _ s9 _=>n-(intOf s9).toNat)
  case atStart=>exact⟨0,took,0,none,[],by omega,rfl,rfl,htk,Hi rfl,Hi (SlOwn.nil _ _),HM3,Hi (by rw[preS_nil,Nat.sub_zero]),kp2,kp8⟩
  case round=>
   obtain⟨i,at_,sc,sa,S,hi,rfl,rfl,hat,HSi,HO,HM,HT,kp2,kp8⟩:=hrel;by_cases hlt:i<n
   ·have hd:=Dt hlt;have HDL:Hid ((l.drop at_).length=ll-at_):=Hi (by rw[List.length_drop,HLL.out]);obtain⟨d,hd0⟩:∃d,ll-at_=d:=⟨_,rfl⟩;have hdw:IntKind.i64.wrap ((ll:Int)-(at_:Int))=(d:Int):=by rw[IntKind.wrap_i64];omega
    by_cases h64:d<64
    ·have hdd:decide (d<64)=true:=Dt h64;have hdd1:decide ((d:Int)<64)=true:=Dt (by omega);have HE:Hid (pTx l= .error 5):=Hi (by
      unfold pTx;rw[HG.out];simp only[if_true];rw[HT.out,show n-i=(n-(i+1))+1 by omega,preS_none (by rw[HDL.out];omega)])
     go_upto_region 9 with fail;have Lkp2:=Ls kp2;refine ZP0 [0,5,0,0] ?_;refine Zu hb ?_;refine Zi fun w5 hr=> ?_;replace kp2:=hr.q kp2;have HM5:=Hi (HM.out.then0 hr.mod);clear hr;refine ZS ?_;refine ZM kp2 fun wn kp2 mS=> ?_;have HM6:=Hi (HM5.out.then mS (fun i hi e=>by omega));clear mS;refine Ze ?_;refine Ze ?_;refine TE.nil ?_;go_wp2_with fail;refine bodyPost_ret (results_ctt rfl rfl (ldTcZ kp2)) rfl ?_;unfold RpgetP;rw[HE.out];exact⟨HM6.out,rfl⟩
    ·have hdd:decide (d<64)=false:=Df h64;have hdd1:decide ((d:Int)<64)=false:=Df (by omega);obtain⟨at2,hat2⟩:∃at2,at_+64=at2:=⟨_,rfl⟩;have haw:IntKind.i64.wrap ((at_:Int)+64)=(at2:Int):=by rw[IntKind.wrap_i64];omega
     obtain⟨sp,hsp,hsat,-,-⟩:=sl_part (P:=Tryz.prog) bytesT (c:=c) (k:=at_) (m:=at_+64) HL.out.1 (by omega) (by rw[HLL.out];omega) HL.out.2.1 HL.out.2.2.1;rw[HLL.out,show at_+64-at_=64 by omega,hat2]at hsp;rw[show at_+64-at_=64 by omega]at hsat;have h64':64≤(l.drop at_).length:=by rw[HDL.out];omega
     have hT2:takeS n (l.drop took)=preS (S++[⟨(l.drop at_).take 64,by rw[List.length_take];omega⟩]) (takeS (n-(i+1)) (l.drop at2)):=by
      rw[HT.out,show n-i=(n-(i+1))+1 by omega,preS_step h64',List.drop_drop,hat2]
     obtain⟨x,hx⟩:∃x:Sg,x=⟨(l.drop at_).take 64,by rw[List.length_take];omega⟩:=⟨_,rfl⟩;rw[←hx]at hT2;have HT2:=Hi hT2;have HX:Hid (((l.drop at_).take 64).length=64∧(((l.drop at_).take 64).map bc).toArray=sgc x):=Hi ⟨by rw[List.length_take];omega,by rw[hx];rfl⟩;have HSA:=Hi hsat;clear hT2 hsat hx h64';go_upto_region 10 with fail;have Lkp2:=Ls kp2;have Lkp8:=Ls kp8;refine ZP0 [3] ?_;refine Za alSg fun p10 hp10=> ?_;refine TD.nil (fun w5 hr=> ?_);replace kp2:=hr.q kp2;replace kp8:=hr.q kp8;obtain⟨gp10,kp10⟩:=hr.b p10;have HM5:=Hi (HM.out.trans hr.mod);have HO5:=Hi (HO.out.mod0 hr.mod);clear hr;have hs5:=HSA.out _ (HL.out.1.mod0 HM5.out);have hsa:=slAll64;go_upto_region 11 with fail;have Lkp2:=Ls kp2;have Lkp8:=Ls kp8;have Lkp10:=Ls kp10;refine ZP [0,0,0,0,0,0,5] ?_
     iterate 5 refine Zv ?_
     refine Zx hsp ?_;refine Zi fun w6 hr=> ?_;replace kp2:=hr.q kp2;replace kp8:=hr.q kp8;replace kp10:=hr.q kp10;have hM6:=HM5.out.trans hr.mod;have hO6:=HO5.out.mod0 hr.mod;have hs6:=hs5.mod0 hr.mod;clear hr hsp hsa hs5;rcases hs6 with h|⟨b,o,C,U,fr,rfl,kb,hcc⟩
     ·have h1:=HX.out.1;rw[h]at h1;cases h1
     have hcp:=copy_all (ty:=3) (n1:=64) (c:=c-at_) kp10 zSg_size HX.out.1 kb hcc;rw[HX.out.2]at hcp;have h810:p8≠p10∧p2≠p10∧p8<p10:=by have:=Ls kp8;have:=HM.out.size;omega
     have HO6:=Hi hO6;have HM6:=Hi hM6;have hlo:=hO6.lt;clear hcc kb hO6 hM6;(refine eff_copy (by simp only[zK];rfl) (by rfl) rfl ?hx20 ?hz20 (hcp) ?n20;(case hx20=>simp only[zM];try rfl);(case hz20=>simp only[zM];try rfl);try simp only[zL]);refine TE.nil_set kp10 (fun wn kp10 mS=> ?_);have HM7:=Hi (HM6.out.then mS (fun i hi e=>by omega));have HO7:=Hi (HO6.out.mod mS (fun g hg e=>by have:=(HO.out.lt g hg).2;omega));replace kp2:=mS.at_ne kp2 h810.2.1;replace kp8:=mS.at_ne kp8 h810.1;clear mS hlo hcp;obtain⟨w7,rfl⟩:∃w7:World,w7=wn:=⟨_,rfl⟩;have hbs:=bsSg x;go_upto_region 12 with fail;refine region_seq 7 rfl ?_;simp only[List.range,List.range.loop];refine Zq ?_;refine Zr ?_;refine Zr ?_;(refine sq_new (by simp only[zK];rfl) (by rfl) rfl ?hx24 (hbs _) (fun q45 wn gq45 kq45 mq45=> ?n24);(case hx24=>(simp only[List.map_toArray,List.map_cons,List.map_nil,zM];(try rfl)));try simp only[zL]);have hLi:=HSi.out;have hO2:=HO7.out.mod0 mq45;have hMq:=HM7.out.then0 mq45;obtain⟨v8,w8',hap,hO8,m8,hn8⟩:=SlOwn.append sgT (q:=[x]) (c:=1) hO2 (SlAt.one kq45 x rfl (sgc_size x)) (by simp only[List.length_singleton];omega) (by decide) (by have:=Ls kp8;have:=mq45.size;omega) 24;obtain⟨a8,c8,rfl,-,-⟩:=hO8.at sgT;have hlen:(S++[x]).length=i+1:=by rw[List.length_append,hLi];rfl
     have hlo:=hO2.lt;have hM8:=hMq.then m8 (fun j hj e=>by have:=(hlo j e).1;omega);replace kp2:=m8.at (mq45.at0 kp2) (fun e=>by have:=(hlo _ e).1;omega);replace kp8:=m8.at (mq45.at0 kp8) (fun e=>by have:=(hlo _ e).1;omega);have hap2:(Builtin.append_ #[24,24] 24 #[.slice sa i sc,.slice (some ⟨q45,0,none⟩) 1 1]).run Tryz.prog wn= .ok (.slice a8 (i+1) c8) w8':=by
      have h1:=hap;rw[hlen]at h1;exact h1
     rw[hlen]at hO8;have HF:=Hi (Ai hO8 (Ai hM8 hlen));clear hap hO2 hMq hO8 m8 hn8 hlen hlo hM8 hLi mq45 kq45 gq45 hbs kp10 gp10;(refine sq_append (by simp only[zK];rfl) (by rfl) rfl ?hx25 ?hz25 hap2 ?n25;(case hx25=>simp only[zM];try rfl);(case hz25=>simp only[zM];try rfl);try simp only[zL]);refine Zq ?_;refine ZT ?_;refine ZQ kp8 fun wn kp8 mS=> ?_;refine sq_nil ?_;replace kp8:wn.heap[p8]? =some (.cells (tcx a8 (i+1) c8 mc0) 35 (0,0)):=by
      rw[kp8,tcx_s]
     have HM9:=Hi (HF.out.2.1.then mS (fun i hi e=>by omega));have HO9:=Hi (HF.out.1.mod mS (fun g hg e=>by have:=(HF.out.1.lt g hg).1;omega));replace kp2:=mS.at_ne kp2 h28;have HL9:=Hi HF.out.2.2;clear mS hap2;go_wp2_with fail;go_roundw
     case rel=>exact⟨i+1,at2,c8,a8,S++[x],by omega,by go_num,rfl,by omega,HL9,HO9,HM9,HT2,kp2,kp8⟩
     case measure=>simp[intOf];omega
   ·have hd:=Df hlt;obtain rfl:n=i:=by omega
    have hT0:takeS n (l.drop took)=some (S,l.drop at_):=by
     rw[HT.out,Nat.sub_self,takeS];simp[preS]
    have HT2:Hid (pTx l=pBind (pMsg (l.drop at_) 0) fun m k=> .ok (⟨S,m⟩,l.length-(l.drop at_).length+k)):=Hi (by
     unfold pTx;rw[HG.out];simp only[if_true];rw[hT0])
    clear hT0 HT;obtain⟨sp,hsp,hss,hsb,hsn⟩:=sl_from (P:=Tryz.prog) bytesT (c:=c) (k:=at_) HL.out.1 (by rw[HLL.out];exact hat) HL.out.2.1 HL.out.2.2.1;have HDL:Hid ((l.drop at_).length=ll-at_):=Hi (by rw[List.length_drop,HLL.out]);rw[HLL.out]at hsp;have hG:=rget3_c (a:=sp) (l:=l.drop at_) (c:=c-at_) _ (hss _ (HL.out.1.mod0 HM.out)) (by rw[HDL.out];have:=HL.out.2.1;have:=HLL.out;omega) (fun e=>by have:=HL.out.2.2.1 (hsn e);omega) (by rw[HDL.out];omega) (fun x e=>by
     obtain⟨y,hy,hyx⟩:=hsb x e;have:=HL.out.2.2.2.2 y hy;have:=HM.out.size;omega)
    rw[HDL.out]at hG;have hp8:=Ls kp8;have HP8:=Hi hp8;clear hss hsb hsn hp8;go_upto_region 14 with fail;refine region_seq 12 rfl ?_;simp only[List.range,List.range.loop]
    iterate 2 refine Zq ?_
    (refine sq_slice1 (by simp only[zK];rfl) (by rfl) rfl ?hx30 ?hz30 (hsp _) ?n30;(case hx30=>simp only[zM];try rfl);(case hz30=>simp only[zM];try rfl);try simp only[zL]);refine ZC hG ?hout (fun vn wn hR=> ?hret) (fun ch wn hR=> ?hpan)
    case hout=>exact fun w' h=>h.noOut
    case hpan=>exact hR.noPan.elim
    case hret=>
    obtain⟨hm,hr⟩:=hR;clear hG hsp;have HO2:=Hi (HO.out.mod0 hm);have HM2:=Hi (HM.out.trans hm);replace kp2:=hm.at0 kp2;replace kp8:=hm.at0 kp8;cases hres:pMsg (l.drop at_) 0 with
    |error e0=>
     rw[hres]at hr;simp only at hr;cases hr;have HE:Hid (pTx l= .error e0):=Hi (HT2.out.trans (pBind_err hres));have he0:((e0:Int) !=0)=true:=by
      have h1:=NE.msg (l.drop at_) 0;rw[NE,hres]at h1;simpa using fun e=>h1 (by rw[e])
     (try simp only[zL]);clear hm;obtain⟨w4,rfl⟩:∃w4:World,w4=wn:=⟨_,rfl⟩
     iterate 4 refine Zq ?_
     (refine sq_alloc (by simp only[zK];rfl) (by rfl) rfl alMsg (fun p11 wn gp11 kp11 mp11=> ?n36);try simp only[zL]);refine ZT ?_;refine ZQ kp11 fun wn kp11 mS=> ?_
     iterate 2 refine Zq ?_
     refine sq_nil ?_;have HM5:Hid (Mod (fun _=>False) w wn):=Hi ((HM2.out.trans mp11).then mS (fun i hi e=>by have:=HM2.out.size;omega));replace kp2:=mS.at_ne (mp11.at0 kp2) (by have:=Ls kp2;omega);clear mS mp11 kp11 kp8;obtain⟨w5,rfl⟩:∃w5:World,w5=wn:=⟨_,rfl⟩;go_upto_region 16 with fail;have Lkp2:=Ls kp2;refine ZP0 [0,0,5,0,0] ?_;refine Zu hb ?_;refine Zv ?_;refine Zi fun w6 hr=> ?_;replace kp2:=hr.q kp2;have HM6:=Hi (HM5.out.then0 hr.mod);clear hr;refine ZS ?_;refine ZM kp2 fun wn kp2 mS=> ?_;have HM7:=Hi (HM6.out.then mS (fun i hi e=>by omega));clear mS;refine Ze ?_;refine Ze ?_;refine TE.nil ?_;go_wp2_with fail;refine bodyPost_ret (results_ctt rfl rfl (ldTcZ kp2)) rfl ?_;unfold RpgetP;rw[HE.out];exact⟨HM7.out,rfl⟩
    |ok y=>
     obtain⟨x,k1⟩:=y;rw[hres]at hr;obtain⟨r,hv0,hv,hrx⟩:=hr;cases hv0;have hkb:=(PO.msg _ _ hres).1;rw[HDL.out]at hkb;obtain⟨kk,hkk⟩:∃kk,at_+k1=kk:=⟨_,rfl⟩;have hkw:IntKind.i64.wrap ((at_:Int)+(k1:Int))=(kk:Int):=by rw[IntKind.wrap_i64];omega
     have HE:Hid (pTx l= .ok (⟨S,x⟩,kk)):=Hi (by
      rw[HT2.out,pBind_ok hres,HLL.out,HDL.out,show ll-(ll-at_)+k1=kk by omega])
     have HV:=Hi hv;have HRX:=Hi hrx;(try simp only[zL]);have HMm:=Hi hm;clear hm hv hrx hkk hkb;obtain⟨w4,rfl⟩:∃w4:World,w4=wn:=⟨_,rfl⟩
     iterate 4 refine Zq ?_
     (refine sq_alloc (by simp only[zK];rfl) (by rfl) rfl alMsg (fun p11 wn gp11 kp11 mp11=> ?n50);try simp only[zL]);refine ZT ?_;refine ZQ kp11 fun wn kp11 mS=> ?_
     iterate 2 refine Zq ?_
     refine sq_nil ?_;replace kp11:wn.heap[p11]? =some (.cells (msr r) 33 (0,0)):=kp11;have m45:Mod (fun _=>False) w4 wn:=mp11.then mS (fun i hi e=>by omega);have h811:p8≠p11:=by have:=Ls kp8;omega
     have HM5:=Hi (HM2.out.trans m45);have HO5:=Hi (HO2.out.mod0 m45);have HV5:=Hi (HV.out.mod m45 (fun _ _ _ _ _ h=>h));replace kp2:=m45.at0 kp2;replace kp8:=m45.at0 kp8;clear mS mp11 m45;obtain⟨w5,rfl⟩:∃w5:World,w5=wn:=⟨_,rfl⟩;have H85:=Hi kp8;have hld:=fun w' h=>ldMsr (w:=w') (p:=p11) (r:=r) (U:=33) (fr:=(0,0)) h;go_upto_region 17 with fail;have Lkp2:=Ls kp2;have Lkp8:=Ls kp8;have Lkp11:=Ls kp11;refine ZP0 [1,0,5] ?_;(refine TD.load (v:= ?v54) (p:= ?p54) (Mod.refl _ _) (by simp only[zK];rfl) rfl (by rfl) rfl ?hx54 (fun wq hSq=> ?y54) ?n54;(case hx54=>simp only[zM];try rfl);(case y54=>(have kp2q:=hSq.at kp2 (fun h=>h);have kp8q:=hSq.at kp8 (fun h=>h);have kp11q:=hSq.at kp11 (fun h=>h);exact(hld _ kp11q)));try simp only[zL]);refine Zv ?_;refine Zi fun wE hr=> ?_;replace kp2:=hr.mod.at0 kp2;replace kp8:=hr.mod.at0 kp8;replace kp11:=hr.mod.at0 kp11;have mE:=hr.mod;refine ZS ?_;refine ZN kp8 fun w6 kp8 mS=> ?_;replace kp2:=mS.at_ne kp2 (by omega);replace kp11:=mS.at_ne kp11 (by omega);replace kp8:w6.heap[p8]? =some (.cells (txr {r with sg:=⟨sa,S,sc⟩}) 35 (0,0)):=by
      rw[kp8]
      first|rw[tcx_m sa sc S mc0 r HSi.out]|simp[tcx_m sa sc S mc0 r HSi.out]
     obtain⟨rr,hrr⟩:∃rr:RdR,rr= {r with sg:=⟨sa,S,sc⟩}:=⟨_,rfl⟩;rw[←hrr]at kp8;have m6:=(mE.mono (T:=fun i=>i=p8) (fun _ _ h=>h.elim)).trans mS;have HM6:=Hi (HM5.out.then m6 (fun i hi e=>by omega));have HO6:=Hi (HO5.out.mod m6 (fun g hg e=>by have:=(HO5.out.lt g hg).1;omega));have HK8:=Hi kp8;have HV6:=Hi (HV5.out.mod m6 (fun g C E hk hE e=>ty_ne H85.out hk (by rcases hE with rfl|rfl|rfl|rfl<;>decide) e));have HRR:=Hi hrr;clear mE mS m6 hr hrr kp11;have hldT:=fun w' h=>ldTxr (w:=w') (p:=p8) (r:=rr) (U:=35) (fr:=(0,0)) h;go_upto_region 18 with fail;have Lkp2:=Ls kp2;have Lkp8:=Ls kp8;refine ZP0 [1,0,0,0,5,0,0] ?_;(refine TD.load (v:= ?v57) (p:= ?p57) (Mod.refl _ _) (by simp only[zK];rfl) rfl (by rfl) rfl ?hx57 (fun wq hSq=> ?y57) ?n57;(case hx57=>simp only[zM];try rfl);(case y57=>(have kp2q:=hSq.at kp2 (fun h=>h);have kp8q:=hSq.at kp8 (fun h=>h);exact(hldT _ kp8q)));try simp only[zL])
     iterate 3 refine Zv ?_
     refine Zi fun w7 hr=> ?_;replace kp2:=hr.q kp2;replace kp8:=hr.q kp8;have HM7:=Hi (HM6.out.then0 hr.mod);have HO7:=Hi (HO6.out.mod0 hr.mod);have HV7:=Hi (HV6.out.mod hr.mod (fun _ _ _ _ _ h=>h));have HK2:=Hi kp2;clear hr hldT;refine ZS ?_;refine ZM kp2 fun wn kp2 mS=> ?_;replace kp2:wn.heap[p2]? =some (.cells (txr rr) 35 (0,0)):=kp2;have HM8:=Hi (HM7.out.then mS (fun i hi e=>by omega));have HO8:=Hi (HO7.out.mod mS (fun g hg e=>by have:=(HO7.out.lt g hg).1;omega));have HV8:=Hi (HV7.out.mod mS (fun g C E hk hE e=>ty_ne HK2.out hk (by rcases hE with rfl|rfl|rfl|rfl<;>decide) e));clear mS;refine Ze ?_;refine Ze ?_;refine TE.nil ?_;go_wp2_with fail;refine bodyPost_ret (results_ctt rfl rfl (ldTxr kp2)) rfl ?_;unfold RpgetP;rw[HE.out];have hb1:w.heap.size≤p8+1:=by omega
     refine⟨HM8.out,rr,rfl,?_,?_⟩
     ·rw[HRR.out];refine⟨?_,HV8.out.base HM.out.size⟩;show SlOwn sgc 64 101 wn w.heap.size (.slice sa S.length sc) S;rw[HSi.out];exact HO8.out.low hb1
     ·rw[HRR.out];show(⟨S,msgP r⟩:TxP)=⟨S,x⟩;rw[HRX.out]
 ·have HE:Hid (pTx l= .error er):=Hi (by
   unfold pTx;rw[HG.out];simp only;rw[if_neg he])
  have hne:((er:Int) !=0)=true:=by simpa using he
  go_upto_region 3 with fail;have Lkp2:=Ls kp2;refine ZP0 [0,0,5,0,0] ?_;refine Zu hb ?_;refine Zv ?_;refine Zi fun w6 hr=> ?_;replace kp2:=hr.q kp2;have HM6:=Hi (HM2.out.then0 hr.mod);clear hr;refine ZS ?_;refine ZM kp2 fun wn kp2 mS=> ?_;have HM7:=Hi (HM6.out.then mS (fun i hi e=>by omega));clear mS;refine Ze ?_;refine Ze ?_;refine TE.nil ?_;go_wp2_with fail;refine bodyPost_ret (results_ctt rfl rfl (ldTcZ kp2)) rfl ?_;unfold RpgetP;rw[HE.out];exact⟨HM7.out,rfl⟩
end
section
attribute [local go_sem↓] wlMsg ldMsg stMsg wlRg ldRg stRg wlTx ldTx
attribute [local go_sem] mgx_size mgx_ext mgx_one mgx_one0 zMsg_size zMsg_all zMsg_all0
attribute [local go_sem] tcx_size tcx_ext tcx_one tcx_one0 zTx_size zTc_size zTc_all zTc_all0
theorem NE.tx (l:List UInt8):NE (pTx l):=by
 unfold pTx;split
 ·split
  ·simp[NE]
  ·exact(NE.msg _ _).bind fun m k=>by simp[NE]
 ·rename_i h;simpa[NE] using h
end
section
attribute [local go_sem↓] wlMsg ldMsg stMsg
attribute [local go_sem] mgx_size mgx_ext mgx_one mgx_one0 zMsg_size zMsg_all zMsg_all0
attribute [local go_sem] zTc_size zTc_ext zTc_all zTc_all0 zTx_size
theorem TxLd.mod {b:Nat} {w w':World} {r:RdR} {S:Nat→Prop} (h:TxLd b w r) (hm:Mod S w w') (hS:Apt w S 0):TxLd b w' r:=
 ⟨h.1.mod hm (fun g hg=>by obtain⟨C,hk⟩:=own_blk2 h.1 g hg;exact hS g C _ (Nat.zero_le _) hk (.inl rfl)),h.2.mod hm (fun g C E hk hE=>hS g C E (Nat.zero_le _) hk (.inr (by
  rcases hE with h|h|h|h
  ·exact .inl h
  ·exact .inr (.inl h)
  ·exact .inr (.inr (.inl h))
  ·exact .inr (.inr (.inr h)))))⟩
theorem TxLd.mod0 {b:Nat} {w w':World} {r:RdR} (h:TxLd b w r) (hm:Mod (fun _=>False) w w'):TxLd b w' r:=h.mod hm (fun _ _ _ _ _ _ h=>h)
theorem TxLd.base {b b':Nat} {w:World} {r:RdR} (h:TxLd b w r) (hb:b'≤b):TxLd b' w r:=⟨h.1.low hb,h.2.base hb⟩
end
section
attribute [local go_sem↓] wlMsg ldMsg stMsg
attribute [local go_sem] mgx_size mgx_ext mgx_one mgx_one0 mg0 mg1 mg2 mg3 mg4 mg37 mg38 mg37' mg38'
theorem lits_u8S (b:UInt8) (d:Nat):Tryz.prog.keyLits (d+1) 5 [u8v b]=some [.int .u8 (b.toNat:Int)]:=by
 unfold Program.keyLits;rw[Tryz.underlying5];have h:=b.toNat_lt;have hw:(Lit.int .u8 (b.toNat:Int)).wf=true:=by
  have hmin:IntKind.u8.min=0:=rfl;have hmax:IntKind.u8.max=255:=rfl;simp only[Lit.wf,Bool.and_eq_true,decide_eq_true_eq];omega
 simp[hw]
theorem u8_cellsS:Tryz.prog.cellsOf 5=1:=by kernel_rfl
theorem hdr_cellsS:Tryz.prog.cellsOf 26=3:=by kernel_rfl
theorem eqHdr1 (a b c:UInt8) (w:World):(Op.equalIn 10000 26 (.agg #[u8v a,u8v b,u8v c]) (.agg #[u8v a,u8v b,u8v c])).run Tryz.prog w= .ok true w:=by
 obtain⟨lx,hx⟩:∃l,Tryz.prog.keyLits 2 26 [u8v a,u8v b,u8v c]=some l:=by
  unfold Program.keyLits;rw[Tryz.underlying26];simp[hdr_cellsS,u8_cellsS,lits_u8S _ 0]
 have hat:Tryz.prog.keyTypeAt 2 26=true:=by kernel_rfl
 have hti:Tryz.prog.tiled 2 26=true:=by kernel_rfl
 have hf:(Value.agg #[u8v a,u8v b,u8v c]).formed Tryz.prog 26=true:=by
  simp[Value.formed,Tryz.underlying26,hdr_cellsS]
 obtain⟨r,hr,hiff⟩:=run_equalIn_deep (P:=Tryz.prog) 9998 2 26 hat w 2 2 _ _ lx lx hf hf hx hx;rw[hr,hiff.2 rfl]
theorem hashIsS:IsKeyT Tryz.prog 29 5 where
 laid:=laid
 row:=of_decide_eq_true (by kernel_rfl)
 at2:=by kernel_rfl
 u:=Tryz.underlying29
 e:=Tryz.underlying5
 cK:=by kernel_rfl
 cE:=by kernel_rfl
 kt:=by kernel_rfl
theorem eqHashS (a b:Key) (w:World):(Op.equalIn 10000 29 (.agg (kc a)) (.agg (kc b))).run Tryz.prog w= .ok (decide (a=b)) w:=hashIsS.eqIn 9998 a b w
def zHdr:Array Value:= #[.int .u8 0,.int .u8 0,.int .u8 0]
theorem ldHdr (w:World) (b o:Nat):(Instr.loadAt 26 (.pointer (some ⟨b,o,none⟩))).run Tryz.prog w=
   match w.heap[b]? with
   |some (.cells cs _ _)=>if o+3≤cs.size then .ok (.agg (cs.extract o (o+3))) w else farL Tryz.prog w 26 b o
   |_=>farL Tryz.prog w 26 b o:=load_rule (d:=_) Tryz.underlying26 rfl (by kernel_rfl) w b o
theorem stHdr (w:World) (b o:Nat) (xs:Array Value):(Instr.storeAt 26 (.pointer (some ⟨b,o,none⟩)) (.agg xs)).run Tryz.prog w=
   match w.heap[b]? with
   |some (.cells cs U (0,0))=>
    if o+3≤cs.size∧xs.size=3∧xs.all (·.oneCell')=true then .ok () (setBlock w b (.cells (if o=0∧3=cs.size then xs else wr cs o xs.toList) U (0,0)))else farS Tryz.prog w 26 b o (.agg xs)
   |_=>farS Tryz.prog w 26 b o (.agg xs):=store_rule (by kernel_rfl) w b o xs
theorem wlHdr (dst:Option Tmp) (x:Operand) (ty:TypeId) (pos:String) (after:Array Edge) (g:Option (Nat×Bool)) (a:Act) (w:World) (K:Act→World→Prop) (Q:Exit→Act→World→Prop):
  Oper.wp Tryz.prog {dst:=dst,op:= .load 26 x,type:=ty,pos:=pos,after:=after,guard:=g} a w K Q=
   (match a.eval x with
   | .pointer (some ⟨b,o,none⟩)=>
    (match w.heap[b]? with
    |some (.cells cs _ _)=>if o+3≤cs.size then K (a.put dst (.agg (cs.extract o (o+3)))) w else farW Tryz.prog {dst:=dst,op:= .load 26 x,type:=ty,pos:=pos,after:=after,guard:=g} a w K Q
    |_=>farW Tryz.prog {dst:=dst,op:= .load 26 x,type:=ty,pos:=pos,after:=after,guard:=g} a w K Q)
   |_=>farW Tryz.prog {dst:=dst,op:= .load 26 x,type:=ty,pos:=pos,after:=after,guard:=g} a w K Q):=wp_load_rule (d:=_) Tryz.underlying26 rfl (by kernel_rfl) dst x ty pos after g a w K Q
theorem alHdr (w:World):(Instr.alloc 26 true (.tuple #[])).run Tryz.prog w= .ok (.pointer (some ⟨w.heap.size,0,none⟩)) (w.alloc (.cells zHdr 26)):=
 run_alloc_row (z:= .agg zHdr) (fun w=>by kernel_rfl) w
attribute [local go_sem↓] wlHs stHs wlHdr ldHdr stHdr eqHashS eqHdr1 eqKey1
theorem mgx_hd (v0:Bool) (h0 h1 h2:UInt8) (ka:Option Addr) (kn kc':Nat) (rc:Key) (ia:Option Addr) (n1 c1:Nat) (la:Option Addr) (n2 c2:Nat):(mgx v0 h0 h1 h2 ka kn kc' rc ia n1 c1 la n2 c2).extract 1 4= #[u8v h0,u8v h1,u8v h2]:=by
 simp[mgx,mx]
theorem mgx_hs (v0:Bool) (h0 h1 h2:UInt8) (ka:Option Addr) (kn kc':Nat) (rc:Key) (ia:Option Addr) (n1 c1:Nat) (la:Option Addr) (n2 c2:Nat):(mgx v0 h0 h1 h2 ka kn kc' rc ia n1 c1 la n2 c2).extract 5 37=kc rc:=by
 have:=part_of (pre:=[Value.bool v0,u8v h0,u8v h1,u8v h2,.slice ka kn kc']) (mid:=rc.l.map bc) (post:=[.slice ia n1 c1,.slice la n2 c2]) (a:=5) (b:=37) rfl (by simp[rc.h]);simpa[mgx,mx,kc] using this
theorem mg0' {v0:Bool} {h0 h1 h2:UInt8} {ka:Option Addr} {kn kc':Nat} {rc:Key} {ia:Option Addr} {n1 c1:Nat} {la:Option Addr} {n2 c2:Nat} (h:0<(mgx v0 h0 h1 h2 ka kn kc' rc ia n1 c1 la n2 c2).size):(mgx v0 h0 h1 h2 ka kn kc' rc ia n1 c1 la n2 c2)[0]= .bool v0:=at_get (mg0 ..) h
theorem mg4' {v0:Bool} {h0 h1 h2:UInt8} {ka:Option Addr} {kn kc':Nat} {rc:Key} {ia:Option Addr} {n1 c1:Nat} {la:Option Addr} {n2 c2:Nat} (h:4<(mgx v0 h0 h1 h2 ka kn kc' rc ia n1 c1 la n2 c2).size):(mgx v0 h0 h1 h2 ka kn kc' rc ia n1 c1 la n2 c2)[4]= .slice ka kn kc':=at_get (mg4 ..) h
attribute [local go_sem] mgx_hd mgx_hs mg0' mg4'
def MsgRd (w:World) (r:RdR):Prop:=(SlAt kc 32 w r.ks.a r.ks.l∧r.ks.l.length≤1000000)∧(SlAt inr 3 w r.ins.a r.ins.l∧r.ins.l.length≤1000000∧∀i∈r.ins.l,(SlAt uc 1 w i.a.a i.a.l∧i.a.l.length≤1000000)∧(SlAt uc 1 w i.d.a i.d.l∧i.d.l.length≤1000000))∧
 (SlAt lor 34 w r.lks.a r.lks.l∧r.lks.l.length≤1000000∧∀i∈r.lks.l,(SlAt uc 1 w i.w.a i.w.l∧i.w.l.length≤1000000)∧(SlAt uc 1 w i.r.a i.r.l∧i.r.l.length≤1000000))
theorem MsgRd.mod0 {w w':World} {r:RdR} (h:MsgRd w r) (hm:Mod (fun _=>False) w w'):MsgRd w' r:=
 ⟨⟨h.1.1.mod0 hm,h.1.2⟩,⟨h.2.1.1.mod0 hm,h.2.1.2.1,fun i hi=>⟨⟨(h.2.1.2.2 i hi).1.1.mod0 hm,(h.2.1.2.2 i hi).1.2⟩,⟨(h.2.1.2.2 i hi).2.1.mod0 hm,(h.2.1.2.2 i hi).2.2⟩⟩⟩,
  h.2.2.1.mod0 hm,h.2.2.2.1,fun i hi=>⟨⟨(h.2.2.2.2 i hi).1.1.mod0 hm,(h.2.2.2.2 i hi).1.2⟩,⟨(h.2.2.2.2 i hi).2.1.mod0 hm,(h.2.2.2.2 i hi).2.2⟩⟩⟩
def TxRd (w:World) (r:RdR):Prop:=(SlAt sgc 64 w r.sg.a r.sg.l∧r.sg.l.length≤1000000)∧MsgRd w r
theorem TxRd.mod0 {w w':World} {r:RdR} (h:TxRd w r) (hm:Mod (fun _=>False) w w'):TxRd w' r:=⟨⟨h.1.1.mod0 hm,h.1.2⟩,h.2.mod0 hm⟩
theorem in_partsS {w:World} {a:Option Addr} {l:List InR} (h:SlAt inr 3 w a l) {i:Nat} {x:InR} (hx:l[i]? =some x):∃g o C U fr,a=some ⟨g,o,none⟩∧w.heap[g]? =some (.cells C U fr)∧C[o+i*3]? =some (u8v x.p)∧C[o+i*3+1]? =some (.slice x.a.a x.a.l.length x.a.c)∧C[o+i*3+2]? =some (.slice x.d.a x.d.l.length x.d.c):=by
 obtain⟨g,o,C,U,fr,rfl,hk,he,_⟩:=h.block hx;exact⟨g,o,C,U,fr,rfl,hk,cellC he (j:=0) rfl,cellC he (j:=1) rfl,cellC he (j:=2) rfl⟩
theorem lo_partsS {w:World} {a:Option Addr} {l:List LoR} (h:SlAt lor 34 w a l) {i:Nat} {x:LoR} (hx:l[i]? =some x):∃g o C U fr,a=some ⟨g,o,none⟩∧w.heap[g]? =some (.cells C U fr)∧C.extract (o+i*34) (o+i*34+32)=kc x.t∧o+i*34+32≤C.size∧C[o+i*34+32]? =some (.slice x.w.a x.w.l.length x.w.c)∧C[o+i*34+33]? =some (.slice x.r.a x.r.l.length x.r.c):=by
 obtain⟨g,o,C,U,fr,rfl,hk,he,hle⟩:=h.block hx;refine⟨g,o,C,U,fr,rfl,hk,?_,by omega,cellC he (j:=32) (kx_get _ _ 0),cellC he (j:=33) (kx_get _ _ 1)⟩;have h1:(lor x).extract 0 32=kc x.t:=kx_key _ _;rw[←h1,←he,Array.extract_extract];congr 1;omega
theorem sameMsg_c (x y:RdR) (w:World) (hx:MsgRd w x) (hy:MsgRd w y) (hxy:msgP x=msgP y):Calls Tryz.prog 58 #[.agg (msr x),.agg (msr y)] w fun e w'=>e= .returned (.bool true)∧Mod (fun _=>False) w w':=by
 have HX:=Hi hx;have HY:=Hi hy;obtain⟨bx,sgx,v0,h0,h1,h2,ks,rc,ins,lks,rox,ux,px,badx,fx,cx,qx⟩:=x;obtain⟨by',sgy,v0',h0',h1',h2',ks',rc',ins',lks',roy,uy,py,bady,fy,cy,qy⟩:=y;simp only[msgP,MsP.mk.injEq]at hxy;obtain⟨rfl,rfl,rfl,rfl,hks,rfl,hin,hlk⟩:=hxy;obtain⟨ka,K,kcap⟩:=ks;obtain⟨ka',K',kcap'⟩:=ks';obtain⟨ia,I,ic⟩:=ins;obtain⟨ia',I',ic'⟩:=ins';obtain⟨la,L,lc⟩:=lks;obtain⟨la',L',lc'⟩:=lks';simp only at hks hin hlk;subst hks;have hnI:I'.length=I.length:=by have:=congrArg List.length hin;simpa using this.symm
 have hnL:L'.length=L.length:=by have:=congrArg List.length hlk;simpa using this.symm
 obtain⟨nK,hnK⟩:∃n,K.length=n:=⟨_,rfl⟩;obtain⟨nI,hI⟩:∃n,I.length=n:=⟨_,rfl⟩;obtain⟨nL,hL⟩:∃n,L.length=n:=⟨_,rfl⟩;rw[hI]at hnI;rw[hL]at hnL;show Calls Tryz.prog 58 #[.agg (mgx v0 h0 h1 h2 ka K.length kcap rc ia I.length ic la L.length lc),.agg (mgx v0 h0 h1 h2 ka' K.length kcap' rc ia' I'.length ic' la' L'.length lc')] w _;rw[hnK,hI,hL,hnI,hnL];have HN:=Hi (Ai hnK (Ai hI (Ai hL (Ai hnI (Ai hnL (Ai hin hlk))))));have hb1:nI≤1000000:=by rw[←hI];exact HX.out.2.1.2.1
 have hb2:nL≤1000000:=by rw[←hL];exact HX.out.2.2.2.1
 clear hx hy hnK hI hL hnI hnL hin hlk;go_enter Tryz.func58,Tryz.ntmps58;go_upto_region 0 with fail;refine ZP0 [3,3,0] ?_;refine Zb fun p2 hp2=> ?_;refine Zb fun p3 hp3=> ?_;obtain⟨ne_p3_p2,hp3⟩:=Bx.set_none hp3;refine Zv ?_;refine TD.nil (fun w1 hr=> ?_);obtain⟨gp2,kp2⟩:=hr.b p2 (by first|exact Bx.set_same _ _ _|(simp only[Bx.set_ne _ (Ne.symm ne_p3_p2),Bx.set_ne _ ne_p3_p2,Bx.set_same];rfl));obtain⟨gp3,kp3⟩:=hr.b p3 (by first|exact Bx.set_same _ _ _|(simp only[Bx.set_ne _ (Ne.symm ne_p3_p2),Bx.set_ne _ ne_p3_p2,Bx.set_same];rfl));have m1:=hr.mod;clear hr;have HSK:=Hi (sameK_c ka ka' K K kcap kcap' w1 (HX.out.1.1.mod0 m1) (HY.out.1.1.mod0 m1) HX.out.1.2);have hsk:=HSK.out;simp only[HN.out.1]at hsk;have HSK2:=Hi hsk;have HM1:=Hi m1;clear hsk HSK m1;go_wp2_with fail;go_at_call 102;refine HSK2.out.mono ?_;rintro e w2 ⟨rfl,m2⟩;replace kp2:=m2.at0 kp2;replace kp3:=m2.at0 kp3;have HM2:=Hi (HM1.out.trans m2);clear m2 HM1 HSK2;go_wp2_with fail;go_loopw [5] (fun s5 ws=>∃i:Nat,i≤nI∧s5= .int .i64 (i:Int)∧Hid (Mod (fun _=>False) w ws)∧ws.heap[p2]? =some (.cells (mgx v0 h0 h1 h2 ka nK kcap rc ia nI ic la nL lc) 33 (0,0))∧ws.heap[p3]? =some (.cells (mgx v0 h0 h1 h2 ka' nK kcap' rc ia' nI ic' la' nL lc') 33 (0,0))) (fun s5 _=>nI-(intOf s5).toNat)
 case atStart=>exact⟨0,by omega,rfl,HM2,kp2,kp3⟩
 case round=>
  obtain⟨i,hi,rfl,HM,kp2,kp3⟩:=hrel;by_cases hlt:i<nI
  ·--{
   have hd:=Dt hlt;obtain⟨x,hx⟩:∃x,I[i]? =some x:=⟨_,List.getElem?_eq_getElem (by have:=HN.out.2.1;omega)⟩;obtain⟨y,hy⟩:∃y,I'[i]? =some y:=⟨_,List.getElem?_eq_getElem (by have:=HN.out.2.2.2.1;omega)⟩;have hxy:inP x=inP y:=by
    have h1:=congrArg (fun z=>z[i]?) HN.out.2.2.2.2.2.1;simp only[List.getElem?_map,hx,hy,Option.map_some]at h1;exact Option.some.inj h1
   have hX:=(HX.out.mod0 HM.out).2.1.2.2 x (List.mem_of_getElem? hx);have hY:=(HY.out.mod0 HM.out).2.1.2.2 y (List.mem_of_getElem? hy);obtain⟨g,o,C,U,fr,hga,kg,c0,c1,c2⟩:=in_partsS (HX.out.mod0 HM.out).2.1.1 hx;obtain⟨g',o',C',U',fr',hga',kg',c0',c1',c2'⟩:=in_partsS (HY.out.mod0 HM.out).2.1.1 hy;simp only at hga hga';subst hga;subst hga';obtain⟨px,⟨ax,lx,cx⟩,⟨dx,mx',ex⟩⟩:=x;obtain⟨py,⟨ay,ly,cy⟩,⟨dy,my,ey⟩⟩:=y;simp only[inP,InP.mk.injEq]at hxy;obtain⟨rfl,rfl,rfl⟩:=hxy;simp only at c0 c1 c2 c0' c1' c2' hX hY;have HX2:=Hi hX;have HY2:=Hi hY;clear hx hy hX hY;go_upto_region 6 with fail;have Lkp2:=Ls kp2;have Lkp3:=Ls kp3;have Lkg:=Ls kg;have Lkg':=Ls kg';refine wp_gpass (T0:=fun _=>False) (K:=fun _ _=>True) (κ:=fun i=>[0,0,0,0,0,0,0,0,0,0,0,0,0,0,0,0,0,0,0,0,0,0,0,0,0,0,6,0,0,0,0,0,0,0,0,0,0,0,0,0,0,0,6,0,0].getD i 0) (υ:=fun _=>[]) [0,1,2,3,4,5,6,7,8,9,10,11,12,13,14,15,16,17,18,19,20,21,22,23,24,25,26,27,28,29,30,31,32,33,34,35,36,37,38,39,40,41,42,43,44] (by kernel_rfl) (by kernel_rfl) (Good.true).cl (trivial) (fun _ h=>h.elim) ?_;have gK:=Good.true;refine Zg ?_;refine Zh ?_
   iterate 3 refine Zg ?_
   refine Zh ?_;refine Zg ?_;refine Zh ?_
   iterate 3 refine Zg ?_
   refine Zh ?_
   iterate 3 refine Zg ?_
   refine Zh ?_
   iterate 3 refine Zg ?_
   refine Zh ?_;refine Zg ?_;refine Zh ?_
   iterate 3 refine Zg ?_
   refine Zh ?_;(refine ZG (fun v=>v= .bool true) gK ?_ (s:=fun T wq kq ltq hSq ub=>by exact(sameB_c _ _ _ _ _ _ wq (HX2.out.1.1.mod0 hSq) (HY2.out.1.1.mod0 hSq) HX2.out.1.2).mono (fun e w' h=>⟨_,h.1,by simp,h.2⟩));rintro v30 hC;subst hC;try simp only[zL])
   iterate 4 refine Zg ?_
   refine Zh ?_
   iterate 3 refine Zg ?_
   refine Zh ?_;refine Zg ?_;refine Zh ?_
   iterate 3 refine Zg ?_
   refine Zh ?_;(refine ZG (fun v=>v= .bool true) gK ?_ (s:=fun T wq kq ltq hSq ub=>by exact(sameB_c _ _ _ _ _ _ wq (HX2.out.2.1.mod0 hSq) (HY2.out.2.1.mod0 hSq) HX2.out.2.2).mono (fun e w' h=>⟨_,h.1,by simp,h.2⟩));rintro v46 hC;subst hC;try simp only[zL])
   iterate 2 refine Zg ?_
   refine TG.nil (fun w5 ⟨TR,hr⟩=> ?_);replace kp2:=hr.q kp2;replace kp3:=hr.q kp3;replace kg:=hr.q kg;replace kg':=hr.q kg';clear gK;have HM5:=Hi (HM.out.then0 hr.mod);clear hr c0 c1 c2 c0' c1' c2' kg kg' HX2 HY2;go_wp2_with fail;go_roundw
   case rel=>exact⟨i+1,by omega,by go_num,HM5,kp2,kp3⟩
   case measure=>simp[intOf];omega
  ·have hd:=Df hlt;clear hi hlt;go_wp2_with fail;go_loopw [6] (fun s6 ws=>∃i:Nat,i≤nL∧s6= .int .i64 (i:Int)∧Hid (Mod (fun _=>False) w ws)∧ws.heap[p2]? =some (.cells (mgx v0 h0 h1 h2 ka nK kcap rc ia nI ic la nL lc) 33 (0,0))∧ws.heap[p3]? =some (.cells (mgx v0 h0 h1 h2 ka' nK kcap' rc ia' nI ic' la' nL lc') 33 (0,0))) (fun s6 _=>nL-(intOf s6).toNat)
   case atStart=>exact⟨0,by omega,rfl,HM,kp2,kp3⟩
   case round=>
    obtain⟨i,hi,rfl,HM,kp2,kp3⟩:=hrel;by_cases hlt:i<nL
    ·--{
     have hd:=Dt hlt;obtain⟨x,hx⟩:∃x,L[i]? =some x:=⟨_,List.getElem?_eq_getElem (by have:=HN.out.2.2.1;omega)⟩;obtain⟨y,hy⟩:∃y,L'[i]? =some y:=⟨_,List.getElem?_eq_getElem (by have:=HN.out.2.2.2.2.1;omega)⟩;have hxy:loP x=loP y:=by
      have h1:=congrArg (fun z=>z[i]?) HN.out.2.2.2.2.2.2;simp only[List.getElem?_map,hx,hy,Option.map_some]at h1;exact Option.some.inj h1
     have hX:=(HX.out.mod0 HM.out).2.2.2.2 x (List.mem_of_getElem? hx);have hY:=(HY.out.mod0 HM.out).2.2.2.2 y (List.mem_of_getElem? hy);obtain⟨g,o,C,U,fr,hga,kg,c0,hle,c1,c2⟩:=lo_partsS (HX.out.mod0 HM.out).2.2.1 hx;obtain⟨g',o',C',U',fr',hga',kg',c0',hle',c1',c2'⟩:=lo_partsS (HY.out.mod0 HM.out).2.2.1 hy;simp only at hga hga';subst hga;subst hga';obtain⟨px,⟨ax,lx,cx⟩,⟨dx,mx',ex⟩⟩:=x;obtain⟨py,⟨ay,ly,cy⟩,⟨dy,my,ey⟩⟩:=y;simp only[loP,LoP.mk.injEq]at hxy;obtain⟨rfl,rfl,rfl⟩:=hxy;simp only at c0 c1 c2 c0' c1' c2' hX hY;have HX2:=Hi hX;have HY2:=Hi hY;clear hx hy hX hY;go_upto_region 11 with fail;have Lkp2:=Ls kp2;have Lkp3:=Ls kp3;have Lkg:=Ls kg;have Lkg':=Ls kg';refine wp_gpass (T0:=fun _=>False) (K:=fun _ _=>True) (κ:=fun i=>[0,0,0,0,0,0,0,0,0,0,0,0,0,0,0,0,0,0,0,0,0,0,0,0,0,0,6,0,0,0,0,0,0,0,0,0,0,0,0,0,0,0,6,0,0].getD i 0) (υ:=fun _=>[]) [0,1,2,3,4,5,6,7,8,9,10,11,12,13,14,15,16,17,18,19,20,21,22,23,24,25,26,27,28,29,30,31,32,33,34,35,36,37,38,39,40,41,42,43,44] (by kernel_rfl) (by kernel_rfl) (Good.true).cl (trivial) (fun _ h=>h.elim) ?_;have gK:=Good.true;refine Zg ?_;refine Zh ?_
     iterate 3 refine Zg ?_
     refine Zh ?_;refine Zg ?_;refine Zh ?_
     iterate 3 refine Zg ?_
     refine Zh ?_
     iterate 3 refine Zg ?_
     refine Zh ?_
     iterate 3 refine Zg ?_
     refine Zh ?_;refine Zg ?_;refine Zh ?_
     iterate 3 refine Zg ?_
     refine Zh ?_;(refine ZG (fun v=>v= .bool true) gK ?_ (s:=fun T wq kq ltq hSq ub=>by exact(sameB_c _ _ _ _ _ _ wq (HX2.out.1.1.mod0 hSq) (HY2.out.1.1.mod0 hSq) HX2.out.1.2).mono (fun e w' h=>⟨_,h.1,by simp,h.2⟩));rintro v75 hC;subst hC;try simp only[zL])
     iterate 4 refine Zg ?_
     refine Zh ?_
     iterate 3 refine Zg ?_
     refine Zh ?_;refine Zg ?_;refine Zh ?_
     iterate 3 refine Zg ?_
     refine Zh ?_;(refine ZG (fun v=>v= .bool true) gK ?_ (s:=fun T wq kq ltq hSq ub=>by exact(sameB_c _ _ _ _ _ _ wq (HX2.out.2.1.mod0 hSq) (HY2.out.2.1.mod0 hSq) HX2.out.2.2).mono (fun e w' h=>⟨_,h.1,by simp,h.2⟩));rintro v91 hC;subst hC;try simp only[zL])
     iterate 2 refine Zg ?_
     refine TG.nil (fun w5 ⟨TR,hr⟩=> ?_);replace kp2:=hr.q kp2;replace kp3:=hr.q kp3;replace kg:=hr.q kg;replace kg':=hr.q kg';clear gK;have HM5:=Hi (HM.out.then0 hr.mod);clear hr c0 c1 c2 c0' c1' c2' kg kg' HX2 HY2 hle hle';go_wp2_with fail;go_roundw
     case rel=>exact⟨i+1,by omega,by go_num,HM5,kp2,kp3⟩
     case measure=>simp[intOf];omega
    ·have hd:=Df hlt;go_wp2_with fail;go_ret;exact⟨rfl,HM.out⟩
end
section
attribute [local go_sem↓] wlMsg ldMsg stMsg
attribute [local go_sem] mgx_size mgx_ext mgx_one mgx_one0 mg0 mg1 mg2 mg3 mg4 mg37 mg38 mg37' mg38'
theorem txr_ms (x:RdR):(txr x).extract 1 40=msr x:=by
 have:=part_of (pre:=[Value.slice x.sg.a x.sg.l.length x.sg.c]) (mid:=(rpre x).drop 2++(x.rc.l.map bc++(rpost x).take 2)) (post:=[]) (a:=1) (b:=40) rfl (by simp[rpre,rpost,x.rc.h]);simpa[txr,msr,mx,rpre,rpost] using this
attribute [local go_sem] txr_ms txr0 txr0'
theorem sameTx_c (x y:RdR) (w:World) (hx:TxRd w x) (hy:TxRd w y) (hxy:txP x=txP y):Calls Tryz.prog 17 #[.agg (txr x),.agg (txr y)] w fun e w'=>e= .returned (.bool true)∧Mod (fun _=>False) w w':=by
 have HX:=Hi hx;have HY:=Hi hy;have hs:x.sg.l=y.sg.l:=congrArg TxP.sg hxy;have hm:msgP x=msgP y:=congrArg TxP.m hxy;have HS:=Hi (Ai hs hm);clear hx hy hxy hs hm;go_enter Tryz.func17,Tryz.ntmps17;go_upto_region 0 with fail;refine ZP0 [3,3,0] ?_;refine Zb fun p2 hp2=> ?_;refine Zb fun p3 hp3=> ?_;obtain⟨ne_p3_p2,hp3⟩:=Bx.set_none hp3;refine Zv ?_;refine TD.nil (fun w1 hr=> ?_);obtain⟨gp2,kp2⟩:=hr.b p2 (by first|exact Bx.set_same _ _ _|(simp only[Bx.set_ne _ (Ne.symm ne_p3_p2),Bx.set_ne _ ne_p3_p2,Bx.set_same];rfl));obtain⟨gp3,kp3⟩:=hr.b p3 (by first|exact Bx.set_same _ _ _|(simp only[Bx.set_ne _ (Ne.symm ne_p3_p2),Bx.set_ne _ ne_p3_p2,Bx.set_same];rfl));have m1:=hr.mod;clear hr;have HM1:=Hi m1;have HC:=Hi (sameS_c x.sg.a y.sg.a x.sg.l y.sg.l x.sg.c y.sg.c w1 (HX.out.1.1.mod0 m1) (HY.out.1.1.mod0 m1) HX.out.1.2);clear m1;go_wp2_with fail;go_at_call 57;refine HC.out.mono ?_;rintro e w2 ⟨rfl,m2⟩;replace kp2:=m2.at0 kp2;replace kp3:=m2.at0 kp3;have hdd:decide (x.sg.l=y.sg.l)=true:=Dt HS.out.1;rw[hdd];have HM2:=Hi (HM1.out.trans m2);clear m2 HM1 HC hdd;go_wp2_with fail;go_at_call 58;refine(sameMsg_c x y _ (HX.out.mod0 HM2.out).2 (HY.out.mod0 HM2.out).2 HS.out.2).mono ?_;rintro e w3 ⟨rfl,m3⟩;have HM3:=Hi (HM2.out.trans m3);clear m3;go_wp2_with fail;go_ret;exact⟨rfl,HM3.out⟩
end
section
attribute [local go_sem↓] eqKey1
attribute [local go_sem] sgc_size sgc_ext sgc_one0 sgc_one' txr0 txr38 txr39 txr0' txr38' txr39' zTx_size
attribute [local go_sem↓] wlLo ldLo stLo wlIn ldIn stIn
theorem txr2 (x:RdR):(txr x)[2]? =some (.int .u8 (x.h0.toNat:Int)):=mx_pre (i:=2) (by simp[rpre])
theorem txr5 (x:RdR):(txr x)[5]? =some (.slice x.ks.a x.ks.l.length x.ks.c):=mx_pre (i:=5) (by simp[rpre])
theorem txr2' (x:RdR) (h:2<(txr x).size):(txr x)[2]= .int .u8 (x.h0.toNat:Int):=at_get (txr2 x) h
theorem txr5' (x:RdR) (h:5<(txr x).size):(txr x)[5]= .slice x.ks.a x.ks.l.length x.ks.c:=at_get (txr5 x) h
theorem txr_hd (x:RdR):(txr x).extract 2 5= #[.int .u8 (x.h0.toNat:Int),.int .u8 (x.h1.toNat:Int),.int .u8 (x.h2.toNat:Int)]:=by
 have:=part_of (pre:=((rpre x).drop 1).take 2) (mid:=[u8v x.h0,u8v x.h1,u8v x.h2]) (post:=((rpre x).drop 6)++(x.rc.l.map bc++(rpost x).take 2)) (a:=2) (b:=5) rfl rfl;simp[txr,mx,rpre]
theorem lor_size (x:LoR):(lor x).size=34:=kx_size _ _
theorem lor_one (x:LoR):(lor x).all (·.oneCell') 0 34=true:=all_of (lor_size x) (kx_one _ _ rfl)
theorem zLo_size:zLo.size=34:=lor_size _
theorem lor32' (x:LoR) (h:32<(lor x).size):(lor x)[32]= .slice x.w.a x.w.l.length x.w.c:=at_get (lor32 x) h
theorem lor33' (x:LoR) (h:33<(lor x).size):(lor x)[33]= .slice x.r.a x.r.l.length x.r.c:=at_get (lor33 x) h
attribute [local go_sem] txr2 txr5 txr2' txr5' txr_hd lor32 lor33 lor32' lor33' zLo_size lor_size lor_one
def loSum (l:List LoR):Nat:=(l.map (fun x=>x.w.l.length+x.r.l.length)).sum
theorem loSum_snoc {l:List LoR} {i:Nat} {x:LoR} (h:l[i]? =some x):loSum (l.take (i+1))=loSum (l.take i)+(x.w.l.length+x.r.l.length):=by
 rw[List.take_add_one,h];simp[loSum]
theorem loSum_leB {l:List LoR} {B:Nat} (h:∀x∈l,x.w.l.length+x.r.l.length≤B):∀i,loSum (l.take i)≤i*B
 |0=>by simp[loSum]
 |i+1=>by
  have ih:=loSum_leB h i;rw[Nat.succ_mul];cases hx:l[i]? with
  |none=>
   have:l.take (i+1)=l.take i:=by rw[List.take_add_one,hx];simp
   rw[this];omega
  |some x=>
   rw[loSum_snoc hx];have:=h x (List.mem_of_getElem? hx);omega
theorem loSum_le {l:List LoR} (h:∀x∈l,x.w.l.length≤1000000∧x.r.l.length≤1000000) (i:Nat):loSum (l.take i)≤i*2000000:=loSum_leB (fun x hx=>by have:=h x hx;omega) i
theorem tot_eq (x:RdR):totP (txP x)=x.ks.l.length+loSum x.lks.l:=by
 simp[totP,txP,msgP,loSum,loP,List.map_map,Function.comp_def]
theorem total_c (x:RdR) (w:World) (h:TxRd w x):Calls Tryz.prog 26 #[.agg (txr x)] w fun e w'=>e= .returned (.int .i64 ((totP (txP x):Nat):Int))∧Mod (fun _=>False) w w':=by
 rw[tot_eq];have HX:=Hi h;obtain⟨nK,hnK⟩:∃n,x.ks.l.length=n:=⟨_,rfl⟩;obtain⟨nL,hnL⟩:∃n,x.lks.l.length=n:=⟨_,rfl⟩;have hbK:nK≤1000000:=by rw[←hnK];exact h.2.1.2
 have hbL:nL≤1000000:=by rw[←hnL];exact h.2.2.2.2.1
 have hT:=loSum_le (l:=x.lks.l) (fun y hy=>⟨(h.2.2.2.2.2 y hy).1.2,(h.2.2.2.2.2 y hy).2.2⟩);have HT:=Hi hT;have HN:=Hi (Ai hnK hnL);rw[hnK];clear h hT;go_enter Tryz.func26,Tryz.ntmps26;go_upto_region 0 with fail;refine ZP0 [3,0] ?_;refine Zb fun p1 hp1=> ?_;refine Zv ?_;refine TD.nil (fun w1 hr=> ?_);obtain⟨gp1,kp1⟩:=hr.b p1;have m1:=hr.mod;clear hr;go_wp2_with fail;go_loopw [3,14] (fun s3 s14 ws=>∃i t:Nat,i≤nL∧s14= .int .i64 (i:Int)∧s3= .int .i64 (t:Int)∧Hid (t=nK+loSum (x.lks.l.take i))∧Mod (fun _=>False) w ws) (fun _ s14 _=>nL-(intOf s14).toNat)
 case atStart=>exact⟨0,nK,by omega,rfl,by first|rfl|simp[hnK],Hi (by simp[loSum]),m1⟩
 case round=>
  obtain⟨i,t,hi,rfl,rfl,HTT,hm⟩:=hrel;by_cases hlt:i<nL
  ·have hd:=Dt hlt;obtain⟨y,hy⟩:∃y,x.lks.l[i]? =some y:=⟨_,List.getElem?_eq_getElem (by omega)⟩;obtain⟨g,o,C,U,fr,hga,kg,he,hle⟩:=((HX.out.mod0 hm).2.2.2.1).block hy;have hy1:=(HX.out.2.2.2.2.2 y (List.mem_of_getElem? hy)).1.2;have hy2:=(HX.out.2.2.2.2.2 y (List.mem_of_getElem? hy)).2.2;have htb:t≤1000000+i*2000000:=by have:=HT.out i;have:=HTT.out;omega
   have HS:=Hi (loSum_snoc hy);obtain⟨a,ha⟩:∃a,y.w.l.length=a:=⟨_,rfl⟩;obtain⟨b,hb⟩:∃b,y.r.l.length=b:=⟨_,rfl⟩;rw[ha]at hy1;rw[hb]at hy2;have hw1:IntKind.i64.wrap ((a:Int)+(b:Int))=((a+b:Nat):Int):=by rw[IntKind.wrap_i64];omega
   obtain⟨s,hs⟩:∃s,a+b=s:=⟨_,rfl⟩;rw[hs]at hw1;have hw2:IntKind.i64.wrap ((t:Int)+(s:Int))=((t+s:Nat):Int):=by rw[IntKind.wrap_i64];omega
   clear hy;go_upto_region 4 with fail;have Lkg:=Ls kg;refine ZP0 [0,1,3,4] ?_;refine Zv ?_;refine Zd ?_;refine Za alLo fun p5 hp5=> ?_;refine Zt ?_;refine TD.nil (fun w3 hr=> ?_);replace kg:=hr.q kg;obtain⟨gp5,kp5⟩:=hr.b p5;have hm3:=hm.then0 hr.mod;clear hr he hle kg;go_wp2_with fail;go_roundw
   case rel=>exact⟨i+1,t+s,by omega,by go_num,rfl,Hi (by rw[HS.out,HTT.out];omega),hm3⟩
   case measure=>simp[intOf];omega
  ·obtain rfl:nL=i:=by omega
   have HE:Hid (t=nK+loSum x.lks.l):=Hi (by
    have:=HTT.out;rw[List.take_of_length_le (by omega)]at this;exact this)
   go_wp2_with fail;go_ret;exact⟨by rw[HE.out];rfl,hm⟩
theorem signed_c (x:RdR) (w:World):Calls Tryz.prog 66 #[.agg (txr x)] w fun e w'=>e= .returned (.bool (signedP (txP x)))∧Mod (fun _=>False) w w':=by
 have hP:signedP (txP x)=(decide (0<x.h0.toNat)&&decide (x.sg.l.length=x.h0.toNat)):=rfl;rw[hP];obtain⟨n,hn⟩:∃n,x.sg.l.length=n:=⟨_,rfl⟩;obtain⟨k,hk⟩:∃k,x.h0.toNat=k:=⟨_,rfl⟩;have hkb:k<256:=by rw[←hk];exact x.h0.toNat_lt
 have hw:IntKind.i64.wrap (k:Int)=(k:Int):=by rw[IntKind.wrap_i64];omega
 rw[hn,hk];go_enter Tryz.func66,Tryz.ntmps66;go_upto_region 0 with fail;refine ZP0 [3,0] ?_;refine Zb fun p1 hp1=> ?_;refine Zv ?_;refine TD.nil (fun w1 hr=> ?_);obtain⟨gp1,kp1⟩:=hr.b p1;have m1:=hr.mod;clear hr;by_cases h0:0<k
 ·have hd1:=Dt h0;by_cases h1:n=k
  ·have hd2:=Dt h1;go_wp2_with fail;go_ret;exact⟨by first|rfl|(simp[h0,h1];done)|(simp[h0,h1];omega),m1⟩
  ·have hd2:=Df h1;go_wp2_with fail;go_ret;exact⟨by first|rfl|(simp[h0,h1];done)|(simp[h0,h1];omega),m1⟩
 ·have hd1:=Df h0;go_wp2_with fail;go_ret;exact⟨by first|rfl|(simp[h0];done)|(simp[h0];omega),m1⟩
theorem few_c (x:RdR) (w:World) (h:TxRd w x):Calls Tryz.prog 69 #[.agg (txr x)] w fun e w'=>e= .returned (.bool (fewP (txP x)))∧Mod (fun _=>False) w w':=by
 have HX:=Hi h;clear h;unfold fewP;obtain⟨t,ht⟩:∃t,totP (txP x)=t:=⟨_,rfl⟩;rw[ht];go_enter Tryz.func69,Tryz.ntmps69;go_upto_region 0 with fail;refine ZP0 [3,0] ?_;refine Zb fun p1 hp1=> ?_;refine Zv ?_;refine TD.nil (fun w1 hr=> ?_);obtain⟨gp1,kp1⟩:=hr.b p1;have m1:=hr.mod;clear hr;go_wp2_with fail;go_at_call 26;refine(total_c x _ (HX.out.mod0 m1)).mono ?_;rintro e w2 ⟨rfl,m2⟩;have m3:=m1.trans m2;rw[ht];go_wp2_with fail;go_ret;exact⟨by first|rfl|(simp;done)|(simp;omega),m3⟩
end
section
attribute [local go_sem↓] eqKey1
attribute [local go_sem] sgc_size sgc_ext sgc_one0 sgc_one' txr0 txr38 txr39 txr0' txr38' txr39' zTx_size
attribute [local go_sem↓] wlLo ldLo stLo wlIn ldIn stIn
theorem inrR_size (y:InR):(inr y).size=3:=rfl
theorem inrR_all (y:InR):(inr y).extract 0 3=inr y:=rfl
theorem inrR_one (y:InR):(inr y).all (·.oneCell') 0 3=true:=by simp[inr,Value.oneCell']
theorem zInR_size:zIn.size=3:=rfl
attribute [local go_sem] txr2 txr5 txr2' txr5' txr_hd lor32 lor33 lor32' lor33' zLo_size lor_size lor_one inrR_size inrR_all inrR_one zInR_size
theorem idxL_c (a:Option Addr) (l:List LoR) (c:Nat) (w:World) (hl:SlAt lor 34 w a l) (hb:l.length≤1000000) (p:LoR→Bool) (hF:∀y∈l,∀w1,Mod (fun _=>False) w w1→Calls Tryz.prog 110 #[.agg (lor y)] w1 fun e w'=>e= .returned (.bool (p y))∧Mod (fun _=>False) w1 w'):
  Calls Tryz.prog 130 #[.slice a l.length c,.func (.func 110) #[] #[]] w fun e w'=>(∃r:Int,e= .returned (.int .i64 r)∧decide (r≥0)=l.any p)∧Mod (fun _=>False) w w':=by
 obtain⟨n,hn⟩:∃n,l.length=n:=⟨_,rfl⟩;have HL:=Hi (Ai hl (Ai hF hn));rw[hn]at hb⊢;clear hl hF hn;go_enter Tryz.func130,Tryz.ntmps130;go_wp2_with fail;go_loopw [8] (fun s8 ws=>∃i:Nat,i≤n∧s8= .int .i64 (i:Int)∧Hid ((l.take i).any p=false)∧Mod (fun _=>False) w ws) (fun s8 _=>n-(intOf s8).toNat)
 case atStart=>exact⟨0,Nat.zero_le _,rfl,Hi (by simp),Mod.refl _ _⟩
 case round=>
  obtain⟨i,hi,rfl,HN,hm⟩:=hrel;by_cases hlt:i<n
  ·have hd:=Dt hlt;obtain⟨y,hy⟩:∃y,l[i]? =some y:=⟨_,List.getElem?_eq_getElem (by have:=HL.out.2.2;omega)⟩;obtain⟨g,o,C,U,fr,ha,kg,he,hle⟩:=(HL.out.1.mod0 hm).block hy;have HY:=Hi hy;have HM:=Hi hm;subst ha;skip;clear hy hm;go_wp2_with fail;go_at_call 110;refine(HL.out.2.1 y (List.mem_of_getElem? HY.out) _ HM.out).mono ?_;rintro e w2 ⟨rfl,m2⟩;have hm2:=HM.out.trans m2;have HT:=Hi (show(l.take (i+1)).any p=((l.take i).any p||p y)by rw[List.take_add_one,HY.out];simp);have HW:Hid (p y=true→l.any p=true):=Hi (fun h=>List.any_eq_true.2 ⟨y,List.mem_of_getElem? HY.out,h⟩);clear m2;cases hp:p y with
   |true=>
    have HA:=Hi (HW.out hp);clear hp;go_wp2_with fail;go_ret;exact⟨⟨_,rfl,by rw[HA.out];exact Dt (by omega)⟩,hm2⟩
   |false=>
    have HT2:Hid ((l.take (i+1)).any p=false):=Hi (by rw[HT.out,HN.out,hp];rfl);clear hp;go_wp2_with fail;go_roundw
    case rel=>exact⟨i+1,by omega,by go_num,HT2,hm2⟩
    case measure=>simp[intOf];omega
  ·have hd:=Df hlt;have HE:Hid (l.any p=false):=Hi (by
    have:=HN.out;rw[List.take_of_length_le (by have:=HL.out.2.2;omega)]at this;exact this)
   clear HL HN;go_wp2_with fail;go_ret;exact⟨⟨_,rfl,by rw[HE.out];rfl⟩,hm⟩
theorem contL_c (a:Option Addr) (l:List LoR) (c:Nat) (w:World) (hl:SlAt lor 34 w a l) (hb:l.length≤1000000) (p:LoR→Bool) (hF:∀y∈l,∀w1,Mod (fun _=>False) w w1→Calls Tryz.prog 110 #[.agg (lor y)] w1 fun e w'=>e= .returned (.bool (p y))∧Mod (fun _=>False) w1 w'):
  Calls Tryz.prog 109 #[.slice a l.length c,.func (.func 110) #[] #[]] w fun e w'=>e= .returned (.bool (l.any p))∧Mod (fun _=>False) w w':=by
 have HI:=Hi (idxL_c a l c w hl hb p hF);obtain⟨n,hn⟩:∃n,l.length=n:=⟨_,rfl⟩;obtain⟨b,hbb⟩:∃b,l.any p=b:=⟨_,rfl⟩;have hI:=HI.out;simp only[hn,hbb]at hI;have HI2:=Hi hI;rw[hn,hbb];clear hl hF hb hI HI hn hbb;go_enter Tryz.func109,Tryz.ntmps109;go_wp2_with fail;go_at_call 130;refine HI2.out.mono ?_;rintro e w2 ⟨⟨r,rfl,hr⟩,m2⟩;go_wp2_with fail;go_ret;exact⟨by first|rfl|(rw[←hr])|simp_all,m2⟩
theorem idxI_c (q1 q2:Nat) (a:Option Addr) (l:List InR) (c:Nat) (w:World) (hl:SlAt inr 3 w a l) (hb:l.length≤1000000) (p:InR→Bool) (hF:∀y∈l,∀w1,Mod (fun _=>False) w w1→Calls Tryz.prog 112 #[.agg (inr y),pV q1,pV q2] w1 fun e w'=>e= .returned (.bool (p y))∧Mod (fun _=>False) w1 w'):
  Calls Tryz.prog 131 #[.slice a l.length c,.func (.func 112) #[] #[pV q1,pV q2]] w fun e w'=>(∃r:Int,e= .returned (.int .i64 r)∧decide (r≥0)=l.any p)∧Mod (fun _=>False) w w':=by
 obtain⟨n,hn⟩:∃n,l.length=n:=⟨_,rfl⟩;have HL:=Hi (Ai hl (Ai hF hn));rw[hn]at hb⊢;clear hl hF hn;go_enter Tryz.func131,Tryz.ntmps131;go_wp2_with fail;go_loopw [8] (fun s8 ws=>∃i:Nat,i≤n∧s8= .int .i64 (i:Int)∧Hid ((l.take i).any p=false)∧Mod (fun _=>False) w ws) (fun s8 _=>n-(intOf s8).toNat)
 case atStart=>exact⟨0,Nat.zero_le _,rfl,Hi (by simp),Mod.refl _ _⟩
 case round=>
  obtain⟨i,hi,rfl,HN,hm⟩:=hrel;by_cases hlt:i<n
  ·have hd:=Dt hlt;obtain⟨y,hy⟩:∃y,l[i]? =some y:=⟨_,List.getElem?_eq_getElem (by have:=HL.out.2.2;omega)⟩;obtain⟨g,o,C,U,fr,ha,kg,he,hle⟩:=(HL.out.1.mod0 hm).block hy;have HY:=Hi hy;have HM:=Hi hm;subst ha;skip;clear hy hm;go_wp2_with fail;go_at_call 112;refine(HL.out.2.1 y (List.mem_of_getElem? HY.out) _ HM.out).mono ?_;rintro e w2 ⟨rfl,m2⟩;have hm2:=HM.out.trans m2;have HT:=Hi (show(l.take (i+1)).any p=((l.take i).any p||p y)by rw[List.take_add_one,HY.out];simp);have HW:Hid (p y=true→l.any p=true):=Hi (fun h=>List.any_eq_true.2 ⟨y,List.mem_of_getElem? HY.out,h⟩);clear m2;cases hp:p y with
   |true=>
    have HA:=Hi (HW.out hp);clear hp;go_wp2_with fail;go_ret;exact⟨⟨_,rfl,by rw[HA.out];exact Dt (by omega)⟩,hm2⟩
   |false=>
    have HT2:Hid ((l.take (i+1)).any p=false):=Hi (by rw[HT.out,HN.out,hp];rfl);clear hp;go_wp2_with fail;go_roundw
    case rel=>exact⟨i+1,by omega,by go_num,HT2,hm2⟩
    case measure=>simp[intOf];omega
  ·have hd:=Df hlt;have HE:Hid (l.any p=false):=Hi (by
    have:=HN.out;rw[List.take_of_length_le (by have:=HL.out.2.2;omega)]at this;exact this)
   clear HL HN;go_wp2_with fail;go_ret;exact⟨⟨_,rfl,by rw[HE.out];rfl⟩,hm⟩
theorem contI_c (q1 q2:Nat) (a:Option Addr) (l:List InR) (c:Nat) (w:World) (hl:SlAt inr 3 w a l) (hb:l.length≤1000000) (p:InR→Bool) (hF:∀y∈l,∀w1,Mod (fun _=>False) w w1→Calls Tryz.prog 112 #[.agg (inr y),pV q1,pV q2] w1 fun e w'=>e= .returned (.bool (p y))∧Mod (fun _=>False) w1 w'):
  Calls Tryz.prog 111 #[.slice a l.length c,.func (.func 112) #[] #[pV q1,pV q2]] w fun e w'=>e= .returned (.bool (l.any p))∧Mod (fun _=>False) w w':=by
 have HI:=Hi (idxI_c q1 q2 a l c w hl hb p hF);obtain⟨n,hn⟩:∃n,l.length=n:=⟨_,rfl⟩;obtain⟨b,hbb⟩:∃b,l.any p=b:=⟨_,rfl⟩;have hI:=HI.out;simp only[hn,hbb]at hI;have HI2:=Hi hI;rw[hn,hbb];clear hl hF hb hI HI hn hbb;go_enter Tryz.func111,Tryz.ntmps111;go_wp2_with fail;go_at_call 131;refine HI2.out.mono ?_;rintro e w2 ⟨⟨r,rfl,hr⟩,m2⟩;go_wp2_with fail;go_ret;exact⟨by first|rfl|(rw[←hr])|simp_all,m2⟩
theorem idxB_c (q1:Nat) (a:Option Addr) (l:List UInt8) (c:Nat) (w:World) (hl:SlAt uc 1 w a l) (hb:l.length≤1000000) (p:UInt8→Bool) (hF:∀y∈l,∀w1,Mod (fun _=>False) w w1→Calls Tryz.prog 113 #[u8v y,pV q1] w1 fun e w'=>e= .returned (.bool (p y))∧Mod (fun _=>False) w1 w'):
  Calls Tryz.prog 132 #[.slice a l.length c,.func (.func 113) #[] #[pV q1]] w fun e w'=>(∃r:Int,e= .returned (.int .i64 r)∧decide (r≥0)=l.any p)∧Mod (fun _=>False) w w':=by
 obtain⟨n,hn⟩:∃n,l.length=n:=⟨_,rfl⟩;have HL:=Hi (Ai hl (Ai hF hn));rw[hn]at hb⊢;clear hl hF hn;go_enter Tryz.func132,Tryz.ntmps132;go_wp2_with fail;go_loopw [8] (fun s8 ws=>∃i:Nat,i≤n∧s8= .int .i64 (i:Int)∧Hid ((l.take i).any p=false)∧Mod (fun _=>False) w ws) (fun s8 _=>n-(intOf s8).toNat)
 case atStart=>exact⟨0,Nat.zero_le _,rfl,Hi (by simp),Mod.refl _ _⟩
 case round=>
  obtain⟨i,hi,rfl,HN,hm⟩:=hrel;by_cases hlt:i<n
  ·have hd:=Dt hlt;obtain⟨y,hy⟩:∃y,l[i]? =some y:=⟨_,List.getElem?_eq_getElem (by have:=HL.out.2.2;omega)⟩;obtain⟨g,o,C,U,fr,ha,kg,he,hle⟩:=(HL.out.1.mod0 hm).block hy;have HY:=Hi hy;have HM:=Hi hm;subst ha;have c0:=cellC (j:=0) he (v:=u8v y) rfl;simp only[Nat.mul_one,Nat.add_zero]at c0;clear hy hm;go_wp2_with fail;go_at_call 113;refine(HL.out.2.1 y (List.mem_of_getElem? HY.out) _ HM.out).mono ?_;rintro e w2 ⟨rfl,m2⟩;have hm2:=HM.out.trans m2;have HT:=Hi (show(l.take (i+1)).any p=((l.take i).any p||p y)by rw[List.take_add_one,HY.out];simp);have HW:Hid (p y=true→l.any p=true):=Hi (fun h=>List.any_eq_true.2 ⟨y,List.mem_of_getElem? HY.out,h⟩);clear m2;cases hp:p y with
   |true=>
    have HA:=Hi (HW.out hp);clear hp;go_wp2_with fail;go_ret;exact⟨⟨_,rfl,by rw[HA.out];exact Dt (by omega)⟩,hm2⟩
   |false=>
    have HT2:Hid ((l.take (i+1)).any p=false):=Hi (by rw[HT.out,HN.out,hp];rfl);clear hp;go_wp2_with fail;go_roundw
    case rel=>exact⟨i+1,by omega,by go_num,HT2,hm2⟩
    case measure=>simp[intOf];omega
  ·have hd:=Df hlt;have HE:Hid (l.any p=false):=Hi (by
    have:=HN.out;rw[List.take_of_length_le (by have:=HL.out.2.2;omega)]at this;exact this)
   clear HL HN;go_wp2_with fail;go_ret;exact⟨⟨_,rfl,by rw[HE.out];rfl⟩,hm⟩
theorem contB_c (q1:Nat) (a:Option Addr) (l:List UInt8) (c:Nat) (w:World) (hl:SlAt uc 1 w a l) (hb:l.length≤1000000) (p:UInt8→Bool) (hF:∀y∈l,∀w1,Mod (fun _=>False) w w1→Calls Tryz.prog 113 #[u8v y,pV q1] w1 fun e w'=>e= .returned (.bool (p y))∧Mod (fun _=>False) w1 w'):
  Calls Tryz.prog 114 #[.slice a l.length c,.func (.func 113) #[] #[pV q1]] w fun e w'=>e= .returned (.bool (l.any p))∧Mod (fun _=>False) w w':=by
 have HI:=Hi (idxB_c q1 a l c w hl hb p hF);obtain⟨n,hn⟩:∃n,l.length=n:=⟨_,rfl⟩;obtain⟨b,hbb⟩:∃b,l.any p=b:=⟨_,rfl⟩;have hI:=HI.out;simp only[hn,hbb]at hI;have HI2:=Hi hI;rw[hn,hbb];clear hl hF hb hI HI hn hbb;go_enter Tryz.func114,Tryz.ntmps114;go_wp2_with fail;go_at_call 132;refine HI2.out.mono ?_;rintro e w2 ⟨⟨r,rfl,hr⟩,m2⟩;go_wp2_with fail;go_ret;exact⟨by first|rfl|(rw[←hr])|simp_all,m2⟩
end
section
attribute [local go_sem↓] eqKey1
attribute [local go_sem] sgc_size sgc_ext sgc_one0 sgc_one' txr0 txr38 txr39 txr0' txr38' txr39' zTx_size
attribute [local go_sem↓] wlLo ldLo stLo wlIn ldIn stIn wlHdr ldHdr stHdr
attribute [local go_sem] txr2 txr5 txr2' txr5' txr_hd lor32 lor33 lor32' lor33' zLo_size lor_size lor_one inrR_size inrR_all inrR_one zInR_size
theorem inrR0 (y:InR):(inr y)[0]? =some (.int .u8 (y.p.toNat:Int)):=rfl
theorem inrR1 (y:InR):(inr y)[1]? =some (.slice y.a.a y.a.l.length y.a.c):=rfl
theorem inrR0' (y:InR) (h:0<(inr y).size):(inr y)[0]= .int .u8 (y.p.toNat:Int):=rfl
theorem inrR1' (y:InR) (h:1<(inr y).size):(inr y)[1]= .slice y.a.a y.a.l.length y.a.c:=rfl
theorem zHdrR_size:zHdr.size=3:=rfl
attribute [local go_sem] inrR0 inrR1 inrR0' inrR1' zHdrR_size
theorem looked1_c (y:LoR) (w:World) (h1:y.w.l.length≤1000000) (h2:y.r.l.length≤1000000):Calls Tryz.prog 110 #[.agg (lor y)] w fun e w'=>e= .returned (.bool (decide (y.w.l.length+y.r.l.length=0)))∧Mod (fun _=>False) w w':=by
 obtain⟨a,ha⟩:∃a,y.w.l.length=a:=⟨_,rfl⟩;obtain⟨b,hb⟩:∃b,y.r.l.length=b:=⟨_,rfl⟩;rw[ha]at h1⊢;rw[hb]at h2⊢;have hw1:IntKind.i64.wrap ((a:Int)+(b:Int))=((a+b:Nat):Int):=by rw[IntKind.wrap_i64];omega
 obtain⟨s,hs⟩:∃s,a+b=s:=⟨_,rfl⟩;rw[hs]at hw1⊢;have HS:=Hi hs;clear hs;go_enter Tryz.func110,Tryz.ntmps110;go_upto_region 0 with fail;refine ZP0 [3,0] ?_;refine Zb fun p1 hp1=> ?_;refine Zv ?_;refine TD.nil (fun w1 hr=> ?_);obtain⟨gp1,kp1⟩:=hr.b p1;have m1:=hr.mod;clear hr;by_cases h0:s=0
 ·have hd1:=Dt h0;have hd2:decide ((s:Int)=0)=true:=Dt (by omega);go_wp2_with fail;go_ret;exact⟨by first|rfl|(simp[h0];done)|(simp[h0];omega),m1⟩
 ·have hd1:=Df h0;have hd2:decide ((s:Int)=0)=false:=Df (by omega);go_wp2_with fail;go_ret;exact⟨by first|rfl|(simp[h0];done)|(simp[h0];omega),m1⟩
theorem looked_eq (x:RdR):lookedP (txP x)= !(x.lks.l.any (fun y=>decide (y.w.l.length+y.r.l.length=0))):=by
 unfold lookedP;show(x.lks.l.map loP).all _=_;rw[List.all_map,List.not_any_eq_all_not];congr 1;funext y;show decide (¬(y.w.l.length+y.r.l.length=0))= !decide (y.w.l.length+y.r.l.length=0);rw[decide_not]
theorem looked_c (x:RdR) (w:World) (h:TxRd w x):Calls Tryz.prog 68 #[.agg (txr x)] w fun e w'=>e= .returned (.bool (lookedP (txP x)))∧Mod (fun _=>False) w w':=by
 rw[looked_eq];have HX:=Hi h;clear h;obtain⟨b,hb⟩:∃b,x.lks.l.any (fun y=>decide (y.w.l.length+y.r.l.length=0))=b:=⟨_,rfl⟩;rw[hb];go_enter Tryz.func68,Tryz.ntmps68;go_upto_region 0 with fail;refine ZP0 [3,0] ?_;refine Zb fun p1 hp1=> ?_;refine Zv ?_;refine TD.nil (fun w1 hr=> ?_);obtain⟨gp1,kp1⟩:=hr.b p1;have m1:=hr.mod;clear hr;have HC:=Hi (contL_c x.lks.a x.lks.l x.lks.c w1 (HX.out.mod0 m1).2.2.2.1 HX.out.2.2.2.2.1 (fun y=>decide (y.w.l.length+y.r.l.length=0)) (fun y hy w2 _=>looked1_c y w2 (HX.out.2.2.2.2.2 y hy).1.2 (HX.out.2.2.2.2.2 y hy).2.2));have hC:=HC.out;rw[hb]at hC;have HC2:=Hi hC;clear hC HC hb;go_wp2_with fail;go_at_call 109;refine HC2.out.mono ?_;rintro e w2 ⟨rfl,m2⟩;have m3:=m1.trans m2;go_wp2_with fail;go_ret;exact⟨by first|rfl|(simp;done)|(cases b<;>rfl),m3⟩
theorem headed_c (x:RdR) (w:World):Calls Tryz.prog 67 #[.agg (txr x)] w fun e w'=>e= .returned (.bool (headedP (txP x)))∧Mod (fun _=>False) w w':=by
 have hP:headedP (txP x)=(decide (x.h1.toNat<x.h0.toNat)&&decide (x.h0.toNat+x.h2.toNat≤x.ks.l.length)):=rfl;rw[hP];obtain⟨n,hn⟩:∃n,x.ks.l.length=n:=⟨_,rfl⟩;obtain⟨a,ha⟩:∃k,x.h0.toNat=k:=⟨_,rfl⟩;obtain⟨b,hb⟩:∃k,x.h1.toNat=k:=⟨_,rfl⟩;obtain⟨c,hc⟩:∃k,x.h2.toNat=k:=⟨_,rfl⟩;have hab:a<256:=by rw[←ha];exact x.h0.toNat_lt
 have hcb:c<256:=by rw[←hc];exact x.h2.toNat_lt
 have hwa:IntKind.i64.wrap (a:Int)=(a:Int):=by rw[IntKind.wrap_i64];omega
 have hwc:IntKind.i64.wrap (c:Int)=(c:Int):=by rw[IntKind.wrap_i64];omega
 have hws:IntKind.i64.wrap ((a:Int)+(c:Int))=((a+c:Nat):Int):=by rw[IntKind.wrap_i64];omega
 obtain⟨s,hs⟩:∃s,a+c=s:=⟨_,rfl⟩;rw[hn,ha,hb,hc,hs];rw[hs]at hws;have HS:=Hi hs;clear hs;go_enter Tryz.func67,Tryz.ntmps67;go_upto_region 0 with fail;refine ZP0 [3,0] ?_;refine Zb fun p1 hp1=> ?_;refine Zv ?_;refine TD.nil (fun w1 hr=> ?_);obtain⟨gp1,kp1⟩:=hr.b p1;have m1:=hr.mod;clear hr;by_cases h0:b<a
 ·have hd1:=Dt h0;by_cases h1:s≤n
  ·have hd2:=Dt h1;go_upto_region 1 with fail;have Lkp1:=Ls kp1;refine ZP0 [0,0,1,3,4] ?_
   iterate 3 first|refine Zv ?_|refine Zd ?_
   refine Za alHdr fun p3 hp3=> ?_;refine Zt ?_;refine TD.nil (fun w2 hr=> ?_);replace kp1:=hr.q kp1;obtain⟨gp3,kp3⟩:=hr.b p3;have m2:=m1.then0 hr.mod;clear hr;go_wp2_with fail;go_ret;exact⟨by first|rfl|(simp[h0,h1];done)|(simp[h0,h1];omega),m2⟩
  ·have hd2:=Df h1;go_upto_region 1 with fail;have Lkp1:=Ls kp1;refine ZP0 [0,0,1,3,4] ?_
   iterate 3 first|refine Zv ?_|refine Zd ?_
   refine Za alHdr fun p3 hp3=> ?_;refine Zt ?_;refine TD.nil (fun w2 hr=> ?_);replace kp1:=hr.q kp1;obtain⟨gp3,kp3⟩:=hr.b p3;have m2:=m1.then0 hr.mod;clear hr;go_wp2_with fail;go_ret;exact⟨by first|rfl|(simp[h0,h1];done)|(simp[h0,h1];omega),m2⟩
 ·have hd1:=Df h0;go_upto_region 1 with fail;have Lkp1:=Ls kp1;refine ZP0 [0,0,1,3,4] ?_
  iterate 3 first|refine Zv ?_|refine Zd ?_
  refine Za alHdr fun p3 hp3=> ?_;refine Zt ?_;refine TD.nil (fun w2 hr=> ?_);replace kp1:=hr.q kp1;obtain⟨gp3,kp3⟩:=hr.b p3;have m2:=m1.then0 hr.mod;clear hr;go_wp2_with fail;go_ret;exact⟨by first|rfl|(simp[h0];done)|(simp[h0];omega),m2⟩
end
section
attribute [local go_sem↓] eqKey1
attribute [local go_sem] sgc_size sgc_ext sgc_one0 sgc_one' txr0 txr38 txr39 txr0' txr38' txr39' zTx_size
attribute [local go_sem↓] wlLo ldLo stLo wlIn ldIn stIn
attribute [local go_sem] txr2 txr5 txr2' txr5' txr_hd inrR_size inrR_all inrR_one zInR_size inrR0 inrR1 inrR0' inrR1'
theorem alIntR (w:World):(Instr.alloc 3 true (.tuple #[])).run Tryz.prog w= .ok (.pointer (some ⟨w.heap.size,0,none⟩)) (w.alloc (.cells #[.int .i64 0] 3)):=by kernel_rfl
theorem point2_c (q1 A:Nat) (c:UInt8) (w:World) (k1:w.heap[q1]? =some (.cells #[.int .i64 (A:Int)] 3 (0,0))):Calls Tryz.prog 113 #[u8v c,pV q1] w fun e w'=>e= .returned (.bool (decide (A≤c.toNat)))∧Mod (fun _=>False) w w':=by
 obtain⟨k,hk⟩:∃k,c.toNat=k:=⟨_,rfl⟩;have hkb:k<256:=by rw[←hk];exact c.toNat_lt
 have hw:IntKind.i64.wrap (k:Int)=(k:Int):=by rw[IntKind.wrap_i64];omega
 show Calls Tryz.prog 113 #[.int .u8 (c.toNat:Int),pV q1] w _;rw[hk];by_cases h:A≤k
 ·have hd:=Dt h;go_enter Tryz.func113,Tryz.ntmps113;go_wp2_with fail;go_ret;exact⟨by first|rfl|(simp[h];done)|(simp[h];omega),Mod.refl _ _⟩
 ·have hd:=Df h;go_enter Tryz.func113,Tryz.ntmps113;go_wp2_with fail;go_ret;exact⟨by first|rfl|(simp[h];done)|(simp[h];omega),Mod.refl _ _⟩
theorem point_eq (K A:Nat) (y:InR):(!pointP K A (inP y))=(decide (y.p.toNat=0)||decide (K≤y.p.toNat)||y.a.l.any (fun c=>decide (A≤c.toNat))):=by
 unfold pointP inP;simp only[Bool.not_and,List.not_all_eq_any_not];rw[←decide_not,←decide_not];congr 1
 ·congr 1
  ·simp
  ·simp
 ·congr 1;funext c;rw[←decide_not];simp
theorem point1_c (q1 q2 A K:Nat) (y:InR) (w:World) (k1:w.heap[q1]? =some (.cells #[.int .i64 (A:Int)] 3 (0,0))) (k2:w.heap[q2]? =some (.cells #[.int .i64 (K:Int)] 3 (0,0))) (hl:SlAt uc 1 w y.a.a y.a.l) (hb:y.a.l.length≤1000000):Calls Tryz.prog 112 #[.agg (inr y),pV q1,pV q2] w fun e w'=>e= .returned (.bool (!pointP K A (inP y)))∧Mod (fun _=>False) w w':=by
 rw[point_eq];obtain⟨k,hk⟩:∃k,y.p.toNat=k:=⟨_,rfl⟩;have hkb:k<256:=by rw[←hk];exact y.p.toNat_lt
 have hw:IntKind.i64.wrap (k:Int)=(k:Int):=by rw[IntKind.wrap_i64];omega
 obtain⟨b,hbb⟩:∃b,y.a.l.any (fun c=>decide (A≤c.toNat))=b:=⟨_,rfl⟩;have HL:=Hi (Ai hl hb);have hmf:=hmf;rw[hk,hbb];clear hl hb;go_enter Tryz.func112,Tryz.ntmps112;go_upto_region 0 with fail;have Lk1:=Ls k1;have Lk2:=Ls k2;refine ZP0 [3,0] ?_;refine Zb fun p3 hp3=> ?_;refine Zv ?_;refine TD.nil (fun w1 hr=> ?_);replace k1:=hr.q k1;replace k2:=hr.q k2;obtain⟨gp3,kp3⟩:=hr.b p3;have m1:=hr.mod;clear hr;by_cases h0:k=0
 ·have hd:=Dt h0;have hd2:decide ((k:Int)=0)=true:=Dt (by omega);go_wp2_with fail;go_ret;exact⟨by first|rfl|(simp[h0];done),m1⟩
 ·have hd:=Df h0;have hd2:decide ((k:Int)=0)=false:=Df (by omega);by_cases h1:K≤k
  ·have hd3:=Dt h1;go_wp2_with fail;go_ret;exact⟨by first|rfl|(simp[h1];done),m1⟩
  ·have hd3:=Df h1;have HC:=Hi (contB_c q1 y.a.a y.a.l y.a.c w1 (HL.out.1.mod0 m1) HL.out.2 (fun c=>decide (A≤c.toNat)) (fun c _ w2 m=>point2_c q1 A c w2 (m.at0 k1)));have hC:=HC.out;rw[hbb]at hC;have HC2:=Hi hC;clear hC HC hbb;go_wp2_with fail;go_at_call 114;refine HC2.out.mono ?_;rintro e w2 ⟨rfl,m2⟩;have m3:=m1.trans m2;go_wp2_with fail;go_ret;exact⟨by first|rfl|(simp[h0,h1];done),m3⟩
theorem pointed_eq (x:RdR):pointedP (txP x)= !(x.ins.l.any (fun y=> !pointP x.ks.l.length (totP (txP x)) (inP y))):=by
 unfold pointedP;show(x.ins.l.map inP).all _=_;rw[List.all_map,List.not_any_eq_all_not];congr 1;funext y;simp only[Bool.not_not];rfl
theorem pointed_c (x:RdR) (w:World) (h:TxRd w x):Calls Tryz.prog 70 #[.agg (txr x)] w fun e w'=>e= .returned (.bool (pointedP (txP x)))∧Mod (fun _=>False) w w':=by
 rw[pointed_eq];have HX:=Hi h;clear h;obtain⟨b,hb⟩:∃b,x.ins.l.any (fun y=> !pointP x.ks.l.length (totP (txP x)) (inP y))=b:=⟨_,rfl⟩;obtain⟨T,hT⟩:∃T,totP (txP x)=T:=⟨_,rfl⟩;obtain⟨n,hn⟩:∃n,x.ks.l.length=n:=⟨_,rfl⟩;have HB:=Hi hb;have HT:=Hi hT;rw[hb];clear hb hT;have hmf:=hmf;go_enter Tryz.func70,Tryz.ntmps70;go_upto_region 0 with fail;refine ZP0 [3,0] ?_;refine Zb fun p1 hp1=> ?_;refine Zv ?_;refine TD.nil (fun w1 hr=> ?_);obtain⟨gp1,kp1⟩:=hr.b p1;have m1:=hr.mod;clear hr;have HM1:=Hi m1;clear m1;go_upto_region 1 with fail;have Lkp1:=Ls kp1;refine ZR (fun _ _ v=>v= .int .i64 (T:Int)) [0,0,1,0,1,2,3,3,4,4] ?_
 iterate 5 first|refine Zv ?_|refine Zd ?_
 (refine Zc ?_ (s:=by intro wq hSq;exact(total_c x wq ((HX.out.mod0 HM1.out).mod0 hSq)).mono (fun e w' h=>⟨_,h.1,by rw[HT.out],h.2⟩));rintro _ hC;subst hC;try simp only[zL]);refine Za alIntR fun p3 hp3=> ?_;refine Za alIntR fun p4 hp4=> ?_;obtain⟨ne_p4_p3,hp4⟩:=Bx.set_none hp4;(refine TD.storeB (d:= ?d13) (T:= ?T13) (y:= ?y13) (p:= ?p13) (b:= ?b13) (v:= ?v13) (by simp only[zK];rfl) rfl (by rfl) ?hd13 ?hop13 ?hev13 ?hx13 ?hb13 ?htag13 (fun w1 hb1=> ?hy13) ?hn13;(case hd13=>rfl);(case hop13=>rfl);(case hev13=>(simp only[zM];(try rfl)));(case hx13=>simp only[zM];try rfl);(case hb13=>first|exact Bx.set_same _ _ _|(simp only[Bx.set_ne _ (Ne.symm ne_p4_p3),Bx.set_ne _ ne_p4_p3,Bx.set_same];rfl));(case hy13=>(go_simp;(try first|with_reducible rfl|(rw[setCell_blk hb1];rfl))));try simp only[zL]);(refine TD.storeB (d:= ?d14) (T:= ?T14) (y:= ?y14) (p:= ?p14) (b:= ?b14) (v:= ?v14) (by simp only[zK];rfl) rfl (by rfl) ?hd14 ?hop14 ?hev14 ?hx14 ?hb14 ?htag14 (fun w1 hb1=> ?hy14) ?hn14;(case hd14=>rfl);(case hop14=>rfl);(case hev14=>(simp only[zM];(try rfl)));(case hx14=>simp only[zM];try rfl);(case hb14=>first|exact Bx.set_same _ _ _|(simp only[Bx.set_ne _ (Ne.symm ne_p4_p3),Bx.set_ne _ ne_p4_p3,Bx.set_same];rfl));(case hy14=>(go_simp;(try first|with_reducible rfl|(rw[setCell_blk hb1];rfl))));try simp only[zL]);refine TD.nil (fun w2 hr=> ?_);replace kp1:=hr.q kp1;obtain⟨gp3,kp3⟩:=hr.b p3 (by first|exact Bx.set_same _ _ _|(simp only[Bx.set_ne _ (Ne.symm ne_p4_p3),Bx.set_ne _ ne_p4_p3,Bx.set_same];rfl));obtain⟨gp4,kp4⟩:=hr.b p4 (by first|exact Bx.set_same _ _ _|(simp only[Bx.set_ne _ (Ne.symm ne_p4_p3),Bx.set_ne _ ne_p4_p3,Bx.set_same];rfl));have HM2:=Hi (HM1.out.then0 hr.mod);clear hr;have HC:=Hi (contI_c p4 p3 x.ins.a x.ins.l x.ins.c w2 (HX.out.mod0 HM2.out).2.2.1.1 HX.out.2.2.1.2.1 (fun y=> !pointP x.ks.l.length (totP (txP x)) (inP y)) (fun y hy w3 m=>point1_c p4 p3 (totP (txP x)) x.ks.l.length y w3 (by rw[HT.out];exact m.at0 kp4) (by rw[hn];exact m.at0 kp3) (((HX.out.mod0 HM2.out).mod0 m).2.2.1.2.2 y hy).1.1 (HX.out.2.2.1.2.2 y hy).1.2));have hC:=HC.out;rw[HB.out]at hC;have HC2:=Hi hC;clear hC HC;go_wp2_with fail;go_at_call 111;refine HC2.out.mono ?_;rintro e w3 ⟨rfl,m3⟩;have m4:=HM2.out.trans m3;go_wp2_with fail;go_ret;exact⟨by first|rfl|(simp;done)|(cases b<;>rfl),m4⟩
end
end Go.Proofs.YtiaehkkkcaeaiaaGreatDoor