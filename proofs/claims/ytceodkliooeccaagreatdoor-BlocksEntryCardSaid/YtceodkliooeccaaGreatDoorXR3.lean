/- The lemmas of the proof, part XO3: how the program and its data lie in memory, and what its functions do. -/
import Derived.Test.YtceodkliooeccaaGreatDoorXR2
import Derived.Laws.Externs
import Derived.Laws.Bits64b
import Derived.Shelf.Bits.Mul64
import Derived.Test.YtceodkliooeccaaGreatDoorRows
import Derived.ProofKit
import Derived.LaidMore
import Derived.OpenShut
import Derived.Stop.Joined
import Derived.Stop.LaidErr
import Derived.Lib.LaidTab
import Derived.Lib.Hide
import Derived.Deep.CutBlock
import Derived.Scope
import Derived.WalkMore
set_option linter.unusedSimpArgs false
set_option linter.unusedVariables false
set_option linter.unusedSectionVars false

set_option maxRecDepth 20000
set_option maxHeartbeats 3200000
namespace Go.Proofs.YtceodkliooeccaaGreatDoor
open Go.RowKit
open Go.ChangeMaps (setBlock)
attribute [local go_sem↓] eqKey1 ldKey stKey wlKey
attribute [local go_sem] Value.cells cell_blk frozen_blk kc_ext kc_one kc_one0 kc_size one_bool one_int one_map one_ptr one_slice sgc_ext sgc_one' sgc_one0 sgc_size txr0 txr0' txr38 txr38' txr39 txr39' txr_all txr_one txr_size zKey_size zTx_size
section
attribute [local go_sem↓] wlMsg ldMsg stMsg wlRg ldRg stRg wlTc ldTc stTc ldSg stSg
attribute [local go_sem] mgx_size mgx_ext mgx_one mgx_one0 zMsg_size zMsg_all zMsg_all0
attribute [local go_sem] rgx0' rgx40' rgx_size rgx_one rgx_one0 rgx0 rgx40 tcx_size tcx_ext tcx_one tcx_one0 mcx_size mcx_one0 mcx_ext rgx_tx
def takeS:Nat→List UInt8→Option (List Sg×List UInt8)
 |0,L=>some ([],L)
 |n+1,L=>if h:64≤L.length then(takeS n (L.drop 64)).map (fun y=>(⟨L.take 64,by rw[List.length_take];omega⟩::y.1,y.2))else none
def preS (S:List Sg) (r:Option (List Sg×List UInt8)):Option (List Sg×List UInt8):=r.map (fun y=>(S++y.1,y.2))
theorem preS_nil (r:Option (List Sg×List UInt8)):preS [] r=r:=by cases r<;>rfl
theorem preS_step {n:Nat} {S:List Sg} {L:List UInt8} (h:64≤L.length):preS S (takeS (n+1) L)=preS (S++[⟨L.take 64,by rw[List.length_take];omega⟩]) (takeS n (L.drop 64)):=by
 rw[takeS,dif_pos h];cases takeS n (L.drop 64)<;>simp[preS]
theorem preS_none {n:Nat} {S:List Sg} {L:List UInt8} (h:L.length<64):preS S (takeS (n+1) L)=none:=by
 rw[takeS,dif_neg (by omega)];rfl
theorem takeS_len:∀ {n:Nat} {L:List UInt8} {S:List Sg} {R:List UInt8},takeS n L=some (S,R)→S.length=n∧R.length+64*n=L.length
 |0,L,S,R,h=>by
  cases h;simp
 |n+1,L,S,R,h=>by
  rw[takeS]at h;split at h
  ·rename_i h64;cases h2:takeS n (L.drop 64)with
   |none=>rw[h2]at h;cases h
   |some y=>
    rw[h2]at h;cases h;have:=takeS_len h2;rw[List.length_drop]at this;simp only[List.length_cons];omega
  ·cases h
structure TxP where
 sg:List Sg
 m:MsP
def pTx (l:List UInt8):PR TxP:=if(gsh 0 0 l).2.2=0 then(match takeS (gsh 0 0 l).1 (l.drop (gsh 0 0 l).2.1)with
 |none=> .error 5
 |some (S,R)=>pBind (pMsg R 0) fun m k=> .ok (⟨S,m⟩,l.length-R.length+k))else .error (gsh 0 0 l).2.2
def VTx (b:Nat) (w:World) (v:Value) (x:TxP):Prop:=∃(sa:Option Addr) (m:McR),v= .agg (tcx sa x.sg.length x.sg.length m)∧NewS sgc 64 103 b w (.slice sa x.sg.length x.sg.length) x.sg∧VMsg b w (.agg (mcx m)) x.m
def PgetP (w:World) (l:List UInt8) (e:Ending) (w':World):Prop:=Mod (fun _=>False) w w'∧match pTx l with
 | .ok (x,k)=>∃v,e= .returned (.tuple #[v,i64n k,i64n 0])∧VTx w.heap.size w' v x∧k≤l.length
 | .error n=>e= .returned (.tuple #[.agg zTc,i64n 0,i64n n])
theorem bRg (a:Option Addr) (n c:Nat) (w:World):(Instr.build 221 #[(1,.slice a n c)]).run Tryz.prog w= .ok (.agg (rgx none 0 0 mc0 a n c)) w:=by kernel_rfl
theorem bTx0 (w:World):(Instr.build 53 #[]).run Tryz.prog w= .ok (.agg zTc) w:=by kernel_rfl
theorem zTc_size:zTc.size=40:=tcx_size ..
theorem zTc_ext:zTc.extract 0 40=zTc:=tcx_ext ..
theorem zTc_all:zTc.all (·.oneCell')=true:=tcx_one ..
theorem zTc_all0:zTc.all (·.oneCell') 0 40=true:=tcx_one0 ..
theorem zRg_size:zRg.size=41:=rgx_size ..
attribute [local go_sem] zTc_size zTc_ext zTc_all zTc_all0 zRg_size
theorem rgx_pop (sa:Option Addr) (sn sc:Nat) (m:McR) (la:Option Addr) (ln lc:Nat):(rgx sa sn sc m la ln lc).pop=tcx sa sn sc m:=by
 rw[←rgx_tx sa sn sc m la ln lc];simp[rgx_size]
attribute [local go_sem] rgx_pop
theorem results_ctt {P:Program} {fn:Func} {t1 t2 t3:Tmp} {T1:TypeId} {tmps:Array Value} {p1:Addr} {v1:Value} {w:World} (h:fn.results= #[.cell t1 T1,.tmp t2,.tmp t3])
  (h1:tmps.getD t1 undef= .pointer (some p1)) (k1:(Instr.loadAt T1 (.pointer (some p1))).run P w= .ok v1 w):(results fn tmps).run P w= .ok (.tuple #[v1,tmps.getD t2 undef,tmps.getD t3 undef]) w:=by
 have l1:(loadVar T1 p1).run P w= .ok v1 w:=by simpa[Instr.loadAt,Instr.sureAddr] using k1
 unfold results;rw[h];have hmap:∀ {α β:Type} (f:α→β) (x:Sem α) (w:World),(f<$>x).run P w=(x.run P w).andThen fun a w=> .ok (f a) w:=fun f x w=>by
  show(x>>=fun a=>pure (f a)).run P w=_;rw[Sem.run_bind];rfl
 simp only[List.mapM_toArray,List.mapM_cons,List.mapM_nil,h1,asAddr,Sem.run_bind,hmap,Sem.run_pure,Result.andThen_ok,l1];rfl
theorem ldTcx {w:World} {p:Nat} {sa:Option Addr} {sn sc:Nat} {m:McR} (h:w.heap[p]? =some (.cells (tcx sa sn sc m) 53 (0,0))):(Instr.loadAt 53 (.pointer (some ⟨p,0,none⟩))).run Tryz.prog w= .ok (.agg (tcx sa sn sc m)) w:=by
 rw[ldTc,h];simp[tcx_size,tcx_ext]
theorem ldTcZ {w:World} {p:Nat} (h:w.heap[p]? =some (.cells zTc 53 (0,0))):(Instr.loadAt 53 (.pointer (some ⟨p,0,none⟩))).run Tryz.prog w= .ok (.agg zTc) w:=by
 rw[ldTc,h];simp[zTc_size,zTc_ext]
def NE {α:Type} (r:PR α):Prop:=r≠ .error 0
theorem NE.bind {α β:Type} {r:PR α} {f:α→Nat→PR β} (h:NE r) (hf:∀x k,NE (f x k)):NE (pBind r f):=by
 unfold NE at *;cases r with
 |error e=>simpa[pBind] using h
 |ok y=>exact hf _ _
theorem NE.byte (l:List UInt8) (k:Nat):NE (pByte l k):=by
 unfold NE pByte;split<;>simp
theorem NE.bytes (l:List UInt8) (k n:Nat):NE (pBytes l k n):=by
 unfold NE pBytes;split<;>simp
theorem NE.short (l:List UInt8) (k:Nat):NE (pShort l k):=by
 unfold NE pShort;split
 ·simp
 ·rename_i h;simpa using h
theorem NE.list (l:List UInt8) (k:Nat):NE (pList l k):=by
 have h:=NE.short l k;unfold NE pList at *;split
 ·exact NE.bytes l _ _
 ·rename_i e he;rw[he]at h;simpa[NE] using h
theorem NE.key (l:List UInt8) (k:Nat):NE (pKey l k):=by
 unfold NE pKey;split<;>simp
theorem NE.instr (l:List UInt8) (k:Nat):NE (pInstr l k):=by
 unfold NE pInstr;split
 ·rename_i e he;have h:=NE.byte l k;rw[he]at h;simpa[NE] using h
 ·rename_i q k1 _;split
  ·rename_i e he;have h:=NE.list l k1;rw[he]at h;simpa[NE] using h
  ·rename_i x k2 _;split
   ·rename_i e he;have h:=NE.list l k2;rw[he]at h;simpa[NE] using h
   ·simp
theorem NE.look (l:List UInt8) (k:Nat):NE (pLook l k):=by
 unfold NE pLook;split
 ·rename_i e he;have h:=NE.key l k;rw[he]at h;simpa[NE] using h
 ·rename_i q k1 _;split
  ·rename_i e he;have h:=NE.list l k1;rw[he]at h;simpa[NE] using h
  ·rename_i x k2 _;split
   ·rename_i e he;have h:=NE.list l k2;rw[he]at h;simpa[NE] using h
   ·simp
theorem NE.rep {α:Type} {one:Nat→PR α} (h:∀k,NE (one k)):∀n k,NE (pRep one n k)
 |0,k=>by simp[NE,pRep]
 |n+1,k=>by
  have h1:=h k;unfold NE at *;rw[pRep];split
  ·rename_i e he;rw[he]at h1;simpa[NE] using h1
  ·rename_i x k1 _;have h2:=NE.rep h n k1;unfold NE at h2;split
   ·rename_i e he;rw[he]at h2;simpa[NE] using h2
   ·simp
theorem NE.all {α:Type} {one:Nat→PR α} (h:∀k,NE (one k)) (l:List UInt8) (k:Nat):NE (pAll one l k):=by
 have h1:=NE.short l k;unfold NE pAll at *;split
 ·rename_i e he;rw[he]at h1;simpa[NE] using h1
 ·exact NE.rep h _ _
theorem NE.msg (l:List UInt8) (k:Nat):NE (pMsg l k):=by
 refine(NE.byte l k).bind fun c k1=> ?_;split
 ·simp[NE]
 ·refine NE.bind ?_ fun h0 k2=>(NE.byte l k2).bind fun h1 k3=>(NE.byte l k3).bind fun h2 k4=>(NE.all (NE.key l) l k4).bind fun ks k5=>(NE.key l k5).bind fun rc k6=>(NE.all (NE.instr l) l k6).bind fun ins k7=>NE.bind ?_ fun lks k8=>by simp[NE]
  ·split
   ·exact NE.byte l k1
   ·simp[NE]
  ·split
   ·exact NE.all (NE.look l) l k7
   ·simp[NE]
theorem clipSgs_c (v2:Value) (w:World) (n:Nat) {a:Option Addr} {c:Nat} (h:∀w2,(Instr.sliceAt 24 (.slice a n c) none (some (.int .i64 (n:Int))) (some (.int .i64 (n:Int)))).run Tryz.prog w2= .ok v2 w2):
  Calls Tryz.prog 102 #[.slice a n c] w fun e w'=>e= .returned v2∧w'=w:=by
 go_enter Tryz.func102,Tryz.ntmps102;go_wp2_with fail;go_ret;exact⟨rfl,rfl⟩
theorem VMsg.form {b:Nat} {w:World} {v:Value} {x:MsP} (h:VMsg b w v x):∃m:McR,v= .agg (mcx m)∧VMsg b w (.agg (mcx m)) x:=by
 obtain⟨ka,ia,la,L,M,rfl,h⟩:=h;exact⟨⟨x.v0,x.h0,x.h1,x.h2,ka,x.ks.length,x.ks.length,x.rc,ia,L.length,L.length,la,M.length,M.length⟩,rfl,ka,ia,la,L,M,rfl,h⟩
theorem VMsg.mod {b:Nat} {w w':World} {v:Value} {x:MsP} {S:Nat→Prop} (h:VMsg b w v x) (hm:Mod S w w') (hS:∀g,b≤g→g<w.heap.size→¬S g):VMsg b w' v x:=by
 obtain⟨ka,ia,la,L,M,rfl,h1,h2,h3,h4,h5,h6⟩:=h;exact⟨ka,ia,la,L,M,rfl,h1.mod hm (fun g hg=>hS g (h1.lt g hg).1 (h1.lt g hg).2),h2.mod hm (fun g hg=>hS g (h2.lt g hg).1 (h2.lt g hg).2),h3.mod hm (fun g h1 h2 _=>hS g h1 h2),h4.mod hm (fun g hg=>hS g (h4.lt g hg).1 (h4.lt g hg).2),h5.mod hm (fun g h1 h2 _=>hS g h1 h2),h6⟩
theorem VMsg.base {b b':Nat} {w:World} {v:Value} {x:MsP} (h:VMsg b w v x) (hb:b'≤b):VMsg b' w v x:=by
 obtain⟨ka,ia,la,L,M,rfl,h1,h2,h3,h4,h5,h6⟩:=h;exact⟨ka,ia,la,L,M,rfl,h1.base hb,h2.base hb,h3.base hb,h4.base hb,h5.base hb,h6⟩
theorem pget_c {a:Option Addr} {l:List UInt8} {c:Nat} (w:World) (hl:SlAt uc 1 w a l) (hc:l.length≤c) (hn:a=none→c=0) (hln:l.length≤900000) (hin:∀x,a=some x→x.block<w.heap.size∨l=[]):
  Calls Tryz.prog 54 #[.slice a l.length c] w (PgetP w l):=by
 have HL:=Hi (Ai hl (Ai hc (Ai hn (Ai hln hin))));obtain⟨ll,hll⟩:∃ll,l.length=ll:=⟨_,rfl⟩;have HLL:=Hi hll;rw[hll]at hln⊢;obtain⟨n,took,er,hg⟩:∃n took er,gsh 0 0 l=(n,took,er):=⟨_,_,_,rfl⟩;have HG:=Hi hg;clear hl hc hn hln hin hll hg;go_enter Tryz.func54,Tryz.ntmps54;go_upto_region 0 with fail;refine ZP0 [3,0,0] ?_;refine Za alTc fun p2 hp2=> ?_
 iterate 2 refine Zv ?_
 refine TD.nil (fun w1 hr=> ?_);obtain⟨gp2,kp2⟩:=hr.b p2;have m1:=hr.mod;clear hr;replace kp2:w1.heap[p2]? =some (.cells zTc 53 (0,0)):=kp2;have HM1:=Hi m1;have hG:=gsh_c a l c w1 (HL.out.1.mod0 m1) (by have:=HL.out.2.2.2.1;omega);rw[HLL.out,HG.out]at hG;have HG1:=Hi hG;clear hG;go_wp2_with fail;go_at_call 99;refine HG1.out.mono ?_;rintro e w2 ⟨rfl,m2⟩;replace kp2:=m2.at0 kp2;have m12:=m1.trans m2;have HM2:=Hi m12;clear m1 m2 HM1 HG1 m12;have hb:=bTx0;by_cases he:er=0
 ·subst he;have hne:((0:Int) !=0)=false:=rfl;have hfit:=gsh_fit l 0 0 (by decide) (by omega) (by rw[HG.out]);rw[HG.out]at hfit;simp only at hfit;obtain⟨sp,hsp,hss,hsb,hsn⟩:=sl_from (P:=Tryz.prog) bytesT (c:=c) (k:=took) HL.out.1 (by omega) HL.out.2.1 HL.out.2.2.1;have hdl:(l.drop took).length=ll-took:=by rw[List.length_drop,HLL.out]
  rw[HLL.out]at hsp;have HSS:=Hi (Ai hss (Ai hsb (Ai hsn (Ai hdl hfit))));clear hss hsb hsn hfit hdl;go_upto_region 4 with fail;have hbr:=bRg;have Lkp2:=Ls kp2;refine ZP0 [0,0,0,0,3,4] ?_
  iterate 2 refine Zv ?_
  refine Zx hsp ?_;refine Zu (hbr _ _ _) ?_;refine Za alRg fun p6 hp6=> ?_;refine Zt ?_;refine TD.nil (fun w3 hr=> ?_);replace kp2:=hr.q kp2;obtain⟨gp6,kp6⟩:=hr.b p6;have h26:p2<p6:=by omega
  have hw6:w.heap.size≤p2:=gp2;have m3:=hr.mod;have hsz3:=Ls kp6;have hR0:RgA p6 [] (l.drop took) w3:=by
   refine⟨none,0,sp,c-took,by rw[HSS.out.2.2.2.1];exact kp6,SlOwn.nil _ _,HSS.out.1 _ (HL.out.1.mod0 (HM2.out.trans m3)),?_,?_,?_,?_⟩
   ·rw[HSS.out.2.2.2.1];have:=HL.out.2.1;have:=HLL.out;omega
   ·intro e;have:=HL.out.2.2.1 (HSS.out.2.2.1 e);omega
   ·intro x e;obtain⟨y,hy,hyx⟩:=HSS.out.2.1 x e;have:=(HL.out.2.2.2.2 y hy).resolve_right (fun e=>by have h1:=HSS.out.2.2.2.2;rw[e]at h1;simp at h1;omega);omega
   ·rw[HSS.out.2.2.2.1];have:=HL.out.2.2.2.1;have:=HLL.out;simp only[List.length_nil];omega
  have HR0:=Hi hR0;have HM3:=Hi (HM2.out.trans m3);have hn65:=HSS.out.2.2.2.2.1;clear hr hsp hbr hR0 m3 HM2 kp6;obtain⟨L0,hL0⟩:∃L0,l.drop took=L0:=⟨_,rfl⟩;have HL0:=Hi hL0;go_wp2_with fail;go_loopw [24] (fun s24 ws=>∃(i:Nat) (S:List Sg) (L:List UInt8),i≤n∧s24= .int .i64 (i:Int)∧Hid (S.length=i)∧Hid (RgA p6 S L ws)∧Hid (Mod (fun _=>False) w ws)∧Hid (takeS n (l.drop took)=preS S (takeS (n-i) L))∧ws.heap[p2]? =some (.cells zTc 53 (0,0))) (fun s24 _=>n-(intOf s24).toNat)
  case atStart=>exact⟨0,[],l.drop took,by omega,rfl,Hi rfl,HR0,HM3,Hi (by rw[preS_nil,Nat.sub_zero]),kp2⟩
  case round=>
   obtain⟨i,S,L,hi,rfl,HSi,HR,HM,HT,kp2⟩:=hrel;by_cases hlt:i<n
   ·have hd:=Dt hlt;by_cases h64:64≤L.length
    ·have H64:=Hi h64;clear h64;go_wp2_with fail;go_at_call 100;refine(sigY_c HR.out H64.out).mono ?_;rintro e w4 ⟨rfl,hR,hm⟩;have HF:=Hi (Ai hR (HM.out.then hm (fun i hi e=>by omega)));replace kp2:=hm.at kp2 (by omega);clear hR hm;go_wp2_with fail;go_roundw
     case rel=>exact⟨i+1,_,_,by omega,by go_num,Hi (by rw[List.length_append,HSi.out];rfl),Hi HF.out.1,Hi HF.out.2,Hi (by rw[HT.out,show n-i=(n-(i+1))+1 by omega];exact preS_step H64.out),kp2⟩
     case measure=>simp[intOf];omega
    ·have HE:Hid (pTx l= .error 5):=Hi (by
      unfold pTx;rw[HG.out];simp only[if_true];rw[HT.out,show n-i=(n-(i+1))+1 by omega,preS_none (by omega)])
     have H64:Hid (L.length<64):=Hi (by omega);clear h64;go_wp2_with fail;go_at_call 100;refine(sigN_c HR.out H64.out).mono ?_;rintro e w4 ⟨rfl,rfl⟩;go_upto_region 8 with fail;have Lkp2:=Ls kp2;refine ZP0 [0,5,0,0] ?_;refine Zu hb ?_;refine Zi fun w5 hr=> ?_;replace kp2:=hr.q kp2;have HM5:=Hi (HM.out.then0 hr.mod);clear hr;refine ZS ?_;refine ZM kp2 fun wn kp2 mS=> ?_;have HM6:=Hi (HM5.out.then mS (fun i hi e=>by omega));clear mS;refine Ze ?_;refine Ze ?_;refine TE.nil ?_;go_wp2_with fail;refine bodyPost_ret (results_ctt rfl rfl (ldTcZ kp2)) rfl ?_;unfold PgetP;rw[HE.out];exact⟨HM6.out,rfl⟩
   ·have hd:=Df hlt;obtain rfl:n=i:=by omega
    have HT2:Hid (pTx l=pBind (pMsg L 0) fun m k=> .ok (⟨S,m⟩,l.length-L.length+k)):=Hi (by
     have h0:takeS n (l.drop took)=some (S,L):=by
      rw[HT.out,Nat.sub_self,takeS];simp[preS]
     unfold pTx;rw[HG.out];simp only[if_true];rw[h0])
    have HLn:Hid (L.length≤ll):=Hi (by
     have h0:takeS n (l.drop took)=some (S,L):=by
      rw[HT.out,Nat.sub_self,takeS];simp[preS]
     have:=(takeS_len h0).2;have:=HSS.out.2.2.2.1;omega)
    clear HT;obtain⟨sa,sc,la,lc,kp6,hS,hLL,hlc,hnl,hbl,hln⟩:=HR.out;obtain⟨nL,hnL⟩:∃nL,L.length=nL:=⟨_,rfl⟩;rw[hnL,HSi.out]at kp6;have HNL:=Hi hnL;have hsz:=Ls kp6;have HSZ:=Hi hsz;have HG6:=Hi (mget_c wr hLL hlc hnl (by omega) (fun x e=>by have:=hbl x e;omega));have HSO:=Hi hS;clear hS hLL hlc hnl hbl hln hsz HR;have HG6':=HG6.out;rw[hnL]at HG6';have HG7:=Hi HG6';clear HG6' HG6 hnL;have hG7:=HG7.out;clear HG7;have ha1:=alMsg;go_upto_region 10 with fail;refine region_seq 11 rfl ?_;simp only[List.range,List.range.loop];refine Zq ?_;refine Zr ?_;refine ZC hG7 ?hout (fun vn wn hR=> ?hret) (fun ch wn hR=> ?hpan)
    case hout=>
     intro w' h;unfold MgetP at h;split at h
     ·obtain⟨_,_,h,_⟩:=h;cases h
     ·cases h.2
    case hpan=>
     exfalso;unfold MgetP at hR;split at hR
     ·obtain⟨_,_,h,_⟩:=hR;cases h
     ·cases hR.2
    case hret=>
    obtain⟨hm,hr⟩:=hR;have hSO:=HSO.out.mod0 hm;have HSO4:=Hi hSO;have HM4:=Hi (HM.out.trans hm);replace kp2:=hm.at0 kp2;replace kp6:=hm.at0 kp6;clear hm hSO hG7;cases hres:pMsg L 0 with
    |error e0=>
     rw[hres]at hr;simp only at hr;cases hr;have HE:Hid (pTx l= .error e0):=Hi (HT2.out.trans (pBind_err hres));have he0:((e0:Int) !=0)=true:=by
      have h1:=NE.msg L 0;rw[NE,hres]at h1;simpa using fun e=>h1 (by rw[e])
     (try simp only[zL]);obtain⟨w4,rfl⟩:∃w4:World,w4=wn:=⟨_,rfl⟩
     iterate 4 refine Zq ?_
     (refine sq_alloc (by simp only[zK];rfl) (by rfl) rfl alMsg (fun p7 wn gp7 kp7 mp7=> ?n22);try simp only[zL]);refine ZT ?_;refine ZQ kp7 fun wn kp7 mS=> ?_
     iterate 2 refine Zq ?_
     refine sq_nil ?_;have HM5:Hid (Mod (fun _=>False) w wn):=Hi ((HM4.out.trans mp7).then mS (fun i hi e=>by have:=HM4.out.size;omega));replace kp2:=mS.at_ne (mp7.at0 kp2) (by have:=Ls kp2;omega);clear mS mp7 kp7 kp6;obtain⟨w5,rfl⟩:∃w5:World,w5=wn:=⟨_,rfl⟩;go_upto_region 12 with fail;have Lkp2:=Ls kp2;refine ZP0 [0,0,5,0,0] ?_;refine Zu hb ?_;refine Zv ?_;refine Zi fun w6 hr=> ?_;replace kp2:=hr.q kp2;have HM6:=Hi (HM5.out.then0 hr.mod);clear hr;refine ZS ?_;refine ZM kp2 fun wn kp2 mS=> ?_;have HM7:=Hi (HM6.out.then mS (fun i hi e=>by omega));clear mS;refine Ze ?_;refine Ze ?_;refine TE.nil ?_;go_wp2_with fail;refine bodyPost_ret (results_ctt rfl rfl (ldTcZ kp2)) rfl ?_;unfold PgetP;rw[HE.out];exact⟨HM7.out,rfl⟩
    |ok y=>
     obtain⟨x,k1⟩:=y;rw[hres]at hr;obtain⟨v,hv0,hv,hk1⟩:=hr;have HK1:=Hi hk1;clear hk1;cases hv0;obtain⟨m,rfl,hv⟩:=hv.form;have HE:Hid (pTx l= .ok (⟨S,x⟩,l.length-L.length+k1)):=Hi (HT2.out.trans (pBind_ok hres));have h46:=HM4.out.size;have HV:=Hi hv;have hwr:=Ls kp6;(try simp only[zL]);obtain⟨w4,rfl⟩:∃w4:World,w4=wn:=⟨_,rfl⟩;clear hv hwr h46
     iterate 4 refine Zq ?_
     (refine sq_alloc (by simp only[zK];rfl) (by rfl) rfl alMsg (fun p7 wn gp7 kp7 mp7=> ?n36);try simp only[zL]);refine ZT ?_;refine ZQ kp7 fun wn kp7 mS=> ?_
     iterate 2 refine Zq ?_
     refine sq_nil ?_;replace kp7:wn.heap[p7]? =some (.cells (mcx m) 51 (0,0)):=kp7;have hp26:=Ls kp2;have hp66:=Ls kp6;have h47:p2≠p7∧p6≠p7:=by omega
     have m47:Mod (fun _=>False) w4 wn:=mp7.then mS (fun i hi e=>by omega);have HM5:Hid (Mod (fun _=>False) w wn):=Hi (HM4.out.trans m47);replace kp2:=m47.at0 kp2;replace kp6:=m47.at0 kp6;have HSO5:=Hi (HSO4.out.mod0 m47);have HV5:=Hi (HV.out.mod m47 (fun _ _ _ h=>h));clear mS mp7 gp7 m47 hp26 hp66;obtain⟨w5,rfl⟩:∃w5:World,w5=wn:=⟨_,rfl⟩;go_upto_region 13 with fail;obtain⟨a9,c9,v9,e9,hcl,hnew⟩:=HSO5.out.clip sgT;obtain⟨sa9,rfl⟩:=NewS.form2 hnew;rw[HSi.out]at hcl hnew;have HCL:=Hi hcl;have HNW:=Hi hnew;clear e9 hcl hnew;have Lkp7:=Ls kp7;have Lkp6:=Ls kp6;have Lkp2:=Ls kp2;refine ZR (fun _ _ v=>v= .slice sa9 n n) [1,0,0,1,2,0,0,5,0,0,6] ?_
     iterate 4 first|refine Zd ?_|refine Zv ?_
     (refine Zc ?_ (s:=by intro wq hSq;exact(clipSgs_c _ _ _ HCL.out).mono (fun e w' h=>⟨_,h.1,rfl,by rw[h.2];exact Mod.refl _ _⟩));rintro _ hC;subst hC;try simp only[zL])
     iterate 2 refine Zv ?_
     refine Zi fun w6 hr=> ?_;replace kp7:=hr.q kp7;replace kp6:=hr.q kp6;replace kp2:=hr.q kp2;have m56:=hr.mod;have HM6:=Hi (HM5.out.trans m56);have HSO6:=Hi (HNW.out.mod0 m56);have HV6:=Hi (HV5.out.mod m56 (fun _ _ _ h=>h));clear hr m56;refine ZS ?_;refine ZM kp6 fun wn kp6 mS=> ?_;replace kp6:wn.heap[p6]? =some (.cells (rgx sa n sc m la nL lc) 221 (0,0)):=by
      rw[kp6]
      first|rw[rgx_m]|(simp[rgx_m,rgx_size];done)
     have HM7:=Hi (HM6.out.then mS (fun i hi e=>by omega));have HSO7:=Hi (HSO6.out.mod mS (fun g hg e=>by have:=(HSO6.out.lt g hg).1;omega));have HV7:=Hi (HV6.out.mod mS (fun g hg _ e=>by have:=HSZ.out;omega));replace kp2:=mS.at_ne kp2 (by omega);clear mS;refine Ze ?_;refine Ze ?_;refine Zz ?_;refine ZS ?_;refine ZN kp6 fun wn kp6 mS=> ?_;replace kp6:wn.heap[p6]? =some (.cells (rgx sa9 n n m la nL lc) 221 (0,0)):=by
      rw[kp6,rgx_s]
     have HM8:=Hi (HM7.out.then mS (fun i hi e=>by omega));have HSO8:=Hi (HSO7.out.mod mS (fun g hg e=>by have:=(HSO7.out.lt g hg).1;omega));have HV8:=Hi (HV7.out.mod mS (fun g hg _ e=>by have:=HSZ.out;omega));replace kp2:=mS.at_ne kp2 (by omega);clear mS kp7;obtain⟨w8,rfl⟩:∃w8:World,w8=wn:=⟨_,rfl⟩;obtain⟨d,hd0⟩:∃d,ll-nL=d:=⟨_,rfl⟩;obtain⟨kk,hkk⟩:∃kk,d+k1=kk:=⟨_,rfl⟩;have hll9:=HL.out.2.2.2.1;have hll8:=HLL.out;have hnl8:=HNL.out;have hlm8:=HLn.out;have hk18:=HK1.out;have hdw:IntKind.i64.wrap ((ll:Int)-(nL:Int))=(d:Int):=by rw[IntKind.wrap_i64];omega
     have hkw:IntKind.i64.wrap ((d:Int)+(k1:Int))=(kk:Int):=by rw[IntKind.wrap_i64];omega
     have HKK:Hid (l.length-L.length+k1=kk∧kk≤l.length):=Hi ⟨by omega,by omega⟩;have nW:¬(fun i=>i=p2) p6:=by simp only;omega
     clear hll9 hll8 hnl8 hlm8 hk18 hd0 hkk;go_upto_region 14 with fail;have Lkp6:=Ls kp6;refine wp_gpass (T0:=fun i=>i=p2) (K:=fun T w=>T p2∧w.heap[p2]? =some (.cells zTc 53 (0,0))) (κ:=fun i=>[0,0,0,0,0,0,0,0,0,0,6,0,0].getD i 0) (υ:=fun _=>[]) [0,1,2,3,4,5,6,7,8,9,10,11,12] (by kernel_rfl) (by kernel_rfl) (Good.at p2 (.cells zTc 53 (0,0))).cl (⟨rfl,kp2⟩) (fun i hi=>by subst hi;exact Ls kp2) ?_;have gK:=Good.at p2 (.cells zTc 53 (0,0));refine Zg ?_;(refine TG.load (v:= ?v53) (p:= ?p53) (by simp only[zK];rfl) rfl (by rfl) rfl ?hx53 (fun wq hSq=> ?y53) ?n53;(case hx53=>simp only[zM];try rfl);(case y53=>(have kp6q:=hSq.at kp6 (by intro hT;first|exact hT|exact absurd hT (by assumption)|omega|(simp only at hT;omega));go_simp;(try with_reducible rfl)));try simp only[zL])
     iterate 3 refine Zg ?_
     (refine TG.load (v:= ?v57) (p:= ?p57) (by simp only[zK];rfl) rfl (by rfl) rfl ?hx57 (fun wq hSq=> ?y57) ?n57;(case hx57=>simp only[zM];try rfl);(case y57=>(have kp6q:=hSq.at kp6 (by intro hT;first|exact hT|exact absurd hT (by assumption)|omega|(simp only at hT;omega));go_simp;(try with_reducible rfl)));try simp only[zL])
     iterate 4 refine Zg ?_
     (refine TG.storeO (X:= ?X62) (Y:= ?Y62) (fun T w=>T p2∧w.heap[p2]? =some (.cells (tcx sa9 n n m) 53 (0,0))) (Good.at p2 (.cells (tcx sa9 n n m) 53 (0,0))) (by simp only[zK];rfl) rfl (by rfl) rfl rfl ?hx62 ?hz62 (fun T wq kq=> ?y62) (fun _=> ?n62);(case hx62=>simp only[zM];try rfl);(case hz62=>simp only[zM];try rfl);(case y62=>(obtain⟨k1,k2⟩:=kq;refine⟨setBlock wq p2 (.cells (tcx sa9 n n m) 53 (0,0)),?_,(mod_set wq p2 _).mono (fun i _ e=>by rw[e];exact k1),k1,heap_setBlock wq _ (Ls k2)⟩;exact run_store_box k2 (by rw[tcx_size sa9 n n m];kernel_rfl) (by rw[tcx_size sa9 n n m,zTc_size]) (tcx_one sa9 n n m)));replace gK:=(Good.at p2 (.cells (tcx sa9 n n m) 53 (0,0)));try simp only[zL])
     iterate 2 refine Zg ?_
     refine TG.nil (fun w9 ⟨TR,hr⟩=> ?_);replace kp6:=hr.mod.at kp6 (by intro hT;first|exact hT|exact absurd hT (by assumption)|omega|(simp only at hT;omega));clear gK;have HF:Hid (w9.heap[p2]? =some (.cells (tcx sa9 n n m) 53 (0,0))∧Mod (fun i=>i=p2) w8 w9):=Hi ⟨hr.k.2,hr.mod⟩;clear hr kp2;go_wp2_with fail;refine bodyPost_ret (results_ctt rfl rfl (ldTcx HF.out.1)) rfl ?_;unfold PgetP;rw[HE.out,HKK.out.1];have hb:w.heap.size≤p6+1:=by omega
     have hb2:w.heap.size≤wr.heap.size:=by have:=HSZ.out;omega
     refine⟨HM8.out.then HF.out.2 (fun i hi e=>by omega),_,rfl,⟨sa9,m,by rw[HSi.out],?_,?_⟩,HKK.out.2⟩
     ·rw[HSi.out];exact(HSO8.out.mod HF.out.2 (fun g hg e=>by have:=(HSO8.out.lt g hg).1;omega)).base hb
     ·exact(HV8.out.mod HF.out.2 (fun g hg _ e=>by have:=HSZ.out;omega)).base hb2
 ·have HE:Hid (pTx l= .error er):=Hi (by
   unfold pTx;rw[HG.out];simp only;rw[if_neg he])
  have hne:((er:Int) !=0)=true:=by simpa using he
  go_upto_region 3 with fail;have Lkp2:=Ls kp2;refine ZP0 [0,0,5,0,0] ?_;refine Zu hb ?_;refine Zv ?_;refine Zi fun w6 hr=> ?_;replace kp2:=hr.q kp2;have HM6:=Hi (HM2.out.then0 hr.mod);clear hr;refine ZS ?_;refine ZM kp2 fun wn kp2 mS=> ?_;have HM7:=Hi (HM6.out.then mS (fun i hi e=>by omega));clear mS;refine Ze ?_;refine Ze ?_;refine TE.nil ?_;go_wp2_with fail;refine bodyPost_ret (results_ctt rfl rfl (ldTcZ kp2)) rfl ?_;unfold PgetP;rw[HE.out];exact⟨HM7.out,rfl⟩
end
section
attribute [local go_sem↓] wlMsg ldMsg stMsg wlRg ldRg stRg wlTc ldTc stTc ldSg stSg
attribute [local go_sem] mgx_size mgx_ext mgx_one mgx_one0 zMsg_size zMsg_all zMsg_all0
def inP (r:InR):InP:=⟨r.p,r.a.l,r.d.l⟩
def loP (r:LoR):LoP:=⟨r.t,r.w.l,r.r.l⟩
def msgP (x:RdR):MsP:=⟨x.v0,x.h0,x.h1,x.h2,x.ks.l,x.rc,x.ins.l.map inP,x.lks.l.map loP⟩
def txP (x:RdR):TxP:=⟨x.sg.l,msgP x⟩
def TxO (b:Nat) (w:World) (x:RdR):Prop:=NewS sgc 64 103 b w (.slice x.sg.a x.sg.l.length x.sg.c) x.sg.l∧NewS kc 32 110 b w (.slice x.ks.a x.ks.l.length x.ks.c) x.ks.l∧
 NewS inr 3 146 b w (.slice x.ins.a x.ins.l.length x.ins.c) x.ins.l∧InsOk b w x.ins.l (x.ins.l.map inP)∧NewS lor 34 148 b w (.slice x.lks.a x.lks.l.length x.lks.c) x.lks.l∧LosOk b w x.lks.l (x.lks.l.map loP)∧∀g∈insB x.ins.l,∀h∈losB x.lks.l,g<h
theorem ins_map {b:Nat} {w:World} {L:List InR} {xs:List InP} (h:All2 (In1 b w) L xs):xs=L.map inP:=by
 induction h with
 |nil=>rfl
 | @cons r x l m hx _ ih=>
  rw[List.map_cons,←ih];obtain⟨p,a,d⟩:=x;obtain⟨h1,h2,h3,_⟩:=hx;simp only at h1 h2 h3;rw[inP,h1,h2,h3]
theorem los_map {b:Nat} {w:World} {L:List LoR} {xs:List LoP} (h:All2 (Lo1 b w) L xs):xs=L.map loP:=by
 induction h with
 |nil=>rfl
 | @cons r x l m hx _ ih=>
  rw[List.map_cons,←ih];obtain⟨p,a,d⟩:=x;obtain⟨h1,h2,h3,_⟩:=hx;simp only at h1 h2 h3;rw[loP,h1,h2,h3]
theorem VTx.toO {b:Nat} {w:World} {v:Value} {x:TxP} (h:VTx b w v x):∃r:RdR,v= .agg (txr r)∧txP r=x∧TxO b w r:=by
 obtain⟨sa,m,rfl,h1,ka,ia,la,L,M,hm,h2,h3,h4,h5,h6,h7⟩:=h;obtain⟨sg,v0,q0,q1,q2,ks,rc,ins,lks⟩:=x;simp only at h1 h2 h3 h4 h5 h6 h7 hm;obtain rfl:=ins_map h4.1;obtain rfl:=los_map h6.1;refine⟨⟨⟨none,[],0⟩,⟨sa,sg,sg.length⟩,v0,q0,q1,q2,⟨ka,ks,ks.length⟩,rc,⟨ia,L,L.length⟩,⟨la,M,M.length⟩,⟨none,[],0⟩,0,0,0,0,0,0⟩,?_,rfl,h1,h2,h3,h4,h5,h6,h7⟩;have hm2:mcx m=mgx v0 q0 q1 q2 ka ks.length ks.length rc ia L.length L.length la M.length M.length:=by injection hm
 have e1:(tcx sa sg.length sg.length m).toList= .slice sa sg.length sg.length::(mcx m).toList:=rfl;congr 1;apply Array.toList_inj.1;rw[e1,hm2];rfl
theorem NewS.ty {α:Type} {f:α→Array Value} {n:Nat} {E:TypeId} {base:Nat} {w:World} {v:Value} {l:List α} (h:NewS f n E base w v l) {g:Nat} (hg:v.ownBlock=some g):∃cur,w.heap[g]? =some (.cells cur E (0,0)):=by
 rcases h with⟨rfl,_⟩|⟨g',cur,rfl,_,hk,_⟩
 ·cases hg
 ·cases hg;exact⟨cur,hk⟩
def Apt (w:World) (S:Nat→Prop) (b:Nat):Prop:=∀g C E,b≤g→w.heap[g]? =some (.cells C E (0,0))→(E=103∨E=110∨E=146∨E=148∨E=5)→¬S g
theorem Apt.below {w:World} {S:Nat→Prop} {b:Nat} (h:∀i,S i→i<b):Apt w S b:=fun g _ _ hb _ _ hs=>by
 have:=h g hs;omega
theorem Apt.old {w:World} {S:Nat→Prop} {b:Nat} (h:∀i,S i→w.heap.size≤i):Apt w S b:=fun g _ _ _ hk _ hs=>by
 have:=h g hs;have:=Ls hk;omega
theorem TxO.mod {b:Nat} {w w':World} {x:RdR} {S:Nat→Prop} (h:TxO b w x) (hm:Mod S w w') (hS:Apt w S b):TxO b w' x:=by
 obtain⟨h1,h2,h3,h4,h5,h6,h7⟩:=h;exact⟨h1.mod hm (fun g hg=>by obtain⟨C,hk⟩:=h1.ty hg;exact hS g C _ (h1.lt g hg).1 hk (.inl rfl)),
  h2.mod hm (fun g hg=>by obtain⟨C,hk⟩:=h2.ty hg;exact hS g C _ (h2.lt g hg).1 hk (.inr (.inl rfl))),
  h3.mod hm (fun g hg=>by obtain⟨C,hk⟩:=h3.ty hg;exact hS g C _ (h3.lt g hg).1 hk (.inr (.inr (.inl rfl)))),
  h4.mod hm (fun g hb _ ⟨C,hk⟩=>hS g C _ hb hk (.inr (.inr (.inr (.inr rfl))))),
  h5.mod hm (fun g hg=>by obtain⟨C,hk⟩:=h5.ty hg;exact hS g C _ (h5.lt g hg).1 hk (.inr (.inr (.inr (.inl rfl))))),
  h6.mod hm (fun g hb _ ⟨C,hk⟩=>hS g C _ hb hk (.inr (.inr (.inr (.inr rfl))))),h7⟩
theorem TxO.mod0 {b:Nat} {w w':World} {x:RdR} (h:TxO b w x) (hm:Mod (fun _=>False) w w'):TxO b w' x:=h.mod hm (Apt.below (fun _ h=>h.elim))
theorem TxO.base {b b':Nat} {w:World} {x:RdR} (h:TxO b w x) (hb:b'≤b):TxO b' w x:=by
 obtain⟨h1,h2,h3,h4,h5,h6,h7⟩:=h;exact⟨h1.base hb,h2.base hb,h3.base hb,h4.base hb,h5.base hb,h6.base hb,h7⟩
def blk (x:RdR):List Nat:=(Value.slice x.sg.a x.sg.l.length x.sg.c).ownBlock.toList++((Value.slice x.ks.a x.ks.l.length x.ks.c).ownBlock.toList++(insB x.ins.l++losB x.lks.l))
theorem TxO.blk {b:Nat} {w:World} {x:RdR} (h:TxO b w x):∀g∈blk x,b≤g∧g<w.heap.size:=by
 obtain⟨h1,h2,h3,h4,h5,h6,h7⟩:=h;intro g hg;simp only[Go.Proofs.YtceodkliooeccaaGreatDoor.blk,List.mem_append,Option.mem_toList]at hg;rcases hg with hg|hg|hg|hg
 ·exact h1.lt g hg
 ·exact h2.lt g hg
 ·exact⟨(h4.2.2 g hg).1,(h4.2.2 g hg).2.1⟩
 ·exact⟨(h6.2.2 g hg).1,(h6.2.2 g hg).2.1⟩
theorem txT:ElT Tryz.prog 71 53 txr 40 136 where
 u:=Tryz.underlying71
 info:=by
  obtain⟨i0,hi,hz0,hz1,hz2⟩:=info_parts (show(Tryz.prog.info? 53).map (fun i=>(i.zero,i.size,i.bytes))=some (some (.agg zTx),40,136)by kernel_rfl);exact⟨i0,_,hi,hz0,hz1,hz2,by simp[Value.cells,zTx_size]⟩
 pos:=by omega
 size x:=txr_size x
 one x:=by
  have:=txr_one' x;rw[Array.all_eq_true_iff_forall_mem]at this;intro u hu;exact this u (by simpa using hu)
end
section
attribute [local go_sem↓] wlMsg ldMsg stMsg wlRg ldRg stRg wlTx ldTx stTx ldSg stSg
attribute [local go_sem] mgx_size mgx_ext mgx_one mgx_one0 zMsg_size zMsg_all zMsg_all0
attribute [local go_sem] tcx_size tcx_ext tcx_one tcx_one0 txr_one'
def decL:Nat→List UInt8→Option (List TxP×List UInt8)
 |0,L=>some ([],L)
 |n+1,L=>match pTx L with
  | .ok (x,k)=>if k≤1232 then(decL n (L.drop k)).map (fun y=>(x::y.1,y.2))else none
  | .error _=>none
def decP (l:List UInt8):Option (List TxP):=if l.length<8∨leV (l.take 8)=0 then none else match decL (leV (l.take 8)) (l.drop 8)with
 |some (xs,[])=>some xs
 |_=>none
def preD (S:List TxP) (r:Option (List TxP×List UInt8)):Option (List TxP×List UInt8):=r.map (fun y=>(S++y.1,y.2))
theorem preD_nil (r:Option (List TxP×List UInt8)):preD [] r=r:=by cases r<;>rfl
theorem preD_step {n k:Nat} {S:List TxP} {L:List UInt8} {x:TxP} (h:pTx L= .ok (x,k)) (hk:k≤1232):preD S (decL (n+1) L)=preD (S++[x]) (decL n (L.drop k)):=by
 rw[decL,h];simp only;rw[if_pos hk];cases decL n (L.drop k)<;>simp[preD]
theorem preD_err {n e:Nat} {S:List TxP} {L:List UInt8} (h:pTx L= .error e):preD S (decL (n+1) L)=none:=by
 rw[decL,h];rfl
theorem preD_big {n k:Nat} {S:List TxP} {L:List UInt8} {x:TxP} (h:pTx L= .ok (x,k)) (hk:¬k≤1232):preD S (decL (n+1) L)=none:=by
 rw[decL,h];simp only;rw[if_neg hk];rfl
theorem gsh_pos:∀(l:List UInt8) (i n:Nat),(gsh i n l).2.2=0→i+1≤(gsh i n l).2.1
 |[],i,n,h=>by simp[gsh]at h
 |c::r,i,n,h=>by
  rw[gsh]at h⊢;split at h
  ·simp at h
  ·rename_i hb;rw[if_neg hb];split at h
   ·rename_i h128;rw[if_pos h128];exact Nat.le_refl _
   ·rename_i h128;rw[if_neg h128];have:=gsh_pos r (i+1) (n+c.toNat % 128*128^i) h;omega
theorem pTx_pos {l:List UInt8} {x:TxP} {k:Nat} (h:pTx l= .ok (x,k)) (hk:k≤l.length):1≤k:=by
 unfold pTx at h;split at h
 ·rename_i h0;have:=gsh_pos l 0 0 h0;split at h
  ·cases h
  ·rename_i S R hS;have h2:=(takeS_len hS).2;cases h3:pMsg R 0 with
   |error e=>rw[pBind_err h3]at h;cases h
   |ok y=>
    rw[pBind_ok h3]at h;injection h with h
    injection h with _ h
    rw[List.length_drop]at h2;by_cases hl:l.length=0
    ·have:l=[]:=List.eq_nil_of_length_eq_zero hl;subst this;simp[gsh]at h0
    ·omega
 ·cases h
theorem decL_len:∀ {n:Nat} {L:List UInt8} {xs:List TxP} {R:List UInt8},(∀(l:List UInt8) x k,pTx l= .ok (x,k)→k≤l.length)→decL n L=some (xs,R)→n≤L.length
 |0,_,_,_,_,_=>Nat.zero_le _
 |n+1,L,xs,R,hle,h=>by
  rw[decL]at h;split at h
  ·rename_i x k hx;split at h
   ·have h1:=pTx_pos hx (hle _ _ _ hx);have h2:=hle _ _ _ hx;cases h3:decL n (L.drop k)with
    |none=>rw[h3]at h;cases h
    |some y=>
     have:=decL_len (R:=y.2) hle h3;rw[List.length_drop]at this;omega
   ·cases h
  ·cases h
end
def PO {α:Type} (n:Nat) (P:α→Prop) (r:PR α):Prop:=∀x k,r= .ok (x,k)→k≤n∧P x
theorem PO.err {α:Type} {n:Nat} {P:α→Prop} {e:Nat}:PO n P (.error e:PR α):=fun _ _ h=>by cases h
theorem PO.ok {α:Type} {n k:Nat} {P:α→Prop} {x:α} (hk:k≤n) (hx:P x):PO n P (.ok (x,k):PR α):=fun _ _ h=>by
 cases h;exact⟨hk,hx⟩
theorem PO.bind {α β:Type} {n:Nat} {P:α→Prop} {R:β→Prop} {r:PR α} {f:α→Nat→PR β} (h:PO n P r) (hf:∀x k,k≤n→P x→PO n R (f x k)):PO n R (pBind r f):=by
 cases hr:r with
 |error e=>exact PO.err
 |ok y=>exact hf y.1 y.2 (h _ _ hr).1 (h _ _ hr).2
theorem PO.byte {l:List UInt8} {k:Nat}:PO l.length (fun _=>True) (pByte l k):=by
 unfold pByte;split
 ·rename_i c h;have:=(List.getElem?_eq_some_iff.1 h).1;exact PO.ok (by omega) trivial
 ·exact PO.err
theorem PO.short {l:List UInt8} {k:Nat} (hk:k≤l.length):PO l.length (fun n=>n≤65535) (pShort l k):=fun n k1 h=>by
 have:=pShort_fit h hk;exact⟨this.2.1,this.1⟩
theorem PO.bytes {l:List UInt8} {k n:Nat}:PO l.length (fun x=>x.length≤n) (pBytes l k n):=by
 unfold pBytes;split
 ·exact PO.ok (by assumption) (by rw[List.length_take];omega)
 ·exact PO.err
theorem PO.list {l:List UInt8} {k:Nat} (hk:k≤l.length):PO l.length (fun x=>x.length≤65535) (pList l k):=by
 unfold pList;split
 ·rename_i n k1 h;have h1:=(PO.short hk _ _ h).2;intro x k2 h2;have h3:=PO.bytes _ _ h2;exact⟨h3.1,Nat.le_trans h3.2 h1⟩
 ·exact PO.err
theorem PO.key {l:List UInt8} {k:Nat}:PO l.length (fun _=>True) (pKey l k):=by
 unfold pKey;split
 ·exact PO.ok (by assumption) trivial
 ·exact PO.err
def InB (x:InP):Prop:=x.a.length≤65535∧x.d.length≤65535
def LoB (x:LoP):Prop:=x.w.length≤65535∧x.r.length≤65535
theorem PO.instr {l:List UInt8} {k:Nat}:PO l.length InB (pInstr l k):=by
 unfold pInstr;split
 ·exact PO.err
 ·rename_i q k1 h1;have b1:=(PO.byte _ _ h1).1;split
  ·exact PO.err
  ·rename_i x k2 h2;have b2:=PO.list b1 _ _ h2;split
   ·exact PO.err
   ·rename_i y k3 h3;have b3:=PO.list b2.1 _ _ h3;exact PO.ok b3.1 ⟨b2.2,b3.2⟩
theorem PO.look {l:List UInt8} {k:Nat}:PO l.length LoB (pLook l k):=by
 unfold pLook;split
 ·exact PO.err
 ·rename_i q k1 h1;have b1:=(PO.key _ _ h1).1;split
  ·exact PO.err
  ·rename_i x k2 h2;have b2:=PO.list b1 _ _ h2;split
   ·exact PO.err
   ·rename_i y k3 h3;have b3:=PO.list b2.1 _ _ h3;exact PO.ok b3.1 ⟨b2.2,b3.2⟩
theorem PO.rep {α:Type} {l:List UInt8} {P:α→Prop} {one:Nat→PR α} (h:∀k,k≤l.length→PO l.length P (one k)):∀n k,k≤l.length→PO l.length (fun xs=>xs.length=n∧∀x∈xs,P x) (pRep one n k)
 |0,k,hk=>PO.ok hk ⟨rfl,fun _ h=>by cases h⟩
 |n+1,k,hk=>by
  rw[pRep];split
  ·exact PO.err
  ·rename_i x k1 h1;have b1:=h k hk _ _ h1;split
   ·exact PO.err
   ·rename_i xs k2 h2;have b2:=PO.rep h n k1 b1.1 _ _ h2;refine PO.ok b2.1 ⟨by rw[List.length_cons,b2.2.1],fun y hy=> ?_⟩;rcases List.mem_cons.1 hy with rfl|hy
    ·exact b1.2
    ·exact b2.2.2 y hy
theorem PO.all {α:Type} {l:List UInt8} {P:α→Prop} {one:Nat→PR α} (h:∀k,k≤l.length→PO l.length P (one k)) {k:Nat} (hk:k≤l.length):PO l.length (fun xs=>xs.length≤65535∧∀x∈xs,P x) (pAll one l k):=by
 unfold pAll;split
 ·exact PO.err
 ·rename_i n k1 h1;have b1:=PO.short hk _ _ h1;intro xs k2 h2;have b2:=PO.rep h n k1 b1.1 _ _ h2;exact⟨b2.1,by rw[b2.2.1];exact b1.2,b2.2.2⟩
def MsB (m:MsP):Prop:=m.ks.length≤65535∧(m.ins.length≤65535∧∀x∈m.ins,InB x)∧(m.lks.length≤65535∧∀x∈m.lks,LoB x)
theorem PO.msg {l:List UInt8} {k:Nat}:PO l.length MsB (pMsg l k):=by
 refine PO.byte.bind fun c k1 h1 _=> ?_;split
 ·exact PO.err
 ·refine PO.bind (P:=fun _=>True) ?_ fun h0 k2 b2 _=>PO.byte.bind fun h1 k3 b3 _=>PO.byte.bind fun h2 k4 b4 _=>(PO.all (fun _ _=>PO.key) b4).bind fun ks k5 b5 c5=>PO.key.bind fun rc k6 b6 _=>(PO.all (fun _ _=>PO.instr) b6).bind fun ins k7 b7 c7=>
   PO.bind (P:=fun xs=>xs.length≤65535∧∀x∈xs,LoB x) ?_ fun lks k8 b8 c8=>PO.ok b8 ⟨c5.1,c7,c8⟩
  ·split
   ·exact PO.byte
   ·exact PO.ok h1 trivial
  ·split
   ·exact PO.all (fun _ _=>PO.look) b7
   ·exact PO.ok b7 ⟨Nat.zero_le _,fun _ h=>by cases h⟩
def TxB (x:TxP):Prop:=x.sg.length≤65535∧MsB x.m
theorem PO.tx {l:List UInt8}:PO l.length TxB (pTx l):=by
 unfold pTx;split
 ·rename_i h0;have hf:=gsh_fit l 0 0 (by decide) (by omega) h0;split
  ·exact PO.err
  ·rename_i S R hS;have h2:=takeS_len hS;rw[List.length_drop]at h2;intro x k h;cases h3:pMsg R 0 with
   |error e=>rw[pBind_err h3]at h;cases h
   |ok y=>
    rw[pBind_ok h3]at h;cases h;have:=PO.msg _ _ h3;exact⟨by omega,by show S.length≤_;omega,this.2⟩
 ·exact PO.err
theorem pTx_le {l:List UInt8} {x:TxP} {k:Nat} (h:pTx l= .ok (x,k)):k≤l.length:=(PO.tx _ _ h).1
theorem decP_big {l:List UInt8} (h:l.length<leV (l.take 8)):decP l=none:=by
 unfold decP;split
 ·rfl
 ·cases h2:decL (leV (l.take 8)) (l.drop 8)with
  |none=>rfl
  |some y=>
   have:=decL_len (R:=y.2) (fun l x k h=>pTx_le h) h2;rw[List.length_drop]at this;omega
def sat (a b:UInt64):UInt64:=if a.toNat+b.toNat<18446744073709551616 then a+b else 18446744073709551615
def ofK (m:List (Key×UInt64)) (k:Key):UInt64:=(lkp k m).getD 0
def putAll (f:Key→UInt64) (ws:List Key) (m:List (Key×UInt64)):List (Key×UInt64):=ws.foldl (fun m k=>put k (f k) m) m
theorem putAll_snoc (f:Key→UInt64) (ws:List Key) (k:Key) (m:List (Key×UInt64)):putAll f (ws++[k]) m=put k (f k) (putAll f ws m):=by simp[putAll]
def putL (l:List (Key×UInt64)) (m:List (Key×UInt64)):List (Key×UInt64):=l.foldl (fun m p=>put p.1 p.2 m) m
structure Lim where
 b:UInt64
 a:UInt64
 s:UInt64
def would (L:Lim) (b s:UInt64) (f:Key→UInt64) (c:UInt64) (ws:List Key) (sp:UInt64):Nat:=
 if L.b<sat b c then 24 else if ws.any (fun k=>decide (L.a<sat (f k) c))then 25 else if L.s<sat s sp then 26 else 0
section
attribute [local go_sem↓] ldSg stSg wlTc ldTc stTc
attribute [local go_sem] txr_one'
theorem hmf (fn:Fn) (first cap:Array Value) (w:World):(Instr.makeFunc fn first cap).run Tryz.prog w= .ok (.func fn first cap) w:=rfl
theorem addLaid (x y:Nat) (hx:x<18446744073709551616) (hy:y<18446744073709551616) (w:World):(callFunc 97 #[.int .u64 (x:Int),.int .u64 (y:Int),.int .u64 0]).run Tryz.prog w=
   .ok (.value (.tuple #[.int .u64 (((x+y) % 18446744073709551616:Nat):Int),.int .u64 (((x+y)/18446744073709551616:Nat):Int)])) w:=by
 rw[run_callFunc_extern Tryz.func97 (by kernel_rfl) (by kernel_rfl) (by kernel_rfl) (e:=add64Entry) (by kernel_rfl),run_add64 x y 0 (by omega) (by omega) (by omega) (by omega)];simp only[Result.andThen];congr 5<;>omega
theorem addL0 (x:UInt64) (w:World):(callFunc 97 #[.int .u64 0,u64v x,.int .u64 0]).run Tryz.prog w= .ok (.value (.tuple #[u64v x,.int .u64 0])) w:=by
 have h:=addLaid 0 x.toNat (by omega) x.toNat_lt w;have hx:=x.toNat_lt;rw[Nat.zero_add,Nat.mod_eq_of_lt hx,Nat.div_eq_of_lt hx]at h;exact h
theorem addL2 (x y:UInt64) (w:World):(callFunc 97 #[u64v x,u64v y,.int .u64 0]).run Tryz.prog w= .ok (.value (.tuple #[u64v (x+y),.int .u64 (if 18446744073709551616≤x.toNat+y.toNat then 1 else 0)])) w:=by
 have h:=addLaid x.toNat y.toNat x.toNat_lt y.toNat_lt w;have hx:=x.toNat_lt;have hy:=y.toNat_lt;refine h.trans ?_;rw[u64v,UInt64.toNat_add];by_cases hc:18446744073709551616≤x.toNat+y.toNat
 ·rw[if_pos hc,show(x.toNat+y.toNat)/18446744073709551616=1 by omega];rfl
 ·rw[if_neg hc,show(x.toNat+y.toNat)/18446744073709551616=0 by omega];rfl
theorem sat_over {a b:UInt64} (h:18446744073709551616≤a.toNat+b.toNat):u64v (sat a b)= .int .u64 18446744073709551615:=by
 unfold sat;rw[if_neg (by omega)];rfl
theorem sat_in {a b:UInt64} (h:¬18446744073709551616≤a.toNat+b.toNat):sat a b=a+b:=by
 unfold sat;rw[if_pos (by omega)]
theorem tsum_c (g:Nat) (a b:UInt64) (w:World) (kg:w.heap[g]? =some (.cells #[u64v a,u64v b] 25 (0,0))):Calls Tryz.prog 121 #[.slice (some ⟨g,0,none⟩) 2 2] w fun e w'=>e= .returned (u64v (sat a b))∧Mod (fun _=>False) w w':=by
 have h0:=addL0 a;have h2:=addL2 a b;go_enter Tryz.func121,Tryz.ntmps121;by_cases hc:18446744073709551616≤a.toNat+b.toNat
 ·have HC:=Hi (sat_over hc);simp only[if_pos hc]at h2;clear hc;go_wp2_with (simp only[h0,h2]);go_loopw [2,9] (fun s2 s9 ws=>∃i:Nat,i≤1∧s9= .int .i64 (i:Int)∧s2=(if i=0 then .int .u64 0 else u64v a)∧Mod (fun _=>False) w ws) (fun _ s9 _=>2-(intOf s9).toNat)
  case atStart=>exact⟨0,by omega,rfl,rfl,Mod.refl _ _⟩
  case round=>
   obtain⟨i,hi,rfl,rfl,hm⟩:=hrel;replace kg:=hm.at0 kg;rcases(by omega:i=0∨i=1)with rfl|rfl
   ·simp only[if_true];go_wp2_with (simp only[h0,h2]);go_roundw
    case rel=>exact⟨1,by omega,by go_num,rfl,hm⟩
    case measure=>simp[intOf]
   ·simp only[Nat.one_ne_zero,if_false];go_wp2_with (simp only[h0,h2]);go_ret;exact⟨by rw[HC.out];rfl,hm⟩
 ·have HC:=Hi (sat_in hc);simp only[if_neg hc]at h2;clear hc;go_wp2_with (simp only[h0,h2]);go_loopw [2,9] (fun s2 s9 ws=>∃i:Nat,i≤2∧s9= .int .i64 (i:Int)∧s2=(if i=0 then .int .u64 0 else if i=1 then u64v a else u64v (a+b))∧Mod (fun _=>False) w ws) (fun _ s9 _=>2-(intOf s9).toNat)
  case atStart=>exact⟨0,by omega,rfl,rfl,Mod.refl _ _⟩
  case round=>
   obtain⟨i,hi,rfl,rfl,hm⟩:=hrel;replace kg:=hm.at0 kg;rcases(by omega:i=0∨i=1∨i=2)with rfl|rfl|rfl
   ·simp only[if_true];go_wp2_with (simp only[h0,h2]);go_roundw
    case rel=>exact⟨1,by omega,by go_num,rfl,hm⟩
    case measure=>simp[intOf]
   ·simp only[Nat.one_ne_zero,if_false,if_true];go_wp2_with (simp only[h0,h2]);go_roundw
    case rel=>exact⟨2,by omega,by go_num,rfl,hm⟩
    case measure=>simp[intOf]
   ·simp only[show¬(2:Nat)=0 by omega,show¬(2:Nat)=1 by omega,if_false];go_wp2_with (simp only[h0,h2]);go_ret;exact⟨by rw[HC.out];rfl,hm⟩
theorem or_zero (a:UInt64):bits .or .u64 (a.toNat:Int) 0=(a.toNat:Int):=by
 have h:=bits_or_u64_nat a.toNat 0 a.toNat_lt (by omega);rw[Nat.or_zero]at h;exact h
theorem or_max (a:UInt64):bits .or .u64 (a.toNat:Int) 18446744073709551615=18446744073709551615:=by
 have h:=bits_or_u64_nat a.toNat 18446744073709551615 a.toNat_lt (by omega);have e:a.toNat|||18446744073709551615=18446744073709551615:=by
  have ha:=a.toNat_lt;apply Nat.eq_of_testBit_eq;intro i;rw[Nat.testBit_or];have h1:(18446744073709551615:Nat).testBit i=decide (i<64):=Nat.testBit_two_pow_sub_one 64 i;rw[h1];by_cases hi:i<64
  ·simp[hi]
  ·have:a.toNat.testBit i=false:=Nat.testBit_lt_two_pow (Nat.lt_of_lt_of_le ha (Nat.pow_le_pow_right (by omega) (by omega)));simp[hi,this]
 rw[e]at h;exact h
theorem adds_cast (a x:UInt64):((a.toNat:Int)+(x.toNat:Int)) % 18446744073709551616=((a+x).toNat:Int):=by
 rw[UInt64.toNat_add];omega
theorem alU64 (w:World):(Instr.alloc 25 true (.tuple #[])).run Tryz.prog w= .ok (.pointer (some ⟨w.heap.size,0,none⟩)) (w.alloc (.cells #[.int .u64 0] 25)):=by kernel_rfl
theorem setBlk (w:World) {p:Nat} {o o':Obj} (h:w.heap[p]? =some o):(setBlock w p o').heap[p]? =some o':=heap_setBlock w o' (Ls h)
theorem wsum1_c (p:Nat) (a x:UInt64) (w:World) (kp:w.heap[p]? =some (.cells #[u64v a] 25 (0,0))):Calls Tryz.prog 96 #[u64v x,pV p] w fun e w'=>e= .returned (.tuple #[])∧w'.heap[p]? =some (.cells #[u64v (sat a x)] 25 (0,0))∧Mod (fun i=>i=p) w w':=by
 have h2:=addL2 a x;have ho:=or_zero (a+x);have hm:=or_max (a+x);go_enter Tryz.func96,Tryz.ntmps96;by_cases hc:18446744073709551616≤a.toNat+x.toNat
 ·have HC:=Hi (sat_over hc);simp only[if_pos hc]at h2;clear hc ho;have HM:=Hi hm;clear hm;go_wp2_with (simp only[h2]);go_end0;rw[setCell_blk kp];refine⟨rfl,?_,mod_set _ _ _⟩;rw[setBlk w kp,HC.out,adds_cast a x,show IntKind.u64.wrap (-1)=18446744073709551615 from rfl,HM.out];rfl
 ·have HC:=Hi (sat_in hc);simp only[if_neg hc]at h2;clear hc hm;have HO:=Hi ho;clear ho;go_wp2_with (simp only[h2]);go_end0;rw[setCell_blk kp];refine⟨rfl,?_,mod_set _ _ _⟩;rw[setBlk w kp,HC.out,adds_cast a x,HO.out];rfl
theorem sat_zero (x:UInt64):sat 0 x=x:=by
 have h:=x.toNat_lt;rw[sat_in (by show¬18446744073709551616≤0+x.toNat;omega),UInt64.zero_add]
theorem wsum_c (g:Nat) (a b:UInt64) (w:World) (kg:w.heap[g]? =some (.cells #[u64v a,u64v b] 25 (0,0))):Calls Tryz.prog 47 #[.slice (some ⟨g,0,none⟩) 2 2] w fun e w'=>e= .returned (u64v (sat a b))∧Mod (fun _=>False) w w':=by
 have hmf:=hmf;go_enter Tryz.func47,Tryz.ntmps47;go_upto_region 1 with fail;have Lkg:=Ls kg;refine ZP0 [3,4] ?_;refine Za alU64 fun p3 hp3=> ?_;refine Zt ?_;refine TD.nil (fun w1 hr=> ?_);replace kg:=hr.q kg;obtain⟨gp3,kp3⟩:=hr.b p3;have m1:=hr.mod;clear hr;have hgp:g≠p3:=by omega
 have KG:=Hi kg;clear kg;go_wp2_with fail;go_loopw [10] (fun s10 ws=>∃i:Nat,i≤2∧s10= .int .i64 (i:Int)∧ws.heap[p3]? =some (.cells #[u64v (if i=0 then 0 else if i=1 then a else sat a b)] 25 (0,0))∧Mod (fun i=>i=p3) w1 ws) (fun s10 _=>2-(intOf s10).toNat)
 case atStart=>exact⟨0,by omega,rfl,kp3,Mod.refl _ _⟩
 case round=>
  obtain⟨i,hi,rfl,kp,hm⟩:=hrel;have kg:=hm.at_ne KG.out hgp;clear kp3;rcases(by omega:i=0∨i=1∨i=2)with rfl|rfl|rfl
  ·simp only[if_true]at kp;have KP:=Hi kp;go_wp2_with fail;refine(wsum1_c p3 0 a _ KP.out).mono ?_;rintro e w3 ⟨rfl,k3,m3⟩;rw[sat_zero]at k3;have m3:=hm.trans m3;clear kp kg;go_wp2_with fail;go_roundw
   case rel=>exact⟨1,by omega,by go_num,by simpa using k3,m3⟩
   case measure=>simp[intOf]
  ·simp only[Nat.one_ne_zero,if_false,if_true]at kp;have KP:=Hi kp;go_wp2_with fail;refine(wsum1_c p3 a b _ KP.out).mono ?_;rintro e w3 ⟨rfl,k3,m3⟩;have m3:=hm.trans m3;clear kp kg;go_wp2_with fail;go_roundw
   case rel=>exact⟨2,by omega,by go_num,by simpa using k3,m3⟩
   case measure=>simp[intOf]
  ·simp only[show¬(2:Nat)=0 by omega,show¬(2:Nat)=1 by omega,if_false]at kp;clear kg;go_wp2_with fail;go_ret;exact⟨rfl,m1.thenB hm (.inl gp3)⟩
end
section
attribute [local go_sem↓] ldSg stSg wlTc ldTc stTc
attribute [local go_sem] txr_one'
theorem mul64_c (x y:Nat) (hx:x<18446744073709551616) (hy:y<18446744073709551616) (w:World):
  Calls Tryz.prog 131 #[.int .u64 x,.int .u64 y] w fun e w'=>e= .returned (.tuple #[.int .u64 ((x*y/18446744073709551616:Nat):Int),.int .u64 ((x*y % 18446744073709551616:Nat):Int)])∧w'=w:=by
 obtain⟨bd,bt,bw,hhi⟩:=Lib.mul64_hi x y hx hy;have ba:=Lib.half_mul_le (a:=x/4294967296) (b:=y/4294967296) (by omega) (by omega);have bb:=Lib.half_mul_le (a:=x/4294967296) (b:=y % 4294967296) (by omega) (by omega);have bc:=Lib.half_mul_le (a:=x % 4294967296) (b:=y/4294967296) (by omega) (by omega);have ba':x/4294967296*(y/4294967296)<18446744073709551616:=by omega
 have bb':x/4294967296*(y % 4294967296)<18446744073709551616:=by omega
 have bc':x % 4294967296*(y/4294967296)<18446744073709551616:=by omega
 have bh1:x/4294967296*(y/4294967296)+(x/4294967296*(y % 4294967296)+x % 4294967296*(y % 4294967296)/4294967296)/4294967296<18446744073709551616:=by omega
 have bh:x/4294967296*(y/4294967296)+(x/4294967296*(y % 4294967296)+x % 4294967296*(y % 4294967296)/4294967296)/4294967296+((x/4294967296*(y % 4294967296)+x % 4294967296*(y % 4294967296)/4294967296) % 4294967296+x % 4294967296*(y/4294967296))/4294967296<18446744073709551616:=by omega
 go_enter Tryz.func131,Tryz.ntmps131
 go_wp2
 simp only[Mul64.maskN x hx,Mul64.maskN y hy,Mul64.divN,Mul64.mulN,Mul64.addN,Mul64.wrapN _ bd,Mul64.wrapN _ bb',Mul64.wrapN _ bt,Mul64.maskN _ bt,Mul64.wrapN _ bc',Mul64.wrapN _ bw,Mul64.wrapN _ ba',Mul64.wrapN _ bh1,Mul64.wrapN _ bh,Mul64.wrapM (x*y)];rw[hhi]
 go_ret2
 exact⟨rfl,rfl⟩
theorem mul_c (x y:UInt64) (w:World):Calls Tryz.prog 118 #[u64v x,u64v y] w fun e w'=>e= .returned (.tuple #[.int .u64 ((x.toNat*y.toNat/18446744073709551616:Nat):Int),.int .u64 ((x.toNat*y.toNat % 18446744073709551616:Nat):Int)])∧w'=w:=by
 have H:=mul64_c x.toNat y.toNat x.toNat_lt y.toNat_lt;generalize x.toNat*y.toNat/18446744073709551616=hi at *;generalize x.toNat*y.toNat % 18446744073709551616=lo at *;have HH:=Hi H;clear H;go_enter Tryz.func118,Tryz.ntmps118;go_wp2_with fail;go_at_call 131;refine(HH.out _).mono ?_;rintro e w2 ⟨rfl,rfl⟩;go_wp2_with fail
 go_ret2
 exact⟨rfl,rfl⟩
theorem div1_c (z:UInt64) (w:World):Calls Tryz.prog 119 #[.int .u64 0,u64v z,.int .u64 1] w fun e w'=>(∃r,e= .returned (.tuple #[u64v z,.int .u64 r]))∧Mod (fun _=>False) w w':=by
 have hw:IntKind.u64.wrap (z.toNat:Int)=(z.toNat:Int):=Mul64.wrapN _ z.toNat_lt;go_enter Tryz.func119,Tryz.ntmps119;go_upto_region 6 with fail;refine ZP [0,0,0,0,0,0,0,0] ?_
 iterate 8 refine Zv ?_
 refine TD.nil (fun w1 hr=> ?_);have m1:=hr.mod;go_wp2_with fail
 go_ret2
 exact⟨⟨_,rfl⟩,m1⟩
def tim (a b:UInt64):UInt64:=if a.toNat*b.toNat<18446744073709551616 then a*b else 18446744073709551615
theorem times1_c (a b:UInt64) (w:World):Calls Tryz.prog 87 #[u64v a,u64v b,.int .u64 1,.bool false] w fun e w'=>e= .returned (u64v (tim a b))∧Mod (fun _=>False) w w':=by
 by_cases hc:a.toNat*b.toNat<18446744073709551616
 ·have h1:a.toNat*b.toNat/18446744073709551616=0:=Nat.div_eq_of_lt hc;have h2:((a.toNat*b.toNat % 18446744073709551616:Nat):Int)=((tim a b).toNat:Int):=by
   unfold tim;rw[if_pos hc,UInt64.toNat_mul]
  have hT:=mul_c a b;rw[h1,h2]at hT;generalize tim a b=z at *;have HT:=Hi hT;clear hT h1 h2 hc;go_enter Tryz.func87,Tryz.ntmps87;go_wp2_with fail;go_at_call 118;refine(HT.out _).mono ?_;rintro e w2 ⟨rfl,rfl⟩;go_wp2_with fail;go_at_call 119;refine(div1_c z _).mono ?_;rintro e w3 ⟨⟨r,rfl⟩,m3⟩;go_wp2_with fail;go_ret;exact⟨rfl,m3⟩
 ·obtain⟨hi,hhi⟩:∃hi,a.toNat*b.toNat/18446744073709551616=hi:=⟨_,rfl⟩;obtain⟨lo,hlo⟩:∃lo,a.toNat*b.toNat % 18446744073709551616=lo:=⟨_,rfl⟩;have h2:u64v (tim a b)= .int .u64 18446744073709551615:=by
   unfold tim;rw[if_neg hc];rfl
  have hge:(1:Int)≤(hi:Int):=by
   have:=Nat.le_of_not_lt hc;omega
  have hT:=mul_c a b;rw[hhi,hlo]at hT;have HT:=Hi hT;have H2:=Hi h2;clear hT h2 hc hhi hlo;go_enter Tryz.func87,Tryz.ntmps87;go_wp2_with fail;go_at_call 118;refine(HT.out _).mono ?_;rintro e w2 ⟨rfl,rfl⟩;go_wp2_with fail;go_ret;exact⟨by rw[H2.out];rfl,Mod.refl _ _⟩
end
section
attribute [local go_sem↓] ldSg stSg wlTc ldTc stTc
attribute [local go_sem] txr_one'
def wholeP (b:List UInt8):Except Nat TxP:=if 1232<b.length then .error 3 else match pTx b with
 | .error e=> .error e
 | .ok (x,k)=>if k<b.length then .error 4 else .ok x
def totP (x:TxP):Nat:=x.m.ks.length+(x.m.lks.map (fun l=>l.w.length+l.r.length)).sum
def signedP (x:TxP):Bool:=decide (0<x.m.h0.toNat)&&decide (x.sg.length=x.m.h0.toNat)
def headedP (x:TxP):Bool:=decide (x.m.h1.toNat<x.m.h0.toNat)&&decide (x.m.h0.toNat+x.m.h2.toNat≤x.m.ks.length)
def lookedP (x:TxP):Bool:=x.m.lks.all (fun l=>decide (l.w.length+l.r.length≠0))
def fewP (x:TxP):Bool:=decide (totP x≤64)
def pointP (keys all:Nat) (i:InP):Bool:=decide (i.p.toNat≠0)&&decide (i.p.toNat<keys)&&i.a.all (fun c=>decide (c.toNat<all))
def pointedP (x:TxP):Bool:=x.m.ins.all (pointP x.m.ks.length (totP x))
def onceP (x:TxP):Bool:=decide x.m.ks.Nodup
def chkP (x:TxP):Nat:=if !signedP x then 6 else if !headedP x then 7 else if !lookedP x then 10 else if !fewP x then 3 else if !pointedP x then 8 else if !onceP x then 9 else 0
def wireP (b:List UInt8):Except Nat TxP:=match wholeP b with
 | .error e=> .error e
 | .ok x=>if chkP x=0 then .ok x else .error (chkP x)
abbrev TbL:=List (Key×List Key)
def tbFind (T:TbL) (k:Key):Option (List Key):=(T.find? (fun x=>decide (x.1=k))).map (·.2)
def pickP (l:List Key):List UInt8→Option (List Key)
 |[]=>some []
 |i::is=>match l[i.toNat]? with
  |none=>none
  |some k=>(pickP l is).map (k::·)
def resP (T:TbL):List LoP→List Key×List Key→Except Nat (List Key×List Key)
 |[],o=> .ok o
 |x::xs,o=>match tbFind T x.t with
  |none=> .error 11
  |some l=>match pickP l x.w,pickP l x.r with
   |some a,some b=>resP T xs (o.1++a,o.2++b)
   |_,_=> .error 8
def keyB:Key:=⟨3::List.replicate 31 0,rfl⟩
def knownP (k:Key):Bool:=decide (k=key0)||decide (k=keyB)
def ownRP (m:MsP) (i:Nat) (k:Key):Role:=⟨k,decide (i<m.h0.toNat),if i<m.h0.toNat then decide (((i:Nat):Int)<(m.h0.toNat:Int)-m.h1.toNat)else decide (((i:Nat):Int)<(m.ks.length:Int)-m.h2.toNat)⟩
def rolesL (m:MsP) (ws rs:List Key):List Role:=(m.ks.mapIdx (ownRP m))++ws.map (fun k=>⟨k,false,true⟩)++rs.map (fun k=>⟨k,false,false⟩)
def rolesP (m:MsP) (ws rs:List Key):Except Nat (List Role):=if((rolesL m ws rs).map (·.k)).Nodup then .ok ((rolesL m ws rs).map (fun r=>⟨r.k,r.s,r.w&& !knownP r.k⟩))else .error 9
def coL (s n d u:UInt64):List UInt64:=[tim s 720,tim n 300,d/4,u]
def coF (s n d u:UInt64):UInt64:=(coL s n d u).foldl sat 0
def wrL (l:List Role):List Key:=(l.filter (·.w)).map (·.k)
def toldP (d:List UInt8):Option (Nat×UInt64):=if d.length=5∧d[0]? =some 2 then some (0,UInt64.ofNat (leV (d.drop 1)))else if d.length=9∧d[0]? =some 3 then some (1,UInt64.ofNat (leV (d.drop 1)))else none
def wordP (m:MsP) (i:InP):Bool:=match m.ks[i.p.toNat]? with
 |some k=>decide (k=keyB)
 |none=>false
structure BuP where
 n:Nat
 bad:Option Nat
 u:Option UInt64
 p:Option UInt64
def budStep (m:MsP) (s:BuP) (j:Nat) (i:InP):BuP:=if !wordP m i then{s with n:=s.n+1}else if s.bad.isSome then s else match toldP i.d with
 |none=> {s with bad:=some j}
 |some (0,v)=>if s.u.isSome then{s with bad:=some j}else{s with u:=some v}
 |some (_,v)=>if s.p.isSome then{s with bad:=some j}else{s with p:=some v}
def budL (m:MsP):BuP→Nat→List InP→BuP
 |s,_,[]=>s
 |s,j,i::l=>budL m (budStep m s j i) (j+1) l
def budP (m:MsP):BuP:=budL m ⟨0,none,none,none⟩ 0 m.ins
def BuP.units (s:BuP):UInt64:=if(s.u.getD (UInt64.ofNat s.n*200000)).toNat≤1400000 then s.u.getD (UInt64.ofNat s.n*200000)else 1400000
def BuP.price (s:BuP):UInt64:=s.p.getD 0
def BuP.badI (s:BuP):Int:=match s.bad with
 |some j=>(j:Int)
 |none=> -1
theorem budL_snoc {m:MsP}:∀ {l:List InP} {s:BuP} {j:Nat} {x:InP},budL m s j (l++[x])=budStep m (budL m s j l) (j+l.length) x
 |[],s,j,x=>rfl
 |y::l,s,j,x=>by
  rw[List.cons_append,budL,budL,budL_snoc,List.length_cons];congr 1;omega
def timG (a b d:UInt64) (up:Bool):UInt64:=if d.toNat≤a.toNat*b.toNat/18446744073709551616 then 18446744073709551615 else if up=true∧0<a.toNat*b.toNat % d.toNat then sat (UInt64.ofNat (a.toNat*b.toNat/d.toNat)) 1 else UInt64.ofNat (a.toNat*b.toNat/d.toNat)
def feeF (s u p:UInt64):UInt64:=sat (tim s 5000) (timG p u 1000000 true)
def priF (s u p c:UInt64):UInt64:=timG (sat (tim s 5000/2) (timG p u 1000000 true)) 1000000 (sat c 1) false
structure RyP where
 b:List UInt8
 x:TxP
 ro:List Role
 u:UInt64
 p:UInt64
 bad:Int
 fee:UInt64
 cost:UInt64
 pri:UInt64
def dSumP (l:List InP):UInt64:=l.foldl (fun d x=>d+UInt64.ofNat x.d.length) 0
def tellP (b:List UInt8) (x:TxP) (ro:List Role):RyP:=
 let u:=(budP x.m).units
 let p:=(budP x.m).price
 let s:=UInt64.ofNat x.sg.length
 let c:=coF s (UInt64.ofNat (wrL ro).length) (dSumP x.m.ins) u
 ⟨b,x,ro,u,p,(budP x.m).badI,feeF s u p,c,priF s u p c⟩
def readyP (T:TbL) (b:List UInt8):Except Nat RyP:=match wireP b with
 | .error e=> .error e
 | .ok x=>match resP T x.m.lks ([],[])with
  | .error e=> .error e
  | .ok (ws,rs)=>match rolesP x.m ws rs with
   | .error e=> .error e
   | .ok ro=> .ok (tellP b x ro)
end
section
attribute [local go_sem↓] ldSg stSg wlTc ldTc stTc
attribute [local go_sem] txr_one'
theorem bK0 (w:World):(Instr.build 110 #[]).run Tryz.prog w= .ok (.agg (kc key0)) w:=by kernel_rfl
theorem bKB (w:World):(Instr.build 110 #[(0,.int .u8 3)]).run Tryz.prog w= .ok (.agg (kc keyB)) w:=by kernel_rfl
theorem system_c (w:World):Calls Tryz.prog 115 #[] w fun e w'=>e= .returned (.agg (kc key0))∧Mod (fun _=>False) w w':=by
 have hb:=bK0;go_enter Tryz.func115,Tryz.ntmps115;go_upto_region 0 with fail;refine ZP0 [3] ?_;refine Za alKey fun p0 hp0=> ?_;refine TD.nil (fun w1 hr=> ?_);obtain⟨gp0,kp0⟩:=hr.b p0;have m1:=hr.mod;go_upto_region 1 with fail;have Lkp0:=Ls kp0;refine ZP0 [0,5] ?_;refine Zu hb ?_;refine Zi fun wE hr=> ?_;replace kp0:=hr.mod.at0 kp0;have mE:=hr.mod;refine ZS ?_;refine ZN kp0 fun w2 kp0 mS=> ?_;(try simp only[Array.setIfInBounds,zL]at kp0);have m2:=(m1.then0 mE).thenB mS (.inl gp0);clear hr mE mS;go_wp2_with fail;exact bodyPost_ret (results_cell1 (v:= .agg (kc key0)) rfl rfl (by rw[ldKey];simp[kp0,kc_size,kc_ext])) rfl ⟨rfl,m2⟩
theorem budgetK_c (w:World):Calls Tryz.prog 116 #[] w fun e w'=>e= .returned (.agg (kc keyB))∧Mod (fun _=>False) w w':=by
 have hb:=bKB;go_enter Tryz.func116,Tryz.ntmps116;go_upto_region 0 with fail;refine ZP0 [3] ?_;refine Za alKey fun p0 hp0=> ?_;refine TD.nil (fun w1 hr=> ?_);obtain⟨gp0,kp0⟩:=hr.b p0;have m1:=hr.mod;go_upto_region 1 with fail;have Lkp0:=Ls kp0;refine ZP0 [0,5] ?_;refine Zu hb ?_;refine Zi fun wE hr=> ?_;replace kp0:=hr.mod.at0 kp0;have mE:=hr.mod;refine ZS ?_;refine ZN kp0 fun w2 kp0 mS=> ?_;(try simp only[Array.setIfInBounds,zL]at kp0);have m2:=(m1.then0 mE).thenB mS (.inl gp0);clear hr mE mS;go_wp2_with fail;exact bodyPost_ret (results_cell1 (v:= .agg (kc keyB)) rfl rfl (by rw[ldKey];simp[kp0,kc_size,kc_ext])) rfl ⟨rfl,m2⟩
theorem known_c (k:Key) (w:World):Calls Tryz.prog 79 #[.agg (kc k)] w fun e w'=>e= .returned (.bool (knownP k))∧Mod (fun _=>False) w w':=by
 go_enter Tryz.func79,Tryz.ntmps79;go_upto_region 0 with fail;refine ZP0 [3,0] ?_;refine Zb fun p1 hp1=> ?_;refine Zv ?_;refine TD.nil (fun w1 hr=> ?_);obtain⟨gp1,kp1⟩:=hr.b p1;have m1:=hr.mod;clear hr;by_cases h0:k=key0
 ·have hd:=Dt h0;have HE:Hid (knownP k=true):=Hi (by unfold knownP;rw[hd];rfl);clear h0;go_upto_region 1 with fail;have Lkp1:=Ls kp1;refine ZR (fun _ _ v=>v= .agg (kc key0)) [1,2,0,0,1,0,0,0,0] ?_;refine Zd ?_;(refine Zc ?_ (s:=by intro wq hSq;exact(system_c wq).mono (fun e w' h=>⟨_,h.1,rfl,h.2⟩));rintro _ hC;subst hC;try simp only[zL])
  iterate 2 refine Zv ?_
  refine Zp ?_
  iterate 2 refine Zo ?_
  iterate 2 refine Zv ?_
  refine TD.nil (fun w2 hr=> ?_);replace kp1:=hr.q kp1;have m2:=m1.then0 hr.mod;clear hr;go_wp2_with fail;go_ret;exact⟨by rw[HE.out];rfl,m2⟩
 ·have hd:=Df h0;by_cases h1:k=keyB
  ·have hd1:=Dt h1;have HE:Hid (knownP k=true):=Hi (by unfold knownP;rw[hd,hd1];rfl);clear h0 h1;go_upto_region 1 with fail;have Lkp1:=Ls kp1;refine ZR (fun f _ v=>(f=115→v= .agg (kc key0))∧(f=116→v= .agg (kc keyB))) [1,2,0,0,1,2,0,0,0] ?_;refine Zd ?_;(refine Zc ?_ (s:=by intro wq hSq;exact(system_c wq).mono (fun e w' h=>⟨_,h.1,⟨fun _=>rfl,fun e=>(by simp at e)⟩,h.2⟩));rintro _ hC;obtain rfl:=hC.1 rfl;try simp only[zL])
   iterate 3 first|refine Zv ?_|refine Zd ?_
   (refine Zc ?_ (s:=by intro wq hSq;exact(budgetK_c wq).mono (fun e w' h=>⟨_,h.1,⟨fun e=>(by simp at e),fun _=>rfl⟩,h.2⟩));rintro _ hC;obtain rfl:=hC.2 rfl;try simp only[zL])
   iterate 3 refine Zv ?_
   refine TD.nil (fun w2 hr=> ?_);replace kp1:=hr.q kp1;have m2:=m1.then0 hr.mod;clear hr;go_wp2_with fail;go_ret;exact⟨by rw[HE.out];rfl,m2⟩
  ·have hd1:=Df h1;have HE:Hid (knownP k=false):=Hi (by unfold knownP;rw[hd,hd1];rfl);clear h0 h1;go_upto_region 1 with fail;have Lkp1:=Ls kp1;refine ZR (fun f _ v=>(f=115→v= .agg (kc key0))∧(f=116→v= .agg (kc keyB))) [1,2,0,0,1,2,0,0,0] ?_;refine Zd ?_;(refine Zc ?_ (s:=by intro wq hSq;exact(system_c wq).mono (fun e w' h=>⟨_,h.1,⟨fun _=>rfl,fun e=>(by simp at e)⟩,h.2⟩));rintro _ hC;obtain rfl:=hC.1 rfl;try simp only[zL])
   iterate 3 first|refine Zv ?_|refine Zd ?_
   (refine Zc ?_ (s:=by intro wq hSq;exact(budgetK_c wq).mono (fun e w' h=>⟨_,h.1,⟨fun e=>(by simp at e),fun _=>rfl⟩,h.2⟩));rintro _ hC;obtain rfl:=hC.2 rfl;try simp only[zL])
   iterate 3 refine Zv ?_
   refine TD.nil (fun w2 hr=> ?_);replace kp1:=hr.q kp1;have m2:=m1.then0 hr.mod;clear hr;go_wp2_with fail;go_ret;exact⟨by rw[HE.out];rfl,m2⟩
end
section
attribute [local go_sem↓] ldSg stSg wlTc ldTc stTc
attribute [local go_sem] txr_one'
def BudW (w:World):Prop:=(∃U fr,w.heap[0]? =some (.cells #[.int .i64 4,.int .i64 8] U fr))∧∃U fr,w.heap[1]? =some (.cells #[.int .u8 2,.int .u8 3] U fr)
theorem BudW.mod0 {w w':World} (h:BudW w) (hm:Mod (fun _=>False) w w'):BudW w':=by
 obtain⟨⟨U,fr,h1⟩,V,gr,h2⟩:=h;exact⟨⟨U,fr,hm.at h1 (fun h=>h)⟩,V,gr,hm.at h2 (fun h=>h)⟩
def toldV (d:List UInt8):Value:=match toldP d with
 |none=> .tuple #[.int .i64 (-1),.int .u64 0]
 |some (k,n)=> .tuple #[.int .i64 (k:Int),u64v n]
theorem le_get {l:List UInt8} {k:Nat} (h:l.length=k) (hk:k≤8):∃z:UInt64,getN l k=(z.toNat,0)∧z=UInt64.ofNat (leV l):=by
 refine⟨UInt64.ofNat (leV l),?_,rfl⟩;have h1:=leV_lt l;have h2:leV l<18446744073709551616:=by
  have:256^l.length≤256^8:=Nat.pow_le_pow_right (by decide) (by omega);have:(256:Nat)^8=18446744073709551616:=by decide
  omega
 rw[getN,if_neg (by omega),←h,List.take_length,UInt64.toNat_ofNat',Nat.mod_eq_of_lt h2]
theorem told_c {a:Option Addr} {l:List UInt8} {c:Nat} (w:World) (hl:SlAt uc 1 w a l) (hc:l.length≤c) (hn:a=none→c=0) (hln:l.length≤140737488355328) (hB:BudW w):
  Calls Tryz.prog 81 #[.slice a l.length c] w fun e w'=>e= .returned (toldV l)∧Mod (fun _=>False) w w':=by
 have HL:=Hi (Ai hl (Ai hc (Ai hn (Ai hln hB))));obtain⟨ll,hll⟩:∃ll,l.length=ll:=⟨_,rfl⟩;have HLL:=Hi hll;rw[hll]at hln⊢;clear hl hc hn hB hll;go_enter Tryz.func81,Tryz.ntmps81;go_wp2_with fail;go_loopw [7] (fun s7 ws=>∃i:Nat,i≤2∧s7= .int .i64 (i:Int)∧Hid ((i=0∨¬(l.length=5∧l[0]? =some 2))∧(i≤1∨¬(l.length=9∧l[0]? =some 3)))∧Mod (fun _=>False) w ws) (fun s7 _=>2-(intOf s7).toNat)
 case atStart=>exact⟨0,by decide,rfl,Hi ⟨.inl rfl,.inl (by decide)⟩,Mod.refl _ _⟩
 case round=>
  obtain⟨i,hi,rfl,HN,hm⟩:=hrel;rcases(by omega:i=0∨i=1∨i=2)with rfl|rfl|rfl
  ·have hu:=HN;obtain⟨⟨U0,f0,kg0⟩,U1,f1,kg1⟩:=(HL.out.2.2.2.2.mod0 hm);by_cases hq:ll=5
   ·have hqe:((ll:Int)==5)=true:=by rw[beq_iff_eq];omega
    have hqd:decide ((ll:Int)=5)=true:=Dt (by omega);have hqn:decide (ll=5)=true:=Dt hq;obtain⟨y,hy⟩:∃y,l[0]? =some y:=⟨_,List.getElem?_eq_getElem (by have:=HLL.out;omega)⟩;obtain⟨g,o,C,U,fr,hga,kg,he,hle⟩:=(HL.out.1.mod0 hm).block hy;have HY:=Hi hy;subst hga;clear hy;have he0:C[o]? =some (.int .u8 (y.toNat:Int)):=by simpa using cellC he (j:=0) (v:= .int .u8 (y.toNat:Int)) rfl
    clear he hle;by_cases hy2:y=2
    ·subst hy2;have HE:Hid (toldP l=some (0,UInt64.ofNat (leV (l.drop 1)))):=Hi (by rw[toldP,if_pos ⟨by rw[HLL.out];exact hq,HY.out⟩]);obtain⟨sp,hsp,hss,-,-⟩:=sl_from (P:=Tryz.prog) bytesT (c:=c) (k:=1) HL.out.1 (by have:=HLL.out;omega) HL.out.2.1 HL.out.2.2.1;have hdl:(l.drop 1).length=4:=by rw[List.length_drop,HLL.out,hq]
     obtain⟨z,hz,hz2⟩:=le_get hdl (by decide);have hG:=fun w2 (h:SlAt uc 1 w2 sp (l.drop 1))=>getN_c sp (l.drop 1) (c-1) 4 w2 h (by omega) (by decide);rw[hz,hdl]at hG;rw[HLL.out,hq]at hsp;have HG:=Hi (Ai hG (Ai hss hz2));have HM:=Hi hm;subst hq;clear hG hss hz2 hz hdl hm;go_upto_region 4 with fail;have Lkg:=Ls kg;have Lkg0:=Ls kg0;have Lkg1:=Ls kg1;refine ZP [0,0,0,0,1,0,0,0,0,0,1,0,0,1,0,0] ?_
     iterate 16 first|refine Zv ?_|refine Zd ?_
     refine TD.nil (fun w2 hr=> ?_);replace kg:=hr.q kg;replace kg0:=hr.q kg0;replace kg1:=hr.q kg1;have HM2:=Hi (HM.out.then0 hr.mod);clear hr;go_upto_region 5 with fail;have Lkg:=Ls kg;have Lkg0:=Ls kg0;have Lkg1:=Ls kg1;refine ZR (fun _ _ v=>v= .tuple #[u64v z,.int .i64 0]) [0,0,0,0,1,2,0,0,0,0,0] ?_;refine Zv ?_;refine Zx hsp ?_
     iterate 3 first|refine Zv ?_|refine Zd ?_
     (refine Zc ?_ (s:=by intro wq hSq;exact(HG.out.1 wq (HG.out.2.1 wq ((HL.out.1.mod0 HM2.out).mod0 hSq))).mono (fun e w' h=>⟨_,h.1,rfl,h.2⟩));rintro _ hC;subst hC;try simp only[zL])
     iterate 5 refine Zv ?_
     refine TD.nil (fun w3 hr=> ?_);replace kg:=hr.q kg;replace kg0:=hr.q kg0;replace kg1:=hr.q kg1;have HM3:=Hi (HM2.out.then0 hr.mod);clear hr;go_wp2_with fail;refine bodyPost_ret (results_tmp2 rfl _ _ _) rfl ⟨?_,HM3.out⟩;unfold toldV;rw[HE.out,HG.out.2.2];rfl
    ·have hyd:((y.toNat:Int)==2)=false:=by
      rw[beq_eq_false_iff_ne];intro e;exact hy2 (UInt8.toNat_inj.1 (by show y.toNat=2;omega))
     have hyd2:decide ((y.toNat:Int)=2)=false:=Df (by have:=beq_eq_false_iff_ne.1 hyd;exact this);have HN2:Hid ((0+1=0∨¬(l.length=5∧l[0]? =some 2))∧(0+1≤1∨¬(l.length=9∧l[0]? =some 3))):=Hi (by exact⟨.inr fun h=>hy2 (by rw[HY.out]at h;exact Option.some.inj h.2),.inl (by decide)⟩);have HM:=Hi hm;subst hq;clear hm hu hy2;go_upto_region 4 with fail;have Lkg:=Ls kg;have Lkg0:=Ls kg0;have Lkg1:=Ls kg1;refine ZP [0,0,0,0,1,0,0,0,0,0,1,0,0,1,0,0] ?_
     iterate 16 first|refine Zv ?_|refine Zd ?_
     refine TD.nil (fun w2 hr=> ?_);replace kg:=hr.q kg;replace kg0:=hr.q kg0;replace kg1:=hr.q kg1;have HM2:=Hi (HM.out.then0 hr.mod);clear hr;go_wp2_with fail;go_roundw
     case rel=>exact⟨0+1,by decide,rfl,HN2,HM2.out⟩
     case measure=>simp[intOf]
   ·have hqe:((ll:Int)==5)=false:=by
     rw[beq_eq_false_iff_ne];omega
    have hqd:decide ((ll:Int)=5)=false:=Df (by omega);have hqw:IntKind.i64.wrap 5=5:=by kernel_rfl
    have hqn:decide (ll=5)=false:=Df hq;have HN2:Hid ((0+1=0∨¬(l.length=5∧l[0]? =some 2))∧(0+1≤1∨¬(l.length=9∧l[0]? =some 3))):=Hi (by exact⟨.inr fun h=>hq (by rw[←HLL.out];exact h.1),.inl (by decide)⟩);have HM:=Hi hm;clear hm hu hq;go_upto_region 4 with fail;have Lkg0:=Ls kg0;have Lkg1:=Ls kg1;refine ZP [0,0,0,0,1,0,0,0,1,0,0,0,0,0,0,0] ?_
    iterate 8 first|refine Zv ?_|refine Zd ?_
    refine Zp ?_
    iterate 6 refine Zo ?_
    refine Zv ?_;refine TD.nil (fun w2 hr=> ?_);replace kg0:=hr.q kg0;replace kg1:=hr.q kg1;have HM2:=Hi (HM.out.then0 hr.mod);clear hr;go_wp2_with fail;go_roundw
    case rel=>exact⟨0+1,by decide,rfl,HN2,HM2.out⟩
    case measure=>simp[intOf]
  ·have hu:=HN;obtain⟨⟨U0,f0,kg0⟩,U1,f1,kg1⟩:=(HL.out.2.2.2.2.mod0 hm);by_cases hq:ll=9
   ·have hqe:((ll:Int)==9)=true:=by rw[beq_iff_eq];omega
    have hqd:decide ((ll:Int)=9)=true:=Dt (by omega);have hqn:decide (ll=9)=true:=Dt hq;obtain⟨y,hy⟩:∃y,l[0]? =some y:=⟨_,List.getElem?_eq_getElem (by have:=HLL.out;omega)⟩;obtain⟨g,o,C,U,fr,hga,kg,he,hle⟩:=(HL.out.1.mod0 hm).block hy;have HY:=Hi hy;subst hga;clear hy;have he0:C[o]? =some (.int .u8 (y.toNat:Int)):=by simpa using cellC he (j:=0) (v:= .int .u8 (y.toNat:Int)) rfl
    clear he hle;by_cases hy2:y=3
    ·subst hy2;have HE:Hid (toldP l=some (1,UInt64.ofNat (leV (l.drop 1)))):=Hi (by rw[toldP,if_neg (hu.out.1.resolve_left (by decide)),if_pos ⟨by rw[HLL.out];exact hq,HY.out⟩]);obtain⟨sp,hsp,hss,-,-⟩:=sl_from (P:=Tryz.prog) bytesT (c:=c) (k:=1) HL.out.1 (by have:=HLL.out;omega) HL.out.2.1 HL.out.2.2.1;have hdl:(l.drop 1).length=8:=by rw[List.length_drop,HLL.out,hq]
     obtain⟨z,hz,hz2⟩:=le_get hdl (by decide);have hG:=fun w2 (h:SlAt uc 1 w2 sp (l.drop 1))=>getN_c sp (l.drop 1) (c-1) 8 w2 h (by omega) (by decide);rw[hz,hdl]at hG;rw[HLL.out,hq]at hsp;have HG:=Hi (Ai hG (Ai hss hz2));have HM:=Hi hm;subst hq;clear hG hss hz2 hz hdl hm;go_upto_region 4 with fail;have Lkg:=Ls kg;have Lkg0:=Ls kg0;have Lkg1:=Ls kg1;refine ZP [0,0,0,0,1,0,0,0,0,0,1,0,0,1,0,0] ?_
     iterate 16 first|refine Zv ?_|refine Zd ?_
     refine TD.nil (fun w2 hr=> ?_);replace kg:=hr.q kg;replace kg0:=hr.q kg0;replace kg1:=hr.q kg1;have HM2:=Hi (HM.out.then0 hr.mod);clear hr;go_upto_region 5 with fail;have Lkg:=Ls kg;have Lkg0:=Ls kg0;have Lkg1:=Ls kg1;refine ZR (fun _ _ v=>v= .tuple #[u64v z,.int .i64 0]) [0,0,0,0,1,2,0,0,0,0,0] ?_;refine Zv ?_;refine Zx hsp ?_
     iterate 3 first|refine Zv ?_|refine Zd ?_
     (refine Zc ?_ (s:=by intro wq hSq;exact(HG.out.1 wq (HG.out.2.1 wq ((HL.out.1.mod0 HM2.out).mod0 hSq))).mono (fun e w' h=>⟨_,h.1,rfl,h.2⟩));rintro _ hC;subst hC;try simp only[zL])
     iterate 5 refine Zv ?_
     refine TD.nil (fun w3 hr=> ?_);replace kg:=hr.q kg;replace kg0:=hr.q kg0;replace kg1:=hr.q kg1;have HM3:=Hi (HM2.out.then0 hr.mod);clear hr;go_wp2_with fail;refine bodyPost_ret (results_tmp2 rfl _ _ _) rfl ⟨?_,HM3.out⟩;unfold toldV;rw[HE.out,HG.out.2.2];rfl
    ·have hyd:((y.toNat:Int)==3)=false:=by
      rw[beq_eq_false_iff_ne];intro e;exact hy2 (UInt8.toNat_inj.1 (by show y.toNat=3;omega))
     have hyd2:decide ((y.toNat:Int)=3)=false:=Df (by have:=beq_eq_false_iff_ne.1 hyd;exact this);have HN2:Hid ((1+1=0∨¬(l.length=5∧l[0]? =some 2))∧(1+1≤1∨¬(l.length=9∧l[0]? =some 3))):=Hi (by exact⟨.inr (hu.out.1.resolve_left (by decide)),.inr fun h=>hy2 (by rw[HY.out]at h;exact Option.some.inj h.2)⟩);have HM:=Hi hm;subst hq;clear hm hu hy2;go_upto_region 4 with fail;have Lkg:=Ls kg;have Lkg0:=Ls kg0;have Lkg1:=Ls kg1;refine ZP [0,0,0,0,1,0,0,0,0,0,1,0,0,1,0,0] ?_
     iterate 16 first|refine Zv ?_|refine Zd ?_
     refine TD.nil (fun w2 hr=> ?_);replace kg:=hr.q kg;replace kg0:=hr.q kg0;replace kg1:=hr.q kg1;have HM2:=Hi (HM.out.then0 hr.mod);clear hr;go_wp2_with fail;go_roundw
     case rel=>exact⟨1+1,by decide,rfl,HN2,HM2.out⟩
     case measure=>simp[intOf]
   ·have hqe:((ll:Int)==9)=false:=by
     rw[beq_eq_false_iff_ne];omega
    have hqd:decide ((ll:Int)=9)=false:=Df (by omega);have hqw:IntKind.i64.wrap 9=9:=by kernel_rfl
    have hqn:decide (ll=9)=false:=Df hq;have HN2:Hid ((1+1=0∨¬(l.length=5∧l[0]? =some 2))∧(1+1≤1∨¬(l.length=9∧l[0]? =some 3))):=Hi (by exact⟨.inr (hu.out.1.resolve_left (by decide)),.inr fun h=>hq (by rw[←HLL.out];exact h.1)⟩);have HM:=Hi hm;clear hm hu hq;go_upto_region 4 with fail;have Lkg0:=Ls kg0;have Lkg1:=Ls kg1;refine ZP [0,0,0,0,1,0,0,0,1,0,0,0,0,0,0,0] ?_
    iterate 8 first|refine Zv ?_|refine Zd ?_
    refine Zp ?_
    iterate 6 refine Zo ?_
    refine Zv ?_;refine TD.nil (fun w2 hr=> ?_);replace kg0:=hr.q kg0;replace kg1:=hr.q kg1;have HM2:=Hi (HM.out.then0 hr.mod);clear hr;go_wp2_with fail;go_roundw
    case rel=>exact⟨1+1,by decide,rfl,HN2,HM2.out⟩
    case measure=>simp[intOf]
  ·have HE:Hid (toldP l=none):=Hi (by rw[toldP,if_neg (HN.out.1.resolve_left (by decide)),if_neg (HN.out.2.resolve_left (by decide))]);have HM:=Hi hm;clear hm;go_wp2_with fail;refine bodyPost_ret (results_tmp2 rfl _ _ _) rfl ⟨?_,HM.out⟩;unfold toldV;rw[HE.out];rfl
end
section
open Go.ChangeShapes Go.WideShapes Go.ChangeAt Go.WideMaps Go.WideElems Go.RowKit
def LD:List (String×DataW Unit):=[("ferryhouse/budgets.long",Rows.laid_ferryhouse_budgets_long),("ferryhouse/budgets.tags",Rows.laid_ferryhouse_budgets_tags)]
theorem door_met (os:Os) (args:Array Value):laidMetH Tryz.prog LD ((World.doorLaid Tryz.prog 400 os).forCall (fun _ _=>0) ⟨#[],args,[]⟩).memory:=
 laidMetH_of_parts3 (fuel:=8) (laidMet_of_run' 8 (by kernel_rfl) (by kernel_rfl)) (by kernel_rfl) (by kernel_rfl)
theorem LD_eq:LD=[("ferryhouse/budgets.long",Lib.tabData .i64 [4,8]),("ferryhouse/budgets.tags",Lib.tabData .u8 [2,3])]:=by rfl
theorem var_block {P:Program} {w:World} {name:String} {g:Nat} {cs:Array Value} (hg:P.globalNamed name=some g) (h:w.var? P name=some cs):∃U fr,w.heap[g]? =some (.cells cs U fr):=by
 unfold World.var? at h;rw[hg]at h;simp only[Option.bind_some]at h;split at h
 ·rename_i C U fr hb;cases h;exact⟨U,fr,hb⟩
 ·cases h
theorem tabW_of_laid {W:World} (h:laidMetH Tryz.prog LD W):BudW W:=by
 rw[MakeChecks.laidMetH_plain _ _ _ (by kernel_rfl),LD_eq]at h;have hg:Tryz.prog.globalNamed "ferryhouse/budgets.long" =some 0:=by kernel_rfl
 have hg1:Tryz.prog.globalNamed "ferryhouse/budgets.tags" =some 1:=by kernel_rfl
 have ht:=Lib.tabIs_of_head (g:=0) (n:=2) hg (by kernel_rfl) Tryz.underlying255 Tryz.underlying3 (by kernel_rfl) (by kernel_rfl) h;have ht1:=Lib.tabIs_of_head (g:=1) (n:=2) hg1 (by kernel_rfl) Tryz.underlying256 Tryz.underlying5 (by kernel_rfl) (by kernel_rfl) (laidMet.tail h);exact⟨var_block hg ht,var_block hg1 ht1⟩
end
structure QIs (R:List Key) (next:Nat) (L:List Key):Prop where
 size:R.length=150
 nlt:next<150
 len:L.length≤150
 at':∀i,i<L.length→R[(next+299-i) % 150]? =L[i]?
theorem QIs.zero (R:List Key) (h:R.length=150):QIs R 0 []:=⟨h,by omega,by simp,fun i hi=>by simp at hi⟩
theorem QIs.push {R:List Key} {next:Nat} {L:List Key} (h:QIs R next L) (k:Key):QIs (R.set next k) ((next+1) % 150) ((k::L).take 150) where
 size:=by rw[List.length_set,h.size]
 nlt:=Nat.mod_lt _ (by omega)
 len:=by rw[List.length_take];omega
 at' i hi:=by
  have hn:=h.nlt;have hs:=h.size;rw[List.length_take,List.length_cons]at hi;rw[List.getElem?_take_of_lt (by omega)];cases i with
  |zero=>
   have e:((next+1) % 150+299-0) % 150=next:=by omega
   rw[e,List.getElem?_set_self (by omega)];rfl
  |succ i=>
   have e:((next+1) % 150+299-(i+1)) % 150=(next+299-i) % 150:=by omega
   rw[e,List.getElem?_set_ne (by omega),h.at' i (by omega),List.getElem?_cons_succ]
theorem QIs.many {R:List Key} {next:Nat} {L:List Key} (h:QIs R next L) (k:Key):((k::L).take 150).length=if L.length=150 then 150 else L.length+1:=by
 have:=h.len;rw[List.length_take,List.length_cons];split<;>omega
section
section
variable {P:Program} {ops:Array Oper} {Q:Exit→Act→World→Prop} {T0:Nat→Prop} {w0:World} {κ:Nat→Nat} {υ:Nat→List Tmp}
theorem TG.soundE (hsel:∀(j:Nat) (p:Oper) cs b,ops[j]? =some p→p.op≠ .select cs b)
  (hback:∀i o,ops[i]? =some o→∀e∈o.after,Region.binds .any e=true→e.on<i) {rest:List Nat} (hrest:pairsOk ops κ rest=true):
  ∀(fuel:Nat) (l:List Nat) (listed:Array Bool) (a:Act) (B:Bx) (K:Land) (w:World),l.length=fuel→(l++rest).Nodup→(∀i∈l++rest,i<ops.size)→gPairsOk ops κ υ l=true→
   (∀x∈l,∀y∈rest,x≠y∧(behindB ops x).testBit y=true)→Listing ops listed (l++rest)→Closed K→
   RG T0 w0 B K w→TG P ops (fun _ a w=>TE P ops Q κ rest a w) T0 w0 κ υ l a B K→wpAny P .any ops Q (rest.length+fuel) listed a w:=by
 intro fuel
 induction fuel with
 |zero=>
  intro l listed a B K w hl hn hlt hp hb hL hK hR h;obtain rfl:l=[]:=List.length_eq_zero_iff.1 hl;have hte:TE P ops Q κ rest a w:=by
   cases h with|nil h=>exact h w hR
  exact TE.sound hsel hback _ rest listed a w rfl (by simpa using hn) (by simpa using hlt) hrest (by simpa using hL) hte
 |succ fuel ih=>
  intro l listed a B K w hl hn hlt hp hb hL hK hR h;refine⟨fun hnil=> ?_,fun i hi=> ?_⟩
  ·exfalso
   match l,hl with
   |i::l',_=>exact exists_ready hback hL hlt i i (by simp) (Nat.le_refl _) hnil
  ·obtain⟨hun,o,ho,hall⟩:=mem_ready.1 hi;have hil:i∈l:=by
    rcases List.mem_append.1 ((hL.mem i).2 hun)with hin|hin
    ·exact hin
    ·exfalso;clear h
     match l,hl with
     |x::l',_=>
      have hxy:=hb x (by simp) i hin;obtain⟨_,hpth⟩:=(behindB_path hxy.2).resolve_left (fun e=>hxy.1 e.symm);have hl1:=path_listed hL.closed _ x i o ho hall hpth;have hl2:=getD_false_of_true ((hL.mem x).1 (by simp));rw[hl1]at hl2;cases hl2
   obtain⟨pre,post,rfl⟩:=List.append_of_mem hil;obtain⟨h1,h2⟩:=gPairsOk_split hp;have hf:=TG.front hsel ho pre a B K hK ⟨w,hR⟩ (fun x hx=>by
    have:=h1 x hx;unfold gPairOk at this;have hxo:ops[x]? =some (ops[x]'(hlt x (by simp[hx]))):=Array.getElem?_eq_getElem _;rw[hxo,ho]at this;simp only[Bool.or_eq_true,Bool.and_eq_true]at this;rcases this with hpth|hok
    ·obtain⟨_,hpth⟩:=(behindB_path hpth.2).resolve_left (fun e=>by have:=hpth.1;simp[e]at this);have hl1:=path_listed hL.closed _ x i o ho hall hpth;have hl2:=getD_false_of_true ((hL.mem x).1 (by simp[hx]));rw[hl1]at hl2;cases hl2
    ·exact⟨_,hxo,hok.1,hok.2⟩) h
   have hl':(pre++post).length=fuel:=by simp at hl⊢;omega
   have hsub:((pre++post)++rest).Sublist ((pre++i::post)++rest):=List.Sublist.append_right (List.Sublist.append_left (List.sublist_cons_self _ _) _) _;have hn':((pre++post)++rest).Nodup:=hn.sublist hsub;have hlt':∀j∈(pre++post)++rest,j<ops.size:=fun j hj=>hlt j (hsub.subset hj);have hb':∀x∈pre++post,∀y∈rest,x≠y∧(behindB ops x).testBit y=true:=fun x hx=>hb x ((List.Sublist.append_left (List.sublist_cons_self i post) pre).subset hx);have hL':Listing ops (listed.setIfInBounds i true) ((pre++post)++rest):=by
    have:=Listing.next (pre:=pre) (post:=post++rest) (i:=i) (by simpa using hL) (by simpa using hn) ho hall;simpa using this
   rcases hf.kinds with ko|ko|ko|ko
   ·obtain⟨v,hy,ht⟩:=hf.inv_val ko ho;obtain⟨T,hRT⟩:=hR;exact YieldsIf.wpOp ho hy hRT.mod (ih _ _ _ _ _ _ hl' hn' hlt' h2 hb' hL' hK ⟨T,hRT⟩ ht)
   ·obtain⟨hw,d,T,z,V,hd,hr,ht⟩:=hf.inv_alloc ko ho;obtain⟨U,hRT⟩:=hR;have hR':RG T0 w0 (B.set w.heap.size ⟨z,T,d⟩) K (w.alloc (.cells z T)):=⟨U,hRT.alloc hK z T d⟩;unfold wpOp;simp only[ho,hw,if_true];refine .inl ?_;unfold Oper.wp;rw[hr w];exact ih _ _ _ _ _ _ hl' hn' hlt' h2 hb' hL' hK hR' (ht _ hRT.none ⟨_,hR'⟩)
   ·obtain⟨hw,hd,d,T,y,p,b,hop,hev,hbb,htag,hr,ht⟩:=hf.inv_store ko ho;obtain⟨U,hRT⟩:=hR;unfold wpOp;simp only[ho,hw,if_true];refine .inl ?_;unfold Oper.wp;rw[hr w (hRT.box p b hbb).2.2];simp only[Oper.upon,hd];exact ih _ _ _ _ _ _ hl' hn' hlt' h2 hb' hL' hK ⟨U,hRT.store hK hbb _⟩ ht
   ·obtain⟨hw,K',hE,ht⟩:=hf.inv_eff ko ho;obtain⟨U,hRT⟩:=hR;exact(hE.step hRT).wp ho hw fun v w' hv=>ih _ _ _ _ _ _ hl' hn' hlt' h2 hb' hL' (hE.cl v) hv (ht v ⟨w',hv⟩)
def eRegOk (ops:Array Oper) (κ:Nat→Nat) (υ:Nat→List Tmp) (l rest:List Nat):Bool:=
 Region.noSelect ops&&((List.range ops.size).all fun i=>match ops[i]? with|none=>false|some o=>o.after.all fun e=> !Region.binds .any e||decide (e.on<i))&&
 (decide (rest.length+l.length=ops.size)&&((l++rest).all (fun i=>decide (i<ops.size))&&((List.range ops.size).all fun i=>(l++rest).contains i)))&&
 (decide (l++rest).Nodup&&gPairsOk ops κ υ l&&pairsOk ops κ rest&&l.all (fun x=>rest.all fun y=> !(x==y)&&(behindB ops x).testBit y))
theorem e_any {a:Act} {w1:World} {K:Land} (l rest:List Nat) (hok:eRegOk ops κ υ l rest=true) (hK:Closed K) (hR:RG T0 w0 Bx.nil K w1)
  (h:TG P ops (fun _ a w=>TE P ops Q κ rest a w) T0 w0 κ υ l a Bx.nil K):wpAny P .any ops Q ops.size (Array.replicate ops.size false) a w1:=by
 simp only[eRegOk,Bool.and_eq_true,List.all_eq_true,decide_eq_true_eq]at hok;obtain⟨⟨⟨h1,h2⟩,h3,h4,h5⟩,⟨⟨hnd,h6⟩,h7⟩,h8⟩:=hok;have hback:∀i o,ops[i]? =some o→∀e∈o.after,Region.binds .any e=true→e.on<i:=fun i o ho e he hb=>by
  have:=h2 i (List.mem_range.2 (Array.getElem?_eq_some_iff.1 ho).1);rw[ho]at this;have:=Array.all_eq_true_iff_forall_mem.1 this e he;simpa[hb] using this
 rw[←h3];refine TG.soundE (Region.noSelect_spec h1) hback h7 _ l _ a _ _ _ rfl hnd h4 h6 (fun x hx y hy=> ?_) ?_ hK hR h
 ·have:=h8 x hx y hy;exact⟨by simpa using this.1,this.2⟩
 ·rw[h3];refine⟨by simp,fun i=> ?_,fun i o hi=> ?_⟩
  ·constructor
   ·intro hi;have:=h4 i hi;simp[this]
   ·intro hi;have:i<ops.size:=by
     rcases Nat.lt_or_ge i ops.size with h'|h'
     ·exact h'
     ·simp[Nat.not_lt.2 h']at hi
    simpa using h5 i (List.mem_range.2 this)
  ·exfalso;have:(Array.replicate ops.size false).getD i false=false:=by
    by_cases h':i<ops.size
    ·simp[h']
    ·simp[h']
   rw[this]at hi;cases hi
theorem wp_epass {id:Nat} {a:Act} {w:World} {K:Land} (l rest:List Nat) (hm:P.follows .mixedOrders=true) (hok:eRegOk ops κ υ l rest=true) (hK:Closed K) (hk:K T0 w) (hlt:∀i,T0 i→i<w.heap.size)
  (h:TG P ops (fun _ a w=>TE P ops Q κ rest a w) T0 w κ υ l a Bx.nil K):(Code.region id ops true).wp P Q a w:=
 wp_region_any hm (e_any l rest hok hK ⟨T0,hK T0 w w.drew hk (Mod.refl _ w).drew,hlt,fun _ _ h=>h,(Mod.refl _ w).drew,fun _ _ hh=>by cases hh⟩ h)
theorem TG.appK {i:Nat} {r:List Nat} {a:Act} {B:Bx} {K:Land} {o:Oper} {x y:Operand} {X Y:Value} {ts:Array TypeId} (K':Value→Land) (hcl:∀v,Good (K' v)) (ho:ops[i]? =some o) (hk:κ i=6) (hw:Region.wanted o (yielded ops a.tmps)=true)
  (hop:o.op= .call {callee:= .builtin .append,args:= #[x,y],argTypes:=ts}) (hx:a.eval x=X) (hy:a.eval y=Y)
  (hr:∀T w,K T w→(∀i,T i→i<w.heap.size)→Mod T0 w0 w→UB T (υ i) B w→∃v w',(Builtin.append_ ts o.type #[X,Y]).run P w= .ok v w'∧Mod T w w'∧K' v (Grow T w w') w')
  (h:∀v,Inh T0 w0 B (K' v)→TG P ops Q T0 w0 κ υ r (a.put o.dst v) B (K' v)):TG P ops Q T0 w0 κ υ (i::r) a B K:=by
 refine TG.eff' K' ho hk hw (fun v=>(hcl v).cl) (fun T w k1 k2 k3 k4=> .inl ?_) h;obtain⟨v,w',h1,h2⟩:=hr T w k1 k2 k3 k4;refine⟨v,w',?_,h2⟩;subst hx;subst hy;simp[execOp,hop,resolve,invoke,builtin,h1]
end
end
def zHash:Array Value:=Array.replicate 32 (.int .u8 0)
theorem zHash_size:zHash.size=32:=by simp[zHash]
theorem zSg_size:zSg.size=64:=by simp[zSg]
def zLim:Array Value:= #[.int .u64 0,.int .u64 0,.int .u64 0]
theorem zLim_size:zLim.size=3:=rfl
theorem ldHash (w:World) (b o:Nat):(Instr.loadAt 47 (.pointer (some ⟨b,o,none⟩))).run Tryz.prog w=
   match w.heap[b]? with
   |some (.cells cs _ _)=>if o+32≤cs.size then .ok (.agg (cs.extract o (o+32))) w else farL Tryz.prog w 47 b o
   |_=>farL Tryz.prog w 47 b o:=load_rule (d:=_) Tryz.underlying47 rfl (by kernel_rfl) w b o
theorem stHash (w:World) (b o:Nat) (xs:Array Value):(Instr.storeAt 47 (.pointer (some ⟨b,o,none⟩)) (.agg xs)).run Tryz.prog w=
   match w.heap[b]? with
   |some (.cells cs U (0,0))=>
    if o+32≤cs.size∧xs.size=32∧xs.all (·.oneCell')=true then .ok () (setBlock w b (.cells (if o=0∧32=cs.size then xs else wr cs o xs.toList) U (0,0)))else farS Tryz.prog w 47 b o (.agg xs)
   |_=>farS Tryz.prog w 47 b o (.agg xs):=store_rule (by kernel_rfl) w b o xs
theorem wlHash (dst:Option Tmp) (x:Operand) (ty:TypeId) (pos:String) (after:Array Edge) (g:Option (Nat×Bool)) (a:Act) (w:World) (K:Act→World→Prop) (Q:Exit→Act→World→Prop):
  Oper.wp Tryz.prog {dst:=dst,op:= .load 47 x,type:=ty,pos:=pos,after:=after,guard:=g} a w K Q=
   (match a.eval x with
   | .pointer (some ⟨b,o,none⟩)=>
    (match w.heap[b]? with
    |some (.cells cs _ _)=>if o+32≤cs.size then K (a.put dst (.agg (cs.extract o (o+32)))) w else farW Tryz.prog {dst:=dst,op:= .load 47 x,type:=ty,pos:=pos,after:=after,guard:=g} a w K Q
    |_=>farW Tryz.prog {dst:=dst,op:= .load 47 x,type:=ty,pos:=pos,after:=after,guard:=g} a w K Q)
   |_=>farW Tryz.prog {dst:=dst,op:= .load 47 x,type:=ty,pos:=pos,after:=after,guard:=g} a w K Q):=wp_load_rule (d:=_) Tryz.underlying47 rfl (by kernel_rfl) dst x ty pos after g a w K Q
theorem alHash (w:World):(Instr.alloc 47 true (.tuple #[])).run Tryz.prog w= .ok (.pointer (some ⟨w.heap.size,0,none⟩)) (w.alloc (.cells zHash 47)):=
 run_alloc_row (z:= .agg zHash) (fun w=>by kernel_rfl) w
theorem ldSig (w:World) (b o:Nat):(Instr.loadAt 103 (.pointer (some ⟨b,o,none⟩))).run Tryz.prog w=
   match w.heap[b]? with
   |some (.cells cs _ _)=>if o+64≤cs.size then .ok (.agg (cs.extract o (o+64))) w else farL Tryz.prog w 103 b o
   |_=>farL Tryz.prog w 103 b o:=load_rule (d:=_) Tryz.underlying103 rfl (by kernel_rfl) w b o
theorem stSig (w:World) (b o:Nat) (xs:Array Value):(Instr.storeAt 103 (.pointer (some ⟨b,o,none⟩)) (.agg xs)).run Tryz.prog w=
   match w.heap[b]? with
   |some (.cells cs U (0,0))=>
    if o+64≤cs.size∧xs.size=64∧xs.all (·.oneCell')=true then .ok () (setBlock w b (.cells (if o=0∧64=cs.size then xs else wr cs o xs.toList) U (0,0)))else farS Tryz.prog w 103 b o (.agg xs)
   |_=>farS Tryz.prog w 103 b o (.agg xs):=store_rule (by kernel_rfl) w b o xs
theorem wlSig (dst:Option Tmp) (x:Operand) (ty:TypeId) (pos:String) (after:Array Edge) (g:Option (Nat×Bool)) (a:Act) (w:World) (K:Act→World→Prop) (Q:Exit→Act→World→Prop):
  Oper.wp Tryz.prog {dst:=dst,op:= .load 103 x,type:=ty,pos:=pos,after:=after,guard:=g} a w K Q=
   (match a.eval x with
   | .pointer (some ⟨b,o,none⟩)=>
    (match w.heap[b]? with
    |some (.cells cs _ _)=>if o+64≤cs.size then K (a.put dst (.agg (cs.extract o (o+64)))) w else farW Tryz.prog {dst:=dst,op:= .load 103 x,type:=ty,pos:=pos,after:=after,guard:=g} a w K Q
    |_=>farW Tryz.prog {dst:=dst,op:= .load 103 x,type:=ty,pos:=pos,after:=after,guard:=g} a w K Q)
   |_=>farW Tryz.prog {dst:=dst,op:= .load 103 x,type:=ty,pos:=pos,after:=after,guard:=g} a w K Q):=wp_load_rule (d:=_) Tryz.underlying103 rfl (by kernel_rfl) dst x ty pos after g a w K Q
theorem alSig (w:World):(Instr.alloc 103 true (.tuple #[])).run Tryz.prog w= .ok (.pointer (some ⟨w.heap.size,0,none⟩)) (w.alloc (.cells zSg 103)):=
 run_alloc_row (z:= .agg zSg) (fun w=>by kernel_rfl) w
theorem ldLim (w:World) (b o:Nat):(Instr.loadAt 27 (.pointer (some ⟨b,o,none⟩))).run Tryz.prog w=
   match w.heap[b]? with
   |some (.cells cs _ _)=>if o+3≤cs.size then .ok (.agg (cs.extract o (o+3))) w else farL Tryz.prog w 27 b o
   |_=>farL Tryz.prog w 27 b o:=load_rule (d:=_) Tryz.underlying27 rfl (by kernel_rfl) w b o
theorem wlLim (dst:Option Tmp) (x:Operand) (ty:TypeId) (pos:String) (after:Array Edge) (g:Option (Nat×Bool)) (a:Act) (w:World) (K:Act→World→Prop) (Q:Exit→Act→World→Prop):
  Oper.wp Tryz.prog {dst:=dst,op:= .load 27 x,type:=ty,pos:=pos,after:=after,guard:=g} a w K Q=
   (match a.eval x with
   | .pointer (some ⟨b,o,none⟩)=>
    (match w.heap[b]? with
    |some (.cells cs _ _)=>if o+3≤cs.size then K (a.put dst (.agg (cs.extract o (o+3)))) w else farW Tryz.prog {dst:=dst,op:= .load 27 x,type:=ty,pos:=pos,after:=after,guard:=g} a w K Q
    |_=>farW Tryz.prog {dst:=dst,op:= .load 27 x,type:=ty,pos:=pos,after:=after,guard:=g} a w K Q)
   |_=>farW Tryz.prog {dst:=dst,op:= .load 27 x,type:=ty,pos:=pos,after:=after,guard:=g} a w K Q):=wp_load_rule (d:=_) Tryz.underlying27 rfl (by kernel_rfl) dst x ty pos after g a w K Q
def qr (R:List Key) (nx mn md:Int):Array Value:=(cellsOf kc R).toArray++ #[.int .i64 nx,.int .i64 mn,.int .i64 md]
def ring0:List Key:=List.replicate 150 key0
theorem cells_len (R:List Key):(cellsOf kc R).length=R.length*32:=cellsOf_len (n:=32) kc_size R
theorem qr_size {R:List Key} (h:R.length=150) (nx mn md:Int):(qr R nx mn md).size=4803:=by
 simp[qr,cells_len,h]
def zQueue:Array Value:=qr ring0 0 0 0
theorem zQ_zero (w:World):(zeroValue 155).run Tryz.prog w= .ok (.agg zQueue) w:=by kernel_rfl
theorem qr_set {R:List Key} (h:R.length=150) (nx mn md:Int) (j:Nat) (v:Value):(qr R nx mn md).setIfInBounds (4800+j) v=(cellsOf kc R).toArray++(#[.int .i64 nx,.int .i64 mn,.int .i64 md]:Array Value).setIfInBounds j v:=by
 unfold qr;rw[Array.setIfInBounds_append_right (by simp[cells_len,h])];congr 2;simp[cells_len,h]
theorem qr_get {R:List Key} (h:R.length=150) (nx mn md:Int) (j:Nat):(qr R nx mn md)[4800+j]? =(#[.int .i64 nx,.int .i64 mn,.int .i64 md]:Array Value)[j]? :=by
 unfold qr;rw[Array.getElem?_append_right (by simp[cells_len,h])];congr 1;simp[cells_len,h]
theorem qr_ring {R:List Key} (h:R.length=150) (nx mn md:Int) {i:Nat} {k:Key} (hk:R[i]? =some k):(qr R nx mn md).extract (i*32) (i*32+32)=kc k:=by
 obtain⟨hi,rfl⟩:=List.getElem?_eq_some_iff.1 hk;apply Array.toList_inj.1;rw[Array.toList_extract];have e:cellsOf kc R=cellsOf kc (R.take i)++(cellsOf kc [R[i]]++cellsOf kc (R.drop (i+1))):=by
  rw[←cellsOf_append,←cellsOf_append,List.singleton_append,←List.drop_eq_getElem_cons hi,List.take_append_drop]
 have l1:(cellsOf kc (R.take i)).length=i*32:=by rw[cells_len,List.length_take,Nat.min_eq_left (by omega)]
 have l2:(cellsOf kc [R[i]]).length=32:=by rw[cells_len];simp
 show((qr R nx mn md).toList.extract (i*32) (i*32+32))=_;unfold qr;rw[Array.toList_append,e];simp only[List.extract,List.append_assoc];rw[←l1,List.drop_left,Nat.add_sub_cancel_left,←l2,List.take_left];simp[cellsOf]
theorem qr_put {R:List Key} (h:R.length=150) (nx mn md:Int) {i:Nat} (hi:i<150) (k:Key):wr (qr R nx mn md) (i*32) (kc k).toList=qr (R.set i k) nx mn md:=by
 apply Array.toList_inj.1;have hkl:(kc k).toList.length=32:=by simp
 rw[wr_list _ _ _ (by rw[hkl,qr_size h];omega),hkl];have e:cellsOf kc R=cellsOf kc (R.take i)++(cellsOf kc [R[i]]++cellsOf kc (R.drop (i+1))):=by
  rw[←cellsOf_append,←cellsOf_append,List.singleton_append,←List.drop_eq_getElem_cons,List.take_append_drop]
 have e2:cellsOf kc (R.set i k)=cellsOf kc (R.take i)++(cellsOf kc [k]++cellsOf kc (R.drop (i+1))):=by
  rw[←cellsOf_append,←cellsOf_append,List.singleton_append,List.set_eq_take_append_cons_drop,if_pos (by omega)]
 have l1:(cellsOf kc (R.take i)).length=i*32:=by rw[cells_len,List.length_take,Nat.min_eq_left (by omega)]
 have l2:(cellsOf kc [R[i]]).length=32:=by rw[cells_len];simp
 unfold qr;simp only[Array.toList_append];rw[e2,e];simp only[List.append_assoc]
 conv=>lhs;arg 1;rw[←l1,List.take_left]
 conv=>lhs;arg 2;arg 2;rw[show i*32+32=(cellsOf kc (R.take i)++cellsOf kc [R[i]]).length by rw[List.length_append,l1,l2],←List.append_assoc,List.drop_left]
 simp[cellsOf]
theorem bldQueue (w:World):(Instr.build 155 #[(3,.int .i64 1)]).run Tryz.prog w= .ok (.agg (qr ring0 0 0 1)) w:=by
 refine run_build_struct (z:= .agg zQueue) (places:= #[(0,4800),(4800,1),(4801,1),(4802,1)]) Tryz.underlying155 zQ_zero (fun w=>by kernel_rfl) ?_ w;show Instr.fill _ zQueue [(3,_)]=_;rw[fill_cons (off:=4802) (n:=1) rfl rfl (by rw[show zQueue.size=4803 from qr_size (by simp[ring0]) 0 0 0];omega)];refine congrArg some ?_;show zQueue.setIfInBounds (4800+2) (.int .i64 1)=_;exact qr_set (by simp[ring0]) 0 0 0 2 _
abbrev ptrV (p:Nat):Value:= .pointer (some ⟨p,0,none⟩)
theorem bldGround (a b c:Nat) (w:World):(Instr.build 127 #[(0,ptrV a),(1,ptrV b),(2,ptrV c)]).run Tryz.prog w= .ok (.agg #[ptrV a,ptrV b,ptrV c]) w:=by kernel_rfl
theorem bldBlock (x y z t:Nat) (w:World):(Instr.build 130 #[(0,.agg #[ptrV x,ptrV y,ptrV z]),(1,ptrV t)]).run Tryz.prog w= .ok (.agg #[ptrV x,ptrV y,ptrV z,ptrV t,.bool false,.slice none 0 0,.slice none 0 0,.int .u64 0]) w:=by kernel_rfl
theorem bldTr (x y z:UInt64) (m:Nat) (w:World):(Instr.build 233 #[(0,.agg #[u64v x,u64v y,u64v z]),(3,.map (some m))]).run Tryz.prog w= .ok (.agg #[u64v x,u64v y,u64v z,.int .u64 0,.int .u64 0,.map (some m)]) w:=by kernel_rfl
section
attribute [local go_sem↓] ldAcct ldHold eqAcct
attribute [local go_sem] neMap av_size av_all hd_size hd_key hd_acct hd_one zHold_size
def StAt (w:World) (p b:Nat) (m:List (Key×Acct)):Prop:=
 w.heap[p]? =some (.cells #[.map (some b)] 152 (0,0))∧∃es c,w.heap[b]? =some (.map es c)∧MapIs kv avv es c m
theorem StAt.mod {w w':World} {p b:Nat} {m:List (Key×Acct)} {S:Nat→Prop} (h:StAt w p b m) (hm:Mod S w w') (h1:¬S p) (h2:¬S b):StAt w' p b m:=by
 obtain⟨kp,es,c,kb,M⟩:=h;exact⟨hm.at kp h1,es,c,hm.at kb h2,M⟩
theorem StAt.mod0 {w w':World} {p b:Nat} {m:List (Key×Acct)} (h:StAt w p b m) (hm:Mod (fun _=>False) w w'):StAt w' p b m:=h.mod hm (fun h=>h) (fun h=>h)
theorem StAt.lt {w:World} {p b:Nat} {m:List (Key×Acct)} (h:StAt w p b m):p<w.heap.size∧b<w.heap.size∧p≠b:=by
 obtain⟨kp,es,c,kb,M⟩:=h;exact⟨Ls kp,Ls kb,ne_of_obj kp kb (by simp)⟩
theorem StAt.nodup {w:World} {p b:Nat} {m:List (Key×Acct)} (h:StAt w p b m):(m.map Prod.fst).Nodup:=by
 obtain⟨kp,es,c,kb,M⟩:=h;exact M.nodup
def putA (m:List (Key×Acct)) (k:Key) (a:Acct):List (Key×Acct):=if a=acct0 then del k m else put k a m
theorem there_c (p b:Nat) (m:List (Key×Acct)) (w:World) (h:StAt w p b m):Calls Tryz.prog 107 #[.pointer (some ⟨p,0,none⟩)] w fun e w'=>e= .returned (.bool true)∧w=w':=by
 obtain⟨kp,_⟩:=h;go_enter Tryz.func107,Tryz.ntmps107
 go_wp2
 go_ret;exact⟨rfl,rfl⟩
theorem newS_c (w:World):Calls Tryz.prog 17 #[] w fun e w'=>∃p b,e= .returned (.pointer (some ⟨p,0,none⟩))∧w.heap.size≤p∧w.heap.size≤b∧StAt w' p b []∧Mod (fun _=>False) w w':=by
 have hmm:= @run_makeMap Tryz.prog;go_enter Tryz.func17,Tryz.ntmps17;go_wp2_with fail;go_ret;obtain⟨h1,h2⟩:=fresh2 w (.map #[] 0) (.cells #[.map (some w.heap.size)] 152);exact⟨_,w.heap.size,rfl,by omega,by omega,⟨h2,_,_,h1,MapIs.empty kv avv⟩,((Mod.refl _ _).alloc _).alloc _⟩
end
section
attribute [local go_sem↓] ldAcct ldHold wlHash ldHash stHash wlSig ldSig stSig wlLim ldLim wlRdy ldRdy stRdy wlOut ldOut stOut wlTd ldTd stTd wlTx ldTx stTx
attribute [local go_sem] neMap av_size av_all hd_size hd_key hd_acct hd_one zHold_size zHash_size zSg_size zLim_size zRdy_size zOut_size zTried_size rdr_size rdr_all rdr_one rdr_rec rdr1 rdr1' ocr_size ocr_all ocr_one ocr2 ocr3 ocr4 ocr5 ocr2' ocr3' ocr4' ocr5' tdr_size tdr_all tdr_one tdr_r tdr_o tdr_tx tdr_rec tdr0 tdr41 tdr50 tdr51 tdr52 tdr0' tdr41' tdr50' tdr51' tdr52'
def TrAt (w:World) (t m:Nat) (L:Lim) (b s:UInt64) (l:List (Key×UInt64)):Prop:=
 w.heap[t]? =some (.cells #[u64v L.b,u64v L.a,u64v L.s,u64v b,u64v s,.map (some m)] 233 (0,0))∧∃es c,w.heap[m]? =some (.map es c)∧MapIs kv u64v es c l
def QuAt (w:World) (q:Nat) (L:List Key):Prop:=∃(R:List Key) (nx:Nat),w.heap[q]? =some (.cells (qr R (nx:Int) (L.length:Int) 1) 155 (0,0))∧QIs R nx L
def SgL (T:Nat→Prop) (B:Nat) (w:World) (v:Value):Prop:=∃l:List Sg,SlOwn sgc 64 103 w 0 v l∧(∀g,v.ownBlock=some g→T g)∧l.length≤B
structure SeAt (T:Nat→Prop) (w:World) (n:Nat) (l:List (Sg×Key)):Prop where
 ex:∃a b es c es2 c2,∃m2:List (Key×Value),w.heap[n]? =some (.cells #[.map (some a),.map (some b)] 159 (0,0))∧w.heap[a]? =some (.map es c)∧MapIs sgv kv es c l∧w.heap[b]? =some (.map es2 c2)∧MapIs kv id es2 c2 m2∧
  a≠b∧T n∧T a∧T b∧(∀p∈m2,SgL T l.length w p.2)∧∀p∈m2,∀q∈m2,p.1≠q.1→∀i,p.2.ownBlock=some i→q.2.ownBlock≠some i
theorem newQ_c (w:World):Calls Tryz.prog 18 #[] w fun e w'=>∃q,e= .returned (ptrV q)∧w.heap.size≤q∧QuAt w' q []∧Mod (fun _=>False) w w':=by
 have hb:=bldQueue;go_enter Tryz.func18,Tryz.ntmps18;go_upto_region 1 with fail;refine ZP0 [0,3,0] ?_;refine Zu hb ?_;refine Zb fun p2 hp2=> ?_;refine Zv ?_;refine TD.nil (fun w1 hr=> ?_);obtain⟨gp2,kp2⟩:=hr.b p2;go_wp2_with fail;go_ret;exact⟨_,rfl,gp2,⟨ring0,0,kp2,QIs.zero _ (by simp[ring0])⟩,hr.mod⟩
theorem newN_c (w:World):Calls Tryz.prog 19 #[] w fun e w'=>∃n,e= .returned (ptrV n)∧w.heap.size≤n∧n<w'.heap.size∧SeAt (fun i=>w.heap.size≤i) w' n []∧Mod (fun _=>False) w w':=by
 have hmm:= @run_makeMap Tryz.prog;go_enter Tryz.func19,Tryz.ntmps19;go_wp2_with fail;go_ret;obtain⟨h1,h2,h3⟩:=fresh3 w (.map #[] 0) (.map #[] 0) (.cells #[.map (some w.heap.size),.map (some (w.heap.size+1))] 159);exact⟨_,rfl,by omega,Ls h3,⟨w.heap.size,w.heap.size+1,_,_,_,_,[],h3,h1,MapIs.empty sgv kv,h2,MapIs.empty kv id,by omega,by omega,by omega,by omega,(fun p hp=>by cases hp),fun p hp=>by cases hp⟩,(((Mod.refl _ _).alloc _).alloc _).alloc _⟩
theorem newT_c (L:Lim) (w:World):Calls Tryz.prog 59 #[.agg #[u64v L.b,u64v L.a,u64v L.s]] w fun e w'=>∃t m,e= .returned (ptrV t)∧w.heap.size≤t∧w.heap.size≤m∧TrAt w' t m L 0 0 []∧Mod (fun _=>False) w w':=by
 have hmm:= @run_makeMap Tryz.prog;have hb:=bldTr;go_enter Tryz.func59,Tryz.ntmps59;go_upto_region 0 with fail;refine ZP0 [3,0] ?_;refine Zb fun p1 hp1=> ?_;refine Zv ?_;refine TD.nil (fun w1 hr=> ?_);obtain⟨gp1,kp1⟩:=hr.b p1;have m1:=hr.mod;have ht1:=hr.mod.size;go_wp2_with fail;go_ret;obtain⟨h1,h2⟩:=fresh2 w1 (.map #[] 0) (.cells #[u64v L.b,u64v L.a,u64v L.s,.int .u64 0,.int .u64 0,.map (some w1.heap.size)] 233);exact⟨_,w1.heap.size,rfl,by omega,by omega,⟨h2,_,_,h1,MapIs.empty kv u64v⟩,(m1.alloc _).alloc _⟩
end
section
section
variable {P:Program} {ops:Array Oper} {Q:Exit→Act→World→Prop} {S:World→Prop} {C:FuncId→Array Value→Value→Prop} {w0:World} {κ:Nat→Nat}
theorem TD.mks {i:Nat} {r:List Nat} {a:Act} {B:Bx} {o:Oper} {d:Tmp} {T E:TypeId} {n m:Nat} {x y:Operand} {X Y:Value} {z:Array Value} (ho:ops[i]? =some o) (hk:κ i=3)
  (hw:Region.wanted o (yielded ops a.tmps)=true) (hd:o.dst=some d) (hop:o.op= .makeSlice T x y) (hx:a.eval x=X) (hy:a.eval y=Y)
  (hr:∀w,(Instr.makeSlice T X Y).run P w= .ok (.slice (some ⟨w.heap.size,0,none⟩) n m) (w.alloc (.cells z E)))
  (h:∀p,B p=none→TD P ops Q S C w0 κ r (a.put o.dst (.slice (some ⟨p,0,none⟩) n m)) (B.set p ⟨z,E,d⟩)):TD P ops Q S C w0 κ (i::r) a B:=
 .alloc (fun p=> .slice (some ⟨p,0,none⟩) n m) ho hk hw hd (fun w=>by subst hx;subst hy;simp[execOp,hop,hr w]) h
end
end
section
attribute [local go_sem↓] ldAcct ldHold wlHash ldHash stHash wlSig ldSig stSig wlLim ldLim wlRdy ldRdy stRdy wlOut ldOut stOut wlTd ldTd stTd wlTx ldTx stTx
attribute [local go_sem] neMap av_size av_all hd_size hd_key hd_acct hd_one zHold_size zHash_size zSg_size zLim_size zRdy_size zOut_size zTried_size rdr_size rdr_all rdr_one rdr_rec rdr1 rdr1' ocr_size ocr_all ocr_one ocr2 ocr3 ocr4 ocr5 ocr2' ocr3' ocr4' ocr5' tdr_size tdr_all tdr_one tdr_r tdr_o tdr_tx tdr_rec tdr0 tdr41 tdr50 tdr51 tdr52 tdr0' tdr41' tdr50' tdr51' tdr52'
def blkC (s q n t:Nat) (e:Bool) (ea:Option Addr) (en ec:Nat) (oa:Option Addr) (on oc:Nat) (f:UInt64):Array Value:= #[ptrV s,ptrV q,ptrV n,ptrV t,.bool e,.slice ea en ec,.slice oa on oc,u64v f]
theorem bthere_c {p s q n t:Nat} {e:Bool} {ea:Option Addr} {en ec:Nat} {oa:Option Addr} {on oc:Nat} {f:UInt64} (w:World) (kp:w.heap[p]? =some (.cells (blkC s q n t e ea en ec oa on oc f) 130 (0,0))):Calls Tryz.prog 43 #[ptrV p] w fun e w'=>e= .returned (.bool true)∧w=w':=by
 unfold blkC at kp;go_enter Tryz.func43,Tryz.ntmps43
 go_wp2
 go_ret;exact⟨rfl,rfl⟩
def ern (v:Nat):Array Value:= #[.int .i64 (v:Int)]
def errC (l:List Nat):Array Value:=(l.map fun v:Nat=>Value.int .i64 (v:Int)).toArray
theorem errC_size (l:List Nat):(errC l).size=l.length:=by simp[errC]
theorem errC_at {w:World} {g:Nat} {l:List Nat} {U:TypeId} (h:w.heap[g]? =some (.cells (errC l) U (0,0))):SlAt ern 1 w (some ⟨g,0,none⟩) l:=by
 refine .inr ⟨g,0,_,U,(0,0),rfl,h,fun i x hx=> ?_⟩;obtain⟨hi,rfl⟩:=List.getElem?_eq_some_iff.1 hx;refine⟨?_,by rw[errC_size];omega⟩;apply Array.ext_getElem?;intro j;simp only[Nat.zero_add,Nat.mul_one,Array.getElem?_extract,errC,zA,List.getElem?_map,List.size_toArray,List.length_map,ern];cases j with
 |zero=>simp[hi];omega
 |succ j=>
  rw[if_neg (by omega)];rfl
theorem errC_set (l:List Nat) (i v:Nat):(errC l).setIfInBounds i (.int .i64 (v:Int))=errC (l.set i v):=by
 simp[errC,List.map_set]
theorem mkErr (n:Nat) (hn:n≤100000) (w:World):(Instr.makeSlice 66 (.int .i64 (n:Int)) (.int .i64 (n:Int))).run Tryz.prog w= .ok (.slice (some ⟨w.heap.size,0,none⟩) n n) (w.alloc (.cells (errC (List.replicate n 0)) 59)):=by
 obtain⟨i0,hi,hz0,hz1,hz2⟩:=info_parts (show(Tryz.prog.info? 59).map (fun i=>(i.zero,i.size,i.bytes))=some (some (.int .i64 0),1,8)by kernel_rfl);have:=run_make (P:=Tryz.prog) w 66 59 i0 _ Tryz.underlying66 hi hz0 .i64 .i64 (n:Int) (n:Int) (by omega) (by omega) (by rw[hz2];omega) (by omega);rw[hz1,Nat.mul_one]at this;have hc:madeCells #[Value.int .i64 0] n=errC (List.replicate n 0):=by
  apply Array.toList_inj.1;rw[toList_madeCells_one];simp[errC]
 simpa[Value.cells,hc] using this
end
section
attribute [local go_sem↓] ldAcct ldHold wlHash ldHash stHash wlSig ldSig stSig wlLim ldLim wlRdy ldRdy stRdy wlOut ldOut stOut wlTd ldTd stTd wlTx ldTx stTx
attribute [local go_sem] neMap av_size av_all hd_size hd_key hd_acct hd_one zHold_size zHash_size zSg_size zLim_size zRdy_size zOut_size zTried_size rdr_size rdr_all rdr_one rdr_rec rdr1 rdr1' ocr_size ocr_all ocr_one ocr2 ocr3 ocr4 ocr5 ocr2' ocr3' ocr4' ocr5' tdr_size tdr_all tdr_one tdr_r tdr_o tdr_tx tdr_rec tdr0 tdr41 tdr50 tdr51 tdr52 tdr0' tdr41' tdr50' tdr51' tdr52'
theorem ern_at {w:World} {a:Option Addr} {l:List Nat} (h:SlAt ern 1 w a l) {i:Nat} {x:Nat} (hx:l[i]? =some x):∃b o C U fr,a=some ⟨b,o,none⟩∧w.heap[b]? =some (.cells C U fr)∧C[o+i]? =some (.int .i64 (x:Int)):=by
 obtain⟨b,o,C,U,fr,rfl,hk,he,_⟩:=h.block hx;refine⟨b,o,C,U,fr,rfl,hk,?_⟩;have:=cellC he (j:=0) (v:= .int .i64 (x:Int)) rfl;simpa using this
theorem take_eq_ern {l1 l2:List Nat} {i:Nat} {x:Nat} (h:l1.take i=l2.take i) (h1:l1[i]? =some x) (h2:l2[i]? =some x):l1.take (i+1)=l2.take (i+1):=by
 rw[List.take_add_one,List.take_add_one,h,h1,h2]
theorem errors_c (a b:Option Addr) (l1 l2:List Nat) (c1 c2:Nat) (w:World) (h1:SlAt ern 1 w a l1) (h2:SlAt ern 1 w b l2) (n1:l1.length≤100000) (n2:l2.length≤100000):
  Calls Tryz.prog 22 #[.slice a l1.length c1,.slice b l2.length c2] w fun e w'=>e= .returned (.bool (decide (l1=l2)))∧Mod (fun _=>False) w w':=by
 have H1:=Hi h1;have H2:=Hi h2;clear h1 h2;go_enter Tryz.func22,Tryz.ntmps22;go_wp2_with fail;go_loopw [5] (fun s5 ws=>∃i:Nat,i≤l1.length∧i≤l2.length∧s5= .int .i64 i∧Hid (l1.take i=l2.take i)∧Mod (fun _=>False) w ws) (fun s5 _=>l1.length-(intOf s5).toNat)
 case atStart=>exact⟨0,Nat.zero_le _,Nat.zero_le _,rfl,Hi (by simp),Mod.refl _ _⟩
 case round=>
  obtain⟨i,hi1,hi2,rfl,HT,hm⟩:=hrel;by_cases hl1:i<l1.length
  ·have hd1:=Dt hl1;by_cases hl2:i<l2.length
   ·have hd2:=Dt hl2;obtain⟨x,hx⟩:∃x,l1[i]? =some x:=⟨_,List.getElem?_eq_getElem hl1⟩;obtain⟨y,hy⟩:∃y,l2[i]? =some y:=⟨_,List.getElem?_eq_getElem hl2⟩;obtain⟨b1,o1,C1,U1,f1,rfl,k1,v1⟩:=ern_at (H1.out.mod0 hm) hx;obtain⟨b2,o2,C2,U2,f2,rfl,k2,v2⟩:=ern_at (H2.out.mod0 hm) hy;have HX:=Hi (Ai hx hy);clear hx hy;go_upto_region 4 with fail;have Lk1:=Ls k1;have Lk2:=Ls k2;refine ZP [0,0,0,1,0,0,0,1,0] ?_
    iterate 9 first|refine Zv ?_|refine Zd ?_
    refine TD.nil (fun w3 hr=> ?_);replace k1:=hr.q k1;replace k2:=hr.q k2;have m3:=hm.then0 hr.mod;clear hr;by_cases hxy:x=y
    ·have HE:=Hi hxy;have hne:((x:Int) !=(y:Int))=false:=by rw[hxy];simp
     have HTT:=Hi (take_eq_ern HT.out HX.out.1 (by rw[HX.out.2,hxy]));clear hxy;go_wp2_with fail;go_roundw
     case rel=>exact⟨i+1,by omega,by omega,by go_num,HTT,m3⟩
     case measure=>simp[intOf];omega
    ·have hne:((x:Int) !=(y:Int))=true:=by
      rw[bne_iff_ne];intro e;exact hxy (by omega)
     have HE:Hid (l1≠l2):=Hi (fun e=>by
      have h1:=HX.out.1;rw[e,HX.out.2]at h1;exact hxy (Option.some.inj h1).symm)
     clear hxy;go_wp2_with fail;go_ret;exact⟨by rw[Df HE.out];rfl,m3⟩
   ·have hd2:=Df hl2;have HE:Hid (l1≠l2):=Hi (fun e=>by rw[e]at hl1;exact hl2 hl1);have hne:((l1.length:Int)==(l2.length:Int))=false:=by
     rw[beq_eq_false_iff_ne];omega
    go_wp2_with fail;go_ret;exact⟨by rw[Df HE.out];rfl,hm⟩
  ·have hd1:=Df hl1;have HI:Hid (i=l1.length):=Hi (by omega);by_cases hle:l1.length=l2.length
   ·have hne:((l1.length:Int)==(l2.length:Int))=true:=by
     rw[beq_iff_eq];omega
    have HE:Hid (l1=l2):=Hi (by
     have h1:=HT.out;rw[HI.out,List.take_length,hle,List.take_length]at h1;exact h1)
    clear hle;go_wp2_with fail;go_ret;exact⟨by rw[Dt HE.out];rfl,hm⟩
   ·have hne:((l1.length:Int)==(l2.length:Int))=false:=by
     rw[beq_eq_false_iff_ne];omega
    have HE:Hid (l1≠l2):=Hi (fun e=>hle (by rw[e]));clear hle;go_wp2_with fail;go_ret;exact⟨by rw[Df HE.out];rfl,hm⟩
theorem TrAt.mod {w w':World} {t m:Nat} {L:Lim} {b s:UInt64} {l:List (Key×UInt64)} {S:Nat→Prop} (h:TrAt w t m L b s l) (hm:Mod S w w') (h1:¬S t) (h2:¬S m):TrAt w' t m L b s l:=by
 obtain⟨kp,es,c,kb,M⟩:=h;exact⟨hm.at kp h1,es,c,hm.at kb h2,M⟩
theorem TrAt.mod0 {w w':World} {t m:Nat} {L:Lim} {b s:UInt64} {l:List (Key×UInt64)} (h:TrAt w t m L b s l) (hm:Mod (fun _=>False) w w'):TrAt w' t m L b s l:=h.mod hm (fun h=>h) (fun h=>h)
theorem QuAt.mod {w w':World} {q:Nat} {L:List Key} {S:Nat→Prop} (h:QuAt w q L) (hm:Mod S w w') (h1:¬S q):QuAt w' q L:=by
 obtain⟨R,nx,k,hq⟩:=h;exact⟨R,nx,hm.at k h1,hq⟩
theorem QuAt.mod0 {w w':World} {q:Nat} {L:List Key} (h:QuAt w q L) (hm:Mod (fun _=>False) w w'):QuAt w' q L:=h.mod hm (fun h=>h)
theorem SgL.mod {T S:Nat→Prop} {B:Nat} {w w':World} {v:Value} (h:SgL T B w v) (hm:Mod S w w') (hS:∀i,T i→¬S i):SgL T B w' v:=by
 obtain⟨l,h1,h2,h3⟩:=h;exact⟨l,h1.mod hm (fun b hb=>hS b (h2 b hb)),h2,h3⟩
theorem SgL.mono {T T':Nat→Prop} {B B':Nat} {w:World} {v:Value} (h:SgL T B w v) (hT:∀i,T i→T' i) (hB:B≤B'):SgL T' B' w v:=by
 obtain⟨l,h1,h2,h3⟩:=h;exact⟨l,h1,fun g hg=>hT g (h2 g hg),Nat.le_trans h3 hB⟩
theorem SeAt.mod {T S:Nat→Prop} {w w':World} {n:Nat} {l:List (Sg×Key)} (h:SeAt T w n l) (hm:Mod S w w') (hS:∀i,T i→¬S i):SeAt T w' n l:=by
 obtain⟨a,b,es,c,es2,c2,m2,h1,h2,h3,h4,h5,h6,t1,t2,t3,h7,h8⟩:=h.ex;exact⟨a,b,es,c,es2,c2,m2,hm.at h1 (hS _ t1),hm.at h2 (hS _ t2),h3,hm.at h4 (hS _ t3),h5,h6,t1,t2,t3,fun p hp=>(h7 p hp).mod hm hS,h8⟩
theorem SeAt.mod0 {T:Nat→Prop} {w w':World} {n:Nat} {l:List (Sg×Key)} (h:SeAt T w n l) (hm:Mod (fun _=>False) w w'):SeAt T w' n l:=h.mod hm (fun _ _ h=>h)
theorem SeAt.mono {T T':Nat→Prop} {w:World} {n:Nat} {l:List (Sg×Key)} (h:SeAt T w n l) (hT:∀i,T i→T' i):SeAt T' w n l:=by
 obtain⟨a,b,es,c,es2,c2,m2,h1,h2,h3,h4,h5,h6,t1,t2,t3,h7,h8⟩:=h.ex;exact⟨a,b,es,c,es2,c2,m2,h1,h2,h3,h4,h5,h6,hT _ t1,hT _ t2,hT _ t3,fun p hp=>(h7 p hp).mono hT (Nat.le_refl _),h8⟩
theorem open_c (s q n:Nat) (L:Lim) (w:World):Calls Tryz.prog 16 #[ptrV s,ptrV q,ptrV n,.agg #[u64v L.b,u64v L.a,u64v L.s]] w fun e w'=>∃b t m,e= .returned (.tuple #[ptrV b,.int .i64 0])∧w.heap.size≤b∧w.heap.size≤t∧w.heap.size≤m∧w'.heap[b]? =some (.cells (blkC s q n t false none 0 0 none 0 0 0) 130 (0,0))∧TrAt w' t m L 0 0 []∧Mod (fun _=>False) w w':=by
 have hg:=bldGround s q n;go_enter Tryz.func16,Tryz.ntmps16;go_upto_region 0 with fail;refine ZP0 [3,0,0] ?_;refine Zb fun p7 hp7=> ?_
 iterate 2 refine Zv ?_
 refine TD.nil (fun w1 hr=> ?_);obtain⟨gp7,kp7⟩:=hr.b p7;have m1:=hr.mod;have hs1:=m1.size;go_upto_region 3 with fail;go_wp2_with fail;go_at_call 59;refine(newT_c L _).mono ?_;rintro e w2 ⟨t,m,rfl,ht,hm,hT,m2⟩;have hb:=bldBlock s q n t;go_wp2_with fail
 go_ret2
 have hs2:=m2.size;exact⟨w2.heap.size,t,m,rfl,by omega,by omega,by omega,heap_alloc_new _ _,hT.mod0 ((Mod.refl _ _).alloc _),(m1.then0 m2).alloc _⟩
theorem end_c {p s q n t:Nat} {ea:Option Addr} {en ec:Nat} {oa:Option Addr} {on oc:Nat} {f:UInt64} (w:World) (kp:w.heap[p]? =some (.cells (blkC s q n t false ea en ec oa on oc f) 130 (0,0))):Calls Tryz.prog 21 #[ptrV p] w fun e w'=>e= .returned (.int .i64 0)∧w'.heap[p]? =some (.cells (blkC s q n t true ea en ec oa on oc f) 130 (0,0))∧Mod (fun i=>i=p) w w':=by
 have KP:=Hi kp;unfold blkC at kp;go_enter Tryz.func21,Tryz.ntmps21;go_wp2_with fail;go_at_call 43;refine(bthere_c _ KP.out).mono ?_;rintro e w2 ⟨rfl,rfl⟩;go_wp2_with fail;go_ret;rw[setCell_blk kp];exact⟨rfl,heap_setBlock _ _ (Ls kp),mod_set _ _ _⟩
theorem end2_c {p s q n t:Nat} {ea:Option Addr} {en ec:Nat} {oa:Option Addr} {on oc:Nat} {f:UInt64} (w:World) (kp:w.heap[p]? =some (.cells (blkC s q n t true ea en ec oa on oc f) 130 (0,0))):Calls Tryz.prog 21 #[ptrV p] w fun e w'=>e= .returned (.int .i64 23)∧Mod (fun _=>False) w w':=by
 have KP:=Hi kp;unfold blkC at kp;go_enter Tryz.func21,Tryz.ntmps21;go_wp2_with fail;go_at_call 43;refine(bthere_c _ KP.out).mono ?_;rintro e w2 ⟨rfl,rfl⟩;go_wp2_with fail;go_ret;exact⟨rfl,Mod.refl _ _⟩
theorem ended_c {p s q n t:Nat} {b:Bool} {ea:Option Addr} {en ec:Nat} {oa:Option Addr} {on oc:Nat} {f:UInt64} (w:World) (kp:w.heap[p]? =some (.cells (blkC s q n t b ea en ec oa on oc f) 130 (0,0))):Calls Tryz.prog 20 #[ptrV p] w fun e w'=>e= .returned (.bool b)∧Mod (fun _=>False) w w':=by
 have KP:=Hi kp;unfold blkC at kp;go_enter Tryz.func20,Tryz.ntmps20;go_wp2_with fail;go_at_call 43;refine(bthere_c _ KP.out).mono ?_;rintro e w2 ⟨rfl,rfl⟩;go_wp2_with fail;go_ret;exact⟨rfl,Mod.refl _ _⟩
end
section
attribute [local go_sem↓] ldAcct ldHold wlHash ldHash stHash wlSig ldSig stSig wlLim ldLim wlRdy ldRdy stRdy wlOut ldOut stOut wlTd ldTd stTd wlTx ldTx stTx
attribute [local go_sem] neMap av_size av_all hd_size hd_key hd_acct hd_one zHold_size zHash_size zSg_size zLim_size zRdy_size zOut_size zTried_size rdr_size rdr_all rdr_one rdr_rec rdr1 rdr1' ocr_size ocr_all ocr_one ocr2 ocr3 ocr4 ocr5 ocr2' ocr3' ocr4' ocr5' tdr_size tdr_all tdr_one tdr_r tdr_o tdr_tx tdr_rec tdr0 tdr41 tdr50 tdr51 tdr52 tdr0' tdr41' tdr50' tdr51' tdr52'
theorem hashIs:IsKeyT Tryz.prog 47 5 where
 laid:=laid
 row:=of_decide_eq_true (by kernel_rfl)
 at2:=by kernel_rfl
 u:=Tryz.underlying47
 e:=Tryz.underlying5
 cK:=by kernel_rfl
 cE:=by kernel_rfl
 kt:=by kernel_rfl
theorem hashT:KeyT Tryz.prog 47 kv:=hashIs.keyT
theorem eqHash (a b:Key) (w:World):(Op.equalIn 10000 47 (.agg (kc a)) (.agg (kc b))).run Tryz.prog w= .ok (decide (a=b)) w:=hashIs.eqIn 9998 a b w
attribute [local go_sem↓] eqHash
theorem results_cell3Q {P:Program} {fn:Func} {t u v:Tmp} {T:TypeId} {tmps:Array Value} {p:Addr} {x:Value} {w:World} (h:fn.results= #[.cell t T,.tmp u,.tmp v]) (ht:tmps.getD t undef= .pointer (some p))
  (hl:(Instr.loadAt T (.pointer (some p))).run P w= .ok x w):(results fn tmps).run P w= .ok (.tuple #[x,tmps.getD u undef,tmps.getD v undef]) w:=by
 have hl2:(loadVar T p).run P w= .ok x w:=by simpa[Instr.loadAt,Instr.sureAddr] using hl
 rw[zD]at ht;unfold results;rw[h];have hmap:∀ {α β:Type} (f:α→β) (x:Sem α) (w:World),(f<$>x).run P w=(x.run P w).andThen fun a w=> .ok (f a) w:=fun f x w=>by
  show(x>>=fun a=>pure (f a)).run P w=_;rw[Sem.run_bind];rfl
 simp[ht,hl2,hmap,Sem.run_bind,Sem.run_pure,Result.andThen_ok,asAddr]
structure QC (C:Array Value) (nx mn:Nat):Prop where
 size:C.size=4803
 c0:C[4800]? =some (.int .i64 (nx:Int))
 c1:C[4801]? =some (.int .i64 (mn:Int))
 c2:C[4802]? =some (.int .i64 1)
 g0:∀h:4800<C.size,C[4800]= .int .i64 (nx:Int)
 g1:∀h:4801<C.size,C[4801]= .int .i64 (mn:Int)
 g2:∀h:4802<C.size,C[4802]= .int .i64 1
theorem qc_of {R:List Key} (h:R.length=150) (nx mn:Nat):QC (qr R nx mn 1) nx mn:=⟨qr_size h _ _ _,qr_get h _ _ _ 0,qr_get h _ _ _ 1,qr_get h _ _ _ 2,fun hh=>at_get (qr_get h _ _ _ 0) hh,fun hh=>at_get (qr_get h _ _ _ 1) hh,fun hh=>at_get (qr_get h _ _ _ 2) hh⟩
theorem qthere_c (q:Nat) (C:Array Value) (nx mn:Nat) (w:World) (kq:w.heap[q]? =some (.cells C 155 (0,0))) (h:QC C nx mn):Calls Tryz.prog 62 #[ptrV q] w fun e w'=>e= .returned (.bool true)∧w=w':=by
 obtain⟨hs,h0,h1,h2,g0,g1,g2⟩:=h;go_enter Tryz.func62,Tryz.ntmps62
 go_wp2
 go_ret;exact⟨rfl,rfl⟩
theorem qat_c (q:Nat) (C:Array Value) (nx mn i:Nat) (w:World) (kq:w.heap[q]? =some (.cells C 155 (0,0))) (h:QC C nx mn) (hn:nx<150) (hi:i<150):Calls Tryz.prog 108 #[ptrV q,.int .i64 (i:Int)] w fun e w'=>e= .returned (.int .i64 (((nx+299-i) % 150:Nat):Int))∧w=w':=by
 obtain⟨hs,h0,h1,h2,g0,g1,g2⟩:=h;obtain⟨d,hd⟩:∃d,d+i=nx+299:=⟨nx+299-i,by omega⟩;have e0:nx+299-i=d:=by omega
 rw[e0];have e1:IntKind.i64.wrap ((nx:Int)-1)=(nx:Int)-1:=IntWalk.i64_in _ (by omega);have e2:IntKind.i64.wrap ((nx:Int)-1-(i:Int))=(nx:Int)-1-(i:Int):=IntWalk.i64_in _ (by omega);have e3:IntKind.i64.wrap ((nx:Int)-1-(i:Int)+300)=(d:Int):=(IntWalk.i64_in _ (by omega)).trans (by omega);clear e0;go_enter Tryz.func108,Tryz.ntmps108
 go_wp2
 go_ret;exact⟨by go_num,rfl⟩
theorem notin_take {L:List Key} {k x:Key} {i:Nat} (h:k∉L.take i) (hx:L[i]? =some x) (hne:x≠k):k∉L.take (i+1):=by
 rw[List.take_add_one,hx];simp only[Option.toList_some,List.mem_append,List.mem_singleton];rintro(h2|h2)
 ·exact h h2
 ·exact hne h2.symm
theorem age_c (q:Nat) (L:List Key) (k:Key) (w:World) (h:QuAt w q L):Calls Tryz.prog 63 #[ptrV q,.agg (kc k)] w fun e w'=>∃i:Nat,e= .returned (.tuple #[.int .i64 (i:Int),.bool (decide (k∈L))])∧Mod (fun _=>False) w w':=by
 obtain⟨R,nx,kQ,hq⟩:=h;have hnx:=hq.nlt;have hll:=hq.len;obtain⟨C,hC⟩:∃C,C=qr R nx L.length 1:=⟨_,rfl⟩;have HC:Hid (QC C nx L.length):=Hi (by rw[hC];exact qc_of hq.size _ _);have HR:Hid (∀i,i<L.length→∀x,L[i]? =some x→C.extract ((nx+299-i) % 150*32) ((nx+299-i) % 150*32+32)=kc x):=Hi (fun i hi x hx=>by
  rw[hC];exact qr_ring hq.size _ _ _ ((hq.at' i hi).trans hx))
 rw[←hC]at kQ;clear hC hq;have HS:=Hi HC.out.size;obtain⟨hs,h0,h1,h2,g0,g1,g2⟩:=HC.out;go_enter Tryz.func63,Tryz.ntmps63;go_upto_region 0 with fail;have LkQ:=Ls kQ;refine ZP0 [3,0,0] ?_;refine Zb fun p3 hp3=> ?_
 iterate 2 refine Zv ?_
 refine TD.nil (fun w1 hr=> ?_);replace kQ:=hr.q kQ;obtain⟨gp3,kp3⟩:=hr.b p3;have m1:=hr.mod;clear hr;go_wp2_with fail;refine wp_scope_straight ?_;go_wp2_with fail;go_at_call 62;refine(qthere_c q C nx L.length _ kQ HC.out).mono ?_;rintro e w2 ⟨rfl,rfl⟩;go_wp2_with fail;apply wp_label;go_wp2_with fail;go_loopw [4,5,14] (fun s4 s5 s14 ws=>∃i:Nat,i≤L.length∧s14= .int .i64 (i:Int)∧s4= .int .i64 0∧s5= .bool false∧Hid (k∉L.take i)∧Mod (fun _=>False) w1 ws) (fun _ _ s14 _=>L.length-(intOf s14).toNat)
 case atStart=>exact⟨0,Nat.zero_le _,rfl,rfl,rfl,Hi (by simp),Mod.refl _ _⟩
 case round=>
  obtain⟨i,hi,rfl,rfl,rfl,HT,hm⟩:=hrel;replace kQ:=hm.at0 kQ;replace kp3:=hm.at0 kp3;by_cases hlt:i<L.length
  ·have hd:=Dt hlt;obtain⟨x,hx⟩:∃x,L[i]? =some x:=⟨_,List.getElem?_eq_getElem hlt⟩;have he:=HR.out i hlt x hx;have HX:=Hi hx;obtain⟨j,hj⟩:∃j,(nx+299-i) % 150=j:=⟨_,rfl⟩;have hj1:((j:Nat):Int)<150:=by omega
   have hj2:j*32≤4771:=by omega
   rw[hj]at he;have HJ:=Hi hj;clear hx hj;by_cases hxk:x=k
   ·have HE:Hid (k∈L):=Hi (by rw[←hxk];exact List.mem_of_getElem? HX.out);have hne:=Dt hxk;clear hxk;go_upto_region 6 with fail;have LkQ:=Ls kQ;have Lkp3:=Ls kp3;refine wp_gpass (T0:=fun _=>False) (K:=fun _ _=>True) (κ:=fun i=>[0,0,0,6,0,0,0,0,0,0].getD i 0) (υ:=fun _=>[]) [0,1,2,3,4,5,6,7,8,9] (by kernel_rfl) (by kernel_rfl) (Good.true).cl (trivial) (fun _ h=>h.elim) ?_;have gK:=Good.true
    iterate 3 refine Zg ?_
    (refine ZG (fun v=>v= .int .i64 (j:Int)) gK ?_ (s:=fun T wq kq ltq hSq ub=>by have kQq:=hSq.at kQ (fun h=>h);exact(qat_c q C nx L.length i wq kQq HC.out hnx (by omega)).mono (fun e w' h=>⟨_,h.1,by rw[HJ.out],by rw[h.2];exact Mod.refl _ _⟩));rintro v7 hC;subst hC;try simp only[zL])
    iterate 3 refine Zg ?_
    refine Zh ?_;refine Zh ?_;refine Zg ?_;refine TG.nil (fun w3 ⟨TR,hr⟩=> ?_);replace kQ:=hr.q kQ;replace kp3:=hr.q kp3;clear gK;have hm3:=hm.then0 hr.mod;clear hr;go_wp2_with fail;(try simp only[Exit.noGoto])
    go_ret2
    exact⟨i,by rw[Dt HE.out];rfl,m1.then0 hm3⟩
   ·have HN:=Hi (notin_take HT.out HX.out hxk);have hne:=Df hxk;clear hxk;go_upto_region 6 with fail;have LkQ:=Ls kQ;have Lkp3:=Ls kp3;refine wp_gpass (T0:=fun _=>False) (K:=fun _ _=>True) (κ:=fun i=>[0,0,0,6,0,0,0,0,0,0].getD i 0) (υ:=fun _=>[]) [0,1,2,3,4,5,6,7,8,9] (by kernel_rfl) (by kernel_rfl) (Good.true).cl (trivial) (fun _ h=>h.elim) ?_;have gK:=Good.true
    iterate 3 refine Zg ?_
    (refine ZG (fun v=>v= .int .i64 (j:Int)) gK ?_ (s:=fun T wq kq ltq hSq ub=>by have kQq:=hSq.at kQ (fun h=>h);exact(qat_c q C nx L.length i wq kQq HC.out hnx (by omega)).mono (fun e w' h=>⟨_,h.1,by rw[HJ.out],by rw[h.2];exact Mod.refl _ _⟩));rintro v17 hC;subst hC;try simp only[zL])
    iterate 3 refine Zg ?_
    refine Zh ?_;refine Zh ?_;refine Zg ?_;refine TG.nil (fun w3 ⟨TR,hr⟩=> ?_);replace kQ:=hr.q kQ;replace kp3:=hr.q kp3;clear gK;have hm3:=hm.then0 hr.mod;clear hr;go_wp2_with fail;go_roundw
    case rel=>exact⟨i+1,by omega,by go_num,rfl,rfl,HN,hm3⟩
    case measure=>simp[intOf];omega
  ·have hd:=Df hlt;have HE:Hid (k∉L):=Hi (by
    have h1:=HT.out;rw[List.take_of_length_le (by omega)]at h1;exact h1)
   go_wp2_with fail;(try simp only[Exit.noGoto])
   go_ret2
   exact⟨0,by rw[Df HE.out];rfl,m1.then0 hm⟩
def pushQ (L:List Key) (k:Key):List Key:=if k∈L then L else(k::L).take 150
theorem zHash_ext:zHash.extract 0 32=zHash:=kc_ext key0
theorem zHash_one0:zHash.all (·.oneCell') 0 32=true:=kc_one0 key0
attribute [local go_sem] zHash_ext zHash_one0
theorem ldHashAt {w:World} {p:Nat} {k:Key} {U:TypeId} (h:w.heap[p]? =some (.cells (kc k) U (0,0))):(Instr.loadAt 47 (.pointer (some ⟨p,0,none⟩))).run Tryz.prog w= .ok (.agg (kc k)) w:=by
 rw[ldHash,h];simp
theorem push_c (q:Nat) (L:List Key) (k:Key) (w:World) (h:QuAt w q L):Calls Tryz.prog 24 #[ptrV q,.agg (kc k)] w fun e w'=>(∃v,e= .returned v)∧QuAt w' q (pushQ L k)∧Mod (fun i=>i=q) w w':=by
 have H:=Hi h;obtain⟨R,nx,kQ,hq⟩:=h;have HQ:=Hi hq;have hnx:=hq.nlt;have hll:=hq.len;obtain⟨C,hC⟩:∃C,C=qr R nx L.length 1:=⟨_,rfl⟩;have HC:Hid (QC C nx L.length):=Hi (by rw[hC];exact qc_of hq.size _ _);rw[←hC]at kQ;clear hq;have HCC:=Hi hC;clear hC;go_enter Tryz.func24,Tryz.ntmps24;go_upto_region 0 with fail;have LkQ:=Ls kQ;refine ZP0 [3,3,0,0] ?_;refine Zb fun p3 hp3=> ?_;refine Za alHash fun p4 hp4=> ?_;obtain⟨ne_p4_p3,hp4⟩:=Bx.set_none hp4
 iterate 2 refine Zv ?_
 refine TD.nil (fun w1 hr=> ?_);replace kQ:=hr.q kQ;obtain⟨gp3,kp3⟩:=hr.b p3 (by first|exact Bx.set_same _ _ _|(simp only[Bx.set_ne _ (Ne.symm ne_p4_p3),Bx.set_ne _ ne_p4_p3,Bx.set_same];rfl));obtain⟨gp4,kp4⟩:=hr.b p4 (by first|exact Bx.set_same _ _ _|(simp only[Bx.set_ne _ (Ne.symm ne_p4_p3),Bx.set_ne _ ne_p4_p3,Bx.set_same];rfl));have m1:=hr.mod;clear hr;go_wp2_with fail;go_at_call 62;refine(qthere_c q C nx L.length _ kQ HC.out).mono ?_;rintro e w2 ⟨rfl,rfl⟩;go_upto_region 3 with fail;go_wp2_with fail;go_at_call 63;refine(age_c q L k _ (H.out.mod0 m1)).mono ?_;rintro e w2 ⟨a,rfl,m2⟩;replace kQ:=m2.at0 kQ;replace kp3:=m2.at0 kp3;replace kp4:=m2.at0 kp4;replace m2:=m1.then0 m2;have hq4:q≠p4:=by
  have:=Ls kQ;intro e;subst e;have h1:=H.out;obtain⟨_,_,h2,_⟩:=h1;have:=Ls h2;omega
 have hq4':p4≠q:=hq4.symm;have HM2:Hid (Mod (fun i=>i=q) w w2):=Hi (m2.mono (fun _ _ h=>h.elim));have hp4:w.heap.size≤p4:=by omega
 clear m1 m2;by_cases hk:k∈L
 ·have HK:=Hi hk;rw[Dt hk];clear hk;go_upto_region 5 with fail;have LkQ:=Ls kQ;have Lkp4:=Ls kp4;refine wp_pass0 (C:=fun _ _ _=>False) (κ:=fun i=>[1,5,0,0].getD i 0) [0,2,3,1] (by kernel_rfl) (by kernel_rfl) (fun _ _ d _ _ h=>by cases d<;>first|exact h|exact absurd h (hP _ _ _)) ?_
  iterate 3 first|refine Zd ?_|refine Zv ?_
  refine Zi fun wE hr=> ?_;replace kQ:=hr.mod.at0 kQ;replace kp4:=hr.mod.at0 kp4;have mE:=hr.mod;refine ZS ?_;refine ZN kp4 fun w5 kp4 mS=> ?_;(try simp only[Array.setIfInBounds,zL]at kp4);replace kQ:=mS.at_ne kQ (by omega);replace HM2:=Hi (HM2.out.then ((mE.mono (T:=fun i=>i=p4) (fun _ _ h=>h.elim)).trans mS) (fun i hi e=>by omega));go_wp2_with fail;(try simp only[Exit.noGoto]);refine bodyPost_ret (results_cell3Q (x:= .agg zHash) rfl rfl (by rw[ldHash];simp[kp4,zHash_size,zHash_ext])) rfl ⟨⟨_,rfl⟩,?_,HM2.out⟩;rw[show pushQ L k=L from if_pos HK.out];exact⟨R,nx,by rw[←HCC.out];exact kQ,HQ.out⟩
 ·have HK:=Hi hk;rw[Df hk];clear hk;obtain⟨hs,h0,h1,h2,g0,g1,g2⟩:=HC.out;by_cases hful:L.length=150
  ·have hd:decide (L.length=150)=true:=Dt hful;have hdi:((L.length:Int)==150)=true:=by rw[beq_iff_eq];omega
   have HC2:Hid (QC C nx 150):=by rw[←hful];exact HC
   have HC2E:Hid (C=qr R nx ((150:Nat):Int) 1):=Hi (by rw[HCC.out,hful]);obtain⟨x,hx⟩:∃x,R[nx]? =some x:=⟨_,List.getElem?_eq_getElem (by rw[HQ.out.size];exact hnx)⟩;have he:C.extract (nx*32) (nx*32+32)=kc x:=by
    rw[HCC.out];exact qr_ring HQ.out.size _ _ _ hx
   have hb:nx*32≤4771:=by omega
   have hb2:((nx:Nat):Int)<150:=by omega
   clear hx;go_upto_region 8 with fail;have LkQ:=Ls kQ;have Lkp4:=Ls kp4;have Lkp3:=Ls kp3;refine ZP [0,0,0,0,1,0,0,0,1,5] ?_
   iterate 9 first|refine Zv ?_|refine Zd ?_
   refine Zi fun wE hr=> ?_;replace kQ:=hr.mod.at0 kQ;replace kp4:=hr.mod.at0 kp4;replace kp3:=hr.mod.at0 kp3;have mE:=hr.mod;refine ZS ?_;refine ZN kp4 fun w3 kp4 mS=> ?_;(try simp only[Array.setIfInBounds,zL]at kp4);replace kQ:=mS.at_ne kQ (by omega);replace kp3:=mS.at_ne kp3 (by omega);replace HM2:=Hi (HM2.out.then ((mE.mono (T:=fun i=>i=p4) (fun _ _ h=>h.elim)).trans mS) (fun i hi e=>by omega));clear hr mE mS hs h0 h1 h2 g0 g1 g2 hb hb2;obtain⟨C2,rfl⟩:∃C2:Array Value,C2=C:=⟨_,rfl⟩;obtain⟨mn,hmn⟩:∃mn:Nat,mn=150:=⟨_,rfl⟩;rw[←hmn]at HC2 HC2E;have HLn:Hid ((pushQ L k).length=mn):=Hi (by
    rw[show pushQ L k=(k::L).take 150 from if_neg HK.out,HQ.out.many,if_pos hful,hmn])
   clear hmn hful hd hdi;obtain⟨y4,rfl⟩:∃y4,y4=x:=⟨_,rfl⟩;have hC2s:C2.size=4803:=HC2.out.size;obtain⟨n1,hn1⟩:∃n1,nx+1=n1:=⟨_,rfl⟩;have HN1:=Hi hn1;obtain⟨nx',hnx'⟩:∃nx',n1 % 150=nx':=⟨_,rfl⟩;obtain⟨C3,hC3⟩:∃C3,C3=qr (R.set nx k) nx (mn:Int) 1:=⟨_,rfl⟩;obtain⟨C4,hC4⟩:∃C4,C4=qr (R.set nx k) nx' (mn:Int) 1:=⟨_,rfl⟩;have e3:wr C2 (nx*32) (kc k).toList=C3:=by rw[HC2E.out,hC3];exact qr_put HQ.out.size _ _ _ HQ.out.nlt k
   have e4:C3.setIfInBounds 4800 (.int .i64 (nx':Int))=C4:=by
    rw[hC3,hC4];exact qr_set (by rw[List.length_set];exact HQ.out.size) _ _ _ 0 _
   have HC3:Hid (QC C3 nx mn):=Hi (by rw[hC3];exact qc_of (by rw[List.length_set];exact HQ.out.size) _ _);have HC4E:=Hi hC4;have HN':=Hi hnx';have E3:=Hi e3;have E4:=Hi e4;clear hC3 hC4 e3 e4 hnx' hC2s hn1;obtain⟨hs,h0,h1,h2,g0,g1,g2⟩:=HC2.out;have hb:nx*32≤4771:=by omega
   have hb2:((nx:Nat):Int)<150:=by omega
   go_upto_region 10 with fail;have Lkp3:=Ls kp3;have LkQ:=Ls kQ;have Lkp4:=Ls kp4;refine ZP [0,0,0,0,1,1,0,0,0,5] ?_
   iterate 9 first|refine Zv ?_|refine Zd ?_
   refine Zi fun wE hr=> ?_;replace kp3:=hr.mod.at0 kp3;replace kQ:=hr.mod.at0 kQ;replace kp4:=hr.mod.at0 kp4;have mE:=hr.mod;refine ZS ?_;refine ZN kQ fun w5 kQ mS=> ?_;(try simp only[Array.setIfInBounds,zL]at kQ);replace kp3:=mS.at_ne kp3 (by omega);replace kp4:=mS.at_ne kp4 (by omega);replace HM2:=Hi (HM2.out.trans ((mE.mono (T:=fun i=>i=q) (fun _ _ h=>h.elim)).trans mS));clear hr mE mS hs h0 h1 h2 g0 g1 g2;rw[E3.out]at kQ;obtain⟨hs,h0,h1,h2,g0,g1,g2⟩:=HC3.out;have ew:IntKind.i64.wrap ((nx:Int)+1)=(n1:Int):=(IntWalk.i64_in _ (by omega)).trans (by have:=HN1.out;omega);go_upto_region 11 with fail;have LkQ:=Ls kQ;have Lkp4:=Ls kp4;refine ZP0 [0,0,0,0,1,0,0,0,0,5] ?_
   iterate 9 first|refine Zv ?_|refine Zd ?_
   refine Zi fun wE hr=> ?_;replace kQ:=hr.mod.at0 kQ;replace kp4:=hr.mod.at0 kp4;have mE:=hr.mod;refine ZS ?_;refine ZN kQ fun w6 kQ mS=> ?_;replace kp4:=mS.at_ne kp4 (by omega);replace HM2:=Hi (HM2.out.trans ((mE.mono (T:=fun i=>i=q) (fun _ _ h=>h.elim)).trans mS));clear hr mE mS hs h0 h1 h2 g0 g1 g2;rw[show(n1:Int).tmod 150=(nx':Int)by rw[Int.tmod_eq_emod_of_nonneg (by omega)];have:=HN'.out;omega,E4.out]at kQ;go_upto_region 12 with fail;have HKQ:=Hi kQ;clear kQ LkQ Lkp4 ew;have Lkp4:=Ls kp4;refine wp_pass0 (C:=fun _ _ _=>False) (κ:=fun i=>[1,0,5,0,0].getD i 0) [0,1,3,4,2] (by kernel_rfl) (by kernel_rfl) (fun _ _ d _ _ h=>by cases d<;>first|exact h|exact absurd h (hP _ _ _)) ?_;(refine TD.load (v:= ?v62) (p:= ?p62) (Mod.refl _ _) (by simp only[zK];rfl) rfl (by rfl) rfl ?hx62 (fun wq hSq=> ?y62) ?n62;(case hx62=>simp only[zM];try rfl);(case y62=>(have kp4q:=hSq.at kp4 (fun h=>h);exact(ldHashAt kp4q)));try simp only[zL])
   iterate 3 refine Zv ?_
   refine Zi fun wE hr=> ?_;replace kp4:=hr.mod.at0 kp4;have mE:=hr.mod;refine ZS ?_;refine ZN kp4 fun w7 kp4 mS=> ?_;(try simp only[Array.setIfInBounds,zL]at kp4);replace HKQ:=Hi (mS.at_ne (mE.at0 HKQ.out) hq4);replace HM2:=Hi (HM2.out.then ((mE.mono (T:=fun i=>i=p4) (fun _ _ h=>h.elim)).trans mS) (fun i hi e=>by omega));clear hr mE mS;go_wp2_with fail;(try simp only[Exit.noGoto]);refine bodyPost_ret (results_cell3Q (x:= .agg (kc y4)) rfl rfl (by rw[ldHash];simp[kp4])) rfl ⟨⟨_,rfl⟩,⟨R.set nx k,nx',?_,?_⟩,HM2.out⟩
   ·rw[HLn.out,←HC4E.out];exact HKQ.out
   ·rw[show pushQ L k=(k::L).take 150 from if_neg HK.out,←HN'.out,←HN1.out];exact HQ.out.push k
  ·have hd:decide (L.length=150)=false:=Df hful;have hdi:((L.length:Int)==150)=false:=by rw[beq_eq_false_iff_ne];omega
   obtain⟨mn,hmn⟩:∃mn:Nat,mn=L.length+1:=⟨_,rfl⟩;have hw:IntKind.i64.wrap ((L.length:Int)+1)=(mn:Int):=(IntWalk.i64_in _ (by omega)).trans (by omega);have HLn:Hid ((pushQ L k).length=mn):=Hi (by
    rw[show pushQ L k=(k::L).take 150 from if_neg HK.out,HQ.out.many,if_neg hful,hmn])
   clear hmn hful;go_upto_region 9 with fail;have LkQ:=Ls kQ;have Lkp4:=Ls kp4;have Lkp3:=Ls kp3;refine ZP0 [0,0,0,1,0,0,0,5] ?_
   iterate 7 first|refine Zv ?_|refine Zd ?_
   refine Zi fun wE hr=> ?_;replace kQ:=hr.mod.at0 kQ;replace kp4:=hr.mod.at0 kp4;replace kp3:=hr.mod.at0 kp3;have mE:=hr.mod;refine ZS ?_;refine ZN kQ fun w3 kQ mS=> ?_;replace kp4:=mS.at_ne kp4 (by omega);replace kp3:=mS.at_ne kp3 (by omega);replace HM2:=Hi (HM2.out.trans ((mE.mono (T:=fun i=>i=q) (fun _ _ h=>h.elim)).trans mS));clear hr mE mS hs h0 h1 h2 g0 g1 g2 hw hd hdi;obtain⟨C2,hC2⟩:∃C2,C.setIfInBounds 4801 (.int .i64 (mn:Int))=C2:=⟨_,rfl⟩;rw[hC2]at kQ;have HC2E:Hid (C2=qr R nx (mn:Int) 1):=Hi (by
    rw[←hC2,HCC.out];exact qr_set HQ.out.size _ _ _ 1 _)
   have HC2:Hid (QC C2 nx mn):=by rw[HC2E.out];exact Hi (qc_of HQ.out.size _ _)
   clear hC2;obtain⟨y4,hy4⟩:∃y4,zHash=kc y4:=⟨key0,rfl⟩;rw[hy4]at kp4;clear hy4;have hC2s:C2.size=4803:=HC2.out.size;obtain⟨n1,hn1⟩:∃n1,nx+1=n1:=⟨_,rfl⟩;have HN1:=Hi hn1;obtain⟨nx',hnx'⟩:∃nx',n1 % 150=nx':=⟨_,rfl⟩;obtain⟨C3,hC3⟩:∃C3,C3=qr (R.set nx k) nx (mn:Int) 1:=⟨_,rfl⟩;obtain⟨C4,hC4⟩:∃C4,C4=qr (R.set nx k) nx' (mn:Int) 1:=⟨_,rfl⟩;have e3:wr C2 (nx*32) (kc k).toList=C3:=by rw[HC2E.out,hC3];exact qr_put HQ.out.size _ _ _ HQ.out.nlt k
   have e4:C3.setIfInBounds 4800 (.int .i64 (nx':Int))=C4:=by
    rw[hC3,hC4];exact qr_set (by rw[List.length_set];exact HQ.out.size) _ _ _ 0 _
   have HC3:Hid (QC C3 nx mn):=Hi (by rw[hC3];exact qc_of (by rw[List.length_set];exact HQ.out.size) _ _);have HC4E:=Hi hC4;have HN':=Hi hnx';have E3:=Hi e3;have E4:=Hi e4;clear hC3 hC4 e3 e4 hnx' hC2s hn1;obtain⟨hs,h0,h1,h2,g0,g1,g2⟩:=HC2.out;have hb:nx*32≤4771:=by omega
   have hb2:((nx:Nat):Int)<150:=by omega
   go_upto_region 10 with fail;have Lkp3:=Ls kp3;have LkQ:=Ls kQ;have Lkp4:=Ls kp4;refine ZP [0,0,0,0,1,1,0,0,0,5] ?_
   iterate 9 first|refine Zv ?_|refine Zd ?_
   refine Zi fun wE hr=> ?_;replace kp3:=hr.mod.at0 kp3;replace kQ:=hr.mod.at0 kQ;replace kp4:=hr.mod.at0 kp4;have mE:=hr.mod;refine ZS ?_;refine ZN kQ fun w5 kQ mS=> ?_;(try simp only[Array.setIfInBounds,zL]at kQ);replace kp3:=mS.at_ne kp3 (by omega);replace kp4:=mS.at_ne kp4 (by omega);replace HM2:=Hi (HM2.out.trans ((mE.mono (T:=fun i=>i=q) (fun _ _ h=>h.elim)).trans mS));clear hr mE mS hs h0 h1 h2 g0 g1 g2;rw[E3.out]at kQ;obtain⟨hs,h0,h1,h2,g0,g1,g2⟩:=HC3.out;have ew:IntKind.i64.wrap ((nx:Int)+1)=(n1:Int):=(IntWalk.i64_in _ (by omega)).trans (by have:=HN1.out;omega);go_upto_region 11 with fail;have LkQ:=Ls kQ;have Lkp4:=Ls kp4;refine ZP0 [0,0,0,0,1,0,0,0,0,5] ?_
   iterate 9 first|refine Zv ?_|refine Zd ?_
   refine Zi fun wE hr=> ?_;replace kQ:=hr.mod.at0 kQ;replace kp4:=hr.mod.at0 kp4;have mE:=hr.mod;refine ZS ?_;refine ZN kQ fun w6 kQ mS=> ?_;replace kp4:=mS.at_ne kp4 (by omega);replace HM2:=Hi (HM2.out.trans ((mE.mono (T:=fun i=>i=q) (fun _ _ h=>h.elim)).trans mS));clear hr mE mS hs h0 h1 h2 g0 g1 g2;rw[show(n1:Int).tmod 150=(nx':Int)by rw[Int.tmod_eq_emod_of_nonneg (by omega)];have:=HN'.out;omega,E4.out]at kQ;go_upto_region 12 with fail;have HKQ:=Hi kQ;clear kQ LkQ Lkp4 ew;have Lkp4:=Ls kp4;refine wp_pass0 (C:=fun _ _ _=>False) (κ:=fun i=>[1,0,5,0,0].getD i 0) [0,1,3,4,2] (by kernel_rfl) (by kernel_rfl) (fun _ _ d _ _ h=>by cases d<;>first|exact h|exact absurd h (hP _ _ _)) ?_;(refine TD.load (v:= ?v95) (p:= ?p95) (Mod.refl _ _) (by simp only[zK];rfl) rfl (by rfl) rfl ?hx95 (fun wq hSq=> ?y95) ?n95;(case hx95=>simp only[zM];try rfl);(case y95=>(have kp4q:=hSq.at kp4 (fun h=>h);exact(ldHashAt kp4q)));try simp only[zL])
   iterate 3 refine Zv ?_
   refine Zi fun wE hr=> ?_;replace kp4:=hr.mod.at0 kp4;have mE:=hr.mod;refine ZS ?_;refine ZN kp4 fun w7 kp4 mS=> ?_;(try simp only[Array.setIfInBounds,zL]at kp4);replace HKQ:=Hi (mS.at_ne (mE.at0 HKQ.out) hq4);replace HM2:=Hi (HM2.out.then ((mE.mono (T:=fun i=>i=p4) (fun _ _ h=>h.elim)).trans mS) (fun i hi e=>by omega));clear hr mE mS;go_wp2_with fail;(try simp only[Exit.noGoto]);refine bodyPost_ret (results_cell3Q (x:= .agg (kc y4)) rfl rfl (by rw[ldHash];simp[kp4])) rfl ⟨⟨_,rfl⟩,⟨R.set nx k,nx',?_,?_⟩,HM2.out⟩
   ·rw[HLn.out,←HC4E.out];exact HKQ.out
   ·rw[show pushQ L k=(k::L).take 150 from if_neg HK.out,←HN'.out,←HN1.out];exact HQ.out.push k
end
section
attribute [local go_sem↓] ldAcct ldHold wlHash ldHash stHash wlSig ldSig stSig wlLim ldLim wlRdy ldRdy stRdy wlOut ldOut stOut wlTd ldTd stTd wlTx ldTx stTx
attribute [local go_sem] neMap av_size av_all hd_size hd_key hd_acct hd_one zHold_size zHash_size zSg_size zLim_size zRdy_size zOut_size zTried_size rdr_size rdr_all rdr_one rdr_rec rdr1 rdr1' ocr_size ocr_all ocr_one ocr2 ocr3 ocr4 ocr5 ocr2' ocr3' ocr4' ocr5' tdr_size tdr_all tdr_one tdr_r tdr_o tdr_tx tdr_rec tdr0 tdr41 tdr50 tdr51 tdr52 tdr0' tdr41' tdr50' tdr51' tdr52'
theorem bsEH (w:World):(Instr.buildSlice 22 0 #[]).run Tryz.prog w= .ok (.slice (some ⟨w.heap.size,0,none⟩) 0 0) (w.alloc (.cells #[] 166)):=by kernel_rfl
theorem eqNilH (w:World) (a:Option Addr) (n c:Nat):(binOp .eql 22 (.slice a n c) (.slice none 0 0)).run Tryz.prog w= .ok (.bool a.isNone) w:=by
 cases a<;>kernel_rfl
theorem cloneH_c {w:World} {a:Option Addr} {l:List Hold} {c:Nat} (hl:SlAt hd 66 w a l) (hlen:l.length≤1000000):Calls Tryz.prog 95 #[.slice a l.length c] w fun e w'=>∃v,e= .returned v∧SlOwn hd 66 166 w' w.heap.size v l∧Mod (fun _=>False) w w':=by
 have he:=eqNilH;cases a with
 |none=>
  obtain rfl:l=[]:=by
   rcases hl with h|⟨_,_,_,_,_,h,_⟩
   ·exact h
   ·cases h
  go_enter Tryz.func95,Tryz.ntmps95;go_wp2_with fail;go_ret;exact⟨_,rfl,SlOwn.nil _ _,Mod.refl _ _⟩
 |some p=>
  have HL:=Hi hl;have hbs:=bsEH;generalize hll:l.length=ll at *;have HLL:=Hi hll;clear hl hll;go_enter Tryz.func95,Tryz.ntmps95;go_upto_region 3 with fail;refine ZP0 [3,0,5,0] ?_;refine Zy hbs fun p5 hp5=> ?_;refine Zv ?_;refine Zi fun w1 hr=> ?_;obtain⟨gp5,kp5⟩:=hr.b p5;have m1:=hr.mod;clear hr;obtain⟨v3,w6,hap,hO6,m6,hn6⟩:=SlOwn.append holdT (c:=c) (own_e (f:=hd) (n:=66) gp5 kp5) (HL.out.mod0 m1) (by simp;have:=HLL.out;omega) (by decide) m1.size 22;have mF:Mod (fun _=>False) w w6:=m1.then m6 (fun i hi e=>by
   have e2:p5=i:=Option.some.inj e;omega)
  rw[HLL.out]at hap;have HO:=Hi hO6;clear hn6 m6 hO6;refine ZA hap ?_;refine Ze ?_;refine TE.nil ?_;go_wp2_with fail;go_ret;exact⟨_,rfl,HO.out,mF⟩
theorem clipH_c (v2:Value) (w:World) (n:Nat) {a:Option Addr} {c:Nat} (h:∀w2,(Instr.sliceAt 22 (.slice a n c) none (some (.int .i64 (n:Int))) (some (.int .i64 (n:Int)))).run Tryz.prog w2= .ok v2 w2):
  Calls Tryz.prog 94 #[.slice a n c] w fun e w'=>e= .returned v2∧w'=w:=by
 go_enter Tryz.func94,Tryz.ntmps94;go_wp2_with fail;go_ret;exact⟨rfl,rfl⟩
theorem clipO_c (v2:Value) (w:World) (n:Nat) {a:Option Addr} {c:Nat} (h:∀w2,(Instr.sliceAt 69 (.slice a n c) none (some (.int .i64 (n:Int))) (some (.int .i64 (n:Int)))).run Tryz.prog w2= .ok v2 w2):
  Calls Tryz.prog 52 #[.slice a n c] w fun e w'=>e= .returned v2∧w'=w:=by
 go_enter Tryz.func52,Tryz.ntmps52;go_wp2_with fail;go_ret;exact⟨rfl,rfl⟩
theorem clipE_c (v2:Value) (w:World) (n:Nat) {a:Option Addr} {c:Nat} (h:∀w2,(Instr.sliceAt 40 (.slice a n c) none (some (.int .i64 (n:Int))) (some (.int .i64 (n:Int)))).run Tryz.prog w2= .ok v2 w2):
  Calls Tryz.prog 51 #[.slice a n c] w fun e w'=>e= .returned v2∧w'=w:=by
 go_enter Tryz.func51,Tryz.ntmps51;go_wp2_with fail;go_ret;exact⟨rfl,rfl⟩
theorem entries0_c {p s q n t:Nat} {b:Bool} {oa:Option Addr} {on oc:Nat} {f:UInt64} (w:World) (kp:w.heap[p]? =some (.cells (blkC s q n t b none 0 0 oa on oc f) 130 (0,0))):Calls Tryz.prog 10 #[ptrV p] w fun e w'=>(∃a c,e= .returned (.slice a 0 c))∧Mod (fun _=>False) w w':=by
 have KP:=Hi kp;unfold blkC at kp;go_enter Tryz.func10,Tryz.ntmps10;go_wp2_with fail;go_at_call 43;refine(bthere_c _ KP.out).mono ?_;rintro e w2 ⟨rfl,rfl⟩;have hcl:∀w2,(Instr.sliceAt 40 (.slice none 0 0) none (some (.int .i64 ((0:Nat):Int))) (some (.int .i64 ((0:Nat):Int)))).run Tryz.prog w2= .ok (.slice none 0 0) w2:=fun w2=>by kernel_rfl
 go_upto_region 4 with fail;go_loopw [2,13] (fun s2 s13 ws=>s2= .slice none 0 0∧s13= .int .i64 0∧ws=w) (fun _ _ _=>0)
 case atStart=>exact⟨rfl,rfl,rfl⟩
 case round=>
  obtain⟨rfl,rfl,rfl⟩:=hrel;go_wp2_with fail;go_at_call 51;refine(clipE_c (a:=none) (c:=0) (.slice none 0 0) _ 0 hcl).mono ?_;rintro e w2 ⟨rfl,rfl⟩;go_wp2_with fail;go_ret;exact⟨⟨_,_,rfl⟩,Mod.refl _ _⟩
end
section
attribute [local go_sem↓] ldAcct ldHold wlHash ldHash stHash wlSig ldSig stSig wlLim ldLim wlRdy ldRdy stRdy wlOut ldOut stOut wlTd ldTd stTd wlTx ldTx stTx
attribute [local go_sem] neMap av_size av_all hd_size hd_key hd_acct hd_one zHold_size zHash_size zSg_size zLim_size zRdy_size zOut_size zTried_size rdr_size rdr_all rdr_one rdr_rec rdr1 rdr1' ocr_size ocr_all ocr_one ocr2 ocr3 ocr4 ocr5 ocr2' ocr3' ocr4' ocr5' tdr_size tdr_all tdr_one tdr_r tdr_o tdr_tx tdr_rec tdr0 tdr41 tdr50 tdr51 tdr52 tdr0' tdr41' tdr50' tdr51' tdr52'
attribute [local go_sem↓] eqHash
attribute [local go_sem] zHash_ext zHash_one0
theorem hashesT:ElT Tryz.prog 23 47 kc 32 32 where
 u:=Tryz.underlying23
 info:=by
  obtain⟨i0,hi,hz0,hz1,hz2⟩:=info_parts (show(Tryz.prog.info? 47).map (fun i=>(i.zero,i.size,i.bytes))=some (some (.agg zHash),32,32)by kernel_rfl);exact⟨i0,_,hi,hz0,hz1,hz2,by simp[Value.cells,zHash]⟩
 pos:=by omega
 size:=kc_size
 one k:=by
  have:=kc_one k;rw[Array.all_eq_true_iff_forall_mem]at this;intro u hu;exact this u (by simpa using hu)
theorem SlAt.take {α:Type} {f:α→Array Value} {n:Nat} {w:World} {a:Option Addr} {l:List α} (h:SlAt f n w a l) (k:Nat):SlAt f n w a (l.take k):=by
 rcases h with h|⟨b,o,C,U,fr,h1,h2,h3⟩
 ·left;rw[h,List.take_nil]
 ·exact .inr ⟨b,o,C,U,fr,h1,h2,fun i x hx=>h3 i x (by
   rw[List.getElem?_take]at hx;split at hx
   ·exact hx
   ·cases hx)⟩
def DQ (w:World) (h:Nat) (L:List Key):Prop:=∃a c,w.heap[h]? =some (.cells #[.slice a L.length c] 96 (0,0))∧SlAt kc 32 w a L∧L.length≤150∧(∀x,a=some x→x.block<w.heap.size∧h<x.block)
theorem hash_at {w:World} {a:Option Addr} {l:List Key} (h:SlAt kc 32 w a l) {i:Nat} {x:Key} (hx:l[i]? =some x):∃g o C U fr,a=some ⟨g,o,none⟩∧w.heap[g]? =some (.cells C U fr)∧C.extract (o+i*32) (o+i*32+32)=kc x∧o+i*32+32≤C.size:=h.block hx
theorem rage_c (h:Nat) (L:List Key) (k:Key) (w:World) (hD:DQ w h L):Calls Tryz.prog 64 #[ptrV h,.agg (kc k)] w fun e w'=>∃i:Nat,e= .returned (.tuple #[.int .i64 (i:Int),.bool (decide (k∈L))])∧Mod (fun _=>False) w w':=by
 obtain⟨a,c,kh,hL,hn,hb⟩:=hD;have HL:=Hi hL;clear hL hb;go_enter Tryz.func64,Tryz.ntmps64;go_upto_region 0 with fail;have Lkh:=Ls kh;refine ZP0 [3,0,0] ?_;refine Zb fun p3 hp3=> ?_
 iterate 2 refine Zv ?_
 refine TD.nil (fun w1 hr=> ?_);replace kh:=hr.q kh;obtain⟨gp3,kp3⟩:=hr.b p3;have m1:=hr.mod;clear hr;go_wp2_with fail;go_loopw [6] (fun s6 ws=>∃i:Nat,i≤L.length∧s6= .int .i64 (i:Int)∧Hid (k∉L.take i)∧Mod (fun _=>False) w1 ws) (fun s6 _=>L.length-(intOf s6).toNat)
 case atStart=>exact⟨0,Nat.zero_le _,rfl,Hi (by simp),Mod.refl _ _⟩
 case round=>
  obtain⟨i,hi,rfl,HT,hm⟩:=hrel;replace kh:=hm.at0 kh;replace kp3:=hm.at0 kp3;by_cases hlt:i<L.length
  ·have hd:=Dt hlt;obtain⟨x,hx⟩:∃x,L[i]? =some x:=⟨_,List.getElem?_eq_getElem hlt⟩;obtain⟨g,o,C,U,fr,rfl,kg,he,hle⟩:=hash_at (HL.out.mod0 (m1.then0 hm)) hx;have HX:=Hi hx;clear hx;by_cases hxk:x=k
   ·have HE:Hid (k∈L):=Hi (by rw[←hxk];exact List.mem_of_getElem? HX.out);have hne:=Dt hxk;clear hxk;go_upto_region 4 with fail;have Lkh:=Ls kh;have Lkg:=Ls kg;have Lkp3:=Ls kp3;refine ZP [0,0,0,1,0,0,1,1,0] ?_
    iterate 9 first|refine Zv ?_|refine Zd ?_
    refine TD.nil (fun w3 hr=> ?_);replace kh:=hr.q kh;replace kg:=hr.q kg;replace kp3:=hr.q kp3;have hm3:=hm.then0 hr.mod;clear hr;go_wp2_with fail
    go_ret2
    exact⟨i,by rw[Dt HE.out];rfl,m1.then0 hm3⟩
   ·have HN:=Hi (notin_take HT.out HX.out hxk);have hne:=Df hxk;clear hxk;go_upto_region 4 with fail;have Lkh:=Ls kh;have Lkg:=Ls kg;have Lkp3:=Ls kp3;refine ZP [0,0,0,1,0,0,1,1,0] ?_
    iterate 9 first|refine Zv ?_|refine Zd ?_
    refine TD.nil (fun w3 hr=> ?_);replace kh:=hr.q kh;replace kg:=hr.q kg;replace kp3:=hr.q kp3;have hm3:=hm.then0 hr.mod;clear hr;go_wp2_with fail;go_roundw
    case rel=>exact⟨i+1,by omega,by go_num,HN,hm3⟩
    case measure=>simp[intOf];omega
  ·have hd:=Df hlt;have HE:Hid (k∉L):=Hi (by
    have h1:=HT.out;rw[List.take_of_length_le (by omega)]at h1;exact h1)
   go_wp2_with fail
   go_ret2
   exact⟨0,by rw[Df HE.out];rfl,m1.then0 hm⟩
theorem bsHash (k:Key) (w:World):(Instr.buildSlice 23 1 #[(0,.agg (kc k))]).run Tryz.prog w= .ok (.slice (some ⟨w.heap.size,0,none⟩) 1 1) (w.alloc (.cells (kc k) 47)):=by
 obtain⟨i0,hi,hz0,hz1,hz2⟩:=info_parts (show(Tryz.prog.info? 47).map (fun i=>(i.zero,i.size,i.bytes))=some (some (.agg zHash),32,32)by kernel_rfl);refine run_buildSlice w _ _ 1 _ _ i0 _ Tryz.underlying23 hi hz0 (by rw[hz1];omega) (by rw[hz1];omega) ?_;rw[hz1];show Instr.fill _ _ [(0,_)]=_;rw[fill_cons (off:=0) (n:=32) rfl (by simp[Value.cells]) (by simp[Value.cells,zHash_size,size_madeCells])];show some (wr _ 0 (kc k).toList)=_;rw[wr_whole (kc k) _ (by simp[Value.cells,zHash_size,size_madeCells])]
theorem bldHash0 (w:World):(Instr.build 47 #[]).run Tryz.prog w= .ok (.agg zHash) w:=by kernel_rfl
theorem SlOwn.cap {α:Type} {f:α→Array Value} {n:Nat} {E:TypeId} {w:World} {base m c:Nat} {a:Option Addr} {l:List α} (h:SlOwn f n E w base (.slice a m c) l):l.length≤c:=by
 rcases h.2 with⟨e,hn⟩|⟨g,cap,cur,e,_,_,hnc,_⟩
 ·omega
 ·cases e;exact hnc
theorem own_one {α:Type} {P:Program} {T E:TypeId} {f:α→Array Value} {n B:Nat} (hT:ElT P T E f n B) {w:World} {base q:Nat} {x:α} (hb:base≤q) (hg:w.heap[q]? =some (.cells (f x) E (0,0))) (_:True=True):SlOwn f n E w base (.slice (some ⟨q,0,none⟩) 1 1) [x]:=
 ⟨by simp[cellsOf,hT.size],.inr ⟨q,1,f x,rfl,hb,hg,Nat.le_refl _,by simp[maxLen],by simp[hT.size],by simp[cellsOf,hT.size,List.take_of_length_le]⟩⟩
theorem DQ.mod {w w':World} {h:Nat} {L:List Key} {S:Nat→Prop} (hD:DQ w h L) (hm:Mod S w w') (h1:¬S h) (h2:∀a c,w.heap[h]? =some (.cells #[.slice a L.length c] 96 (0,0))→∀b o,a=some ⟨b,o,none⟩→¬S b):DQ w' h L:=by
 obtain⟨a,c,k1,k2,k3,k4⟩:=hD;exact⟨a,c,hm.at k1 h1,k2.mod hm (h2 a c k1),k3,fun x hx=>⟨Nat.lt_of_lt_of_le (k4 x hx).1 hm.size,(k4 x hx).2⟩⟩
theorem DQ.mod0 {w w':World} {h:Nat} {L:List Key} (hD:DQ w h L) (hm:Mod (fun _=>False) w w'):DQ w' h L:=hD.mod hm (fun h=>h) (fun _ _ _ _ _ _ h=>h)
theorem rpush_c (h:Nat) (L:List Key) (k:Key) (w:World) (hD:DQ w h L):Calls Tryz.prog 25 #[ptrV h,.agg (kc k)] w fun e w'=>(∃v,e= .returned v)∧DQ w' h (pushQ L k)∧Mod (fun i=>i=h) w w':=by
 have H:=Hi hD;have hh0:=bldHash0;obtain⟨a,c,kh,hL,hn,hb⟩:=hD;have HL:=Hi hL;have HB:=Hi hb;clear hL hb;go_enter Tryz.func25,Tryz.ntmps25;go_upto_region 0 with fail;have Lkh:=Ls kh;refine ZP0 [3,3,0,0] ?_;refine Zb fun p3 hp3=> ?_;refine Za alHash fun p4 hp4=> ?_;obtain⟨ne_p4_p3,hp4⟩:=Bx.set_none hp4
 iterate 2 refine Zv ?_
 refine TD.nil (fun w1 hr=> ?_);replace kh:=hr.q kh;obtain⟨gp3,kp3⟩:=hr.b p3 (by first|exact Bx.set_same _ _ _|(simp only[Bx.set_ne _ (Ne.symm ne_p4_p3),Bx.set_ne _ ne_p4_p3,Bx.set_same];rfl));obtain⟨gp4,kp4⟩:=hr.b p4 (by first|exact Bx.set_same _ _ _|(simp only[Bx.set_ne _ (Ne.symm ne_p4_p3),Bx.set_ne _ ne_p4_p3,Bx.set_same];rfl));have m1:=hr.mod;clear hr;go_upto_region 1 with fail;go_wp2_with fail;go_at_call 64;refine(rage_c h L k _ (H.out.mod0 m1)).mono ?_;rintro e w2 ⟨ag,rfl,m2⟩;replace kh:=m2.at0 kh;replace kp3:=m2.at0 kp3;replace kp4:=m2.at0 kp4;replace m2:=m1.then0 m2;have hh4:h≠p4:=ne_of_obj kh kp4 (by simp[zHash]);have hp4:w.heap.size≤p4:=gp4;have HLa:=Hi (HL.out.mod0 m2);have HM2:Hid (Mod (fun i=>i=h) w w2):=Hi (m2.mono (fun _ _ h=>h.elim));clear m1 m2;by_cases hk:k∈L
 ·have HK:=Hi hk;rw[Dt hk];clear hk;go_upto_region 3 with fail;have Lkh:=Ls kh;have Lkp4:=Ls kp4;refine wp_pass0 (C:=fun _ _ _=>False) (κ:=fun i=>[0,5,0,0].getD i 0) [0,2,3,1] (by kernel_rfl) (by kernel_rfl) (fun _ _ d _ _ h=>by cases d<;>first|exact h|exact absurd h (hP _ _ _)) ?_;refine Zu hh0 ?_
  iterate 2 refine Zv ?_
  refine Zi fun wE hr=> ?_;replace kh:=hr.mod.at0 kh;replace kp4:=hr.mod.at0 kp4;have mE:=hr.mod;refine ZS ?_;refine ZN kp4 fun w5 kp4 mS=> ?_;(try simp only[Array.setIfInBounds,zL]at kp4);replace kh:=mS.at_ne kh (by omega);replace HM2:=Hi (HM2.out.then ((mE.mono (T:=fun i=>i=p4) (fun _ _ h=>h.elim)).trans mS) (fun i hi e=>by omega));go_wp2_with fail;refine bodyPost_ret (results_cell3Q (x:= .agg zHash) rfl rfl (by rw[ldHash];simp[kp4,zHash_size,zHash_ext])) rfl ⟨⟨_,rfl⟩,?_,HM2.out⟩;rw[show pushQ L k=L from if_pos HK.out];have mm:=(mE.mono (T:=fun i=>i=p4) (fun _ _ h=>h.elim)).trans mS;exact⟨a,c,kh,HLa.out.mod mm (fun b o e hb=>by
   have:=(HB.out _ e).1;simp only at this;omega),hn,fun x hx=>⟨Nat.lt_of_lt_of_le (HB.out x hx).1 HM2.out.size,(HB.out x hx).2⟩⟩
 ·have HK:=Hi hk;rw[Df hk];clear hk;have hbs:=bsHash k;generalize hll:L.length=ll at *;have HLL:=Hi hll;clear hll;go_upto_region 4 with fail;have Lkh:=Ls kh;have Lkp3:=Ls kp3;have Lkp4:=Ls kp4;refine ZP [0,1,3,0,0,0,1,5,0,0,6] ?_;refine Zv ?_;refine Zd ?_;refine Zy hbs fun p20 hp20=> ?_
  iterate 4 first|refine Zv ?_|refine Zd ?_
  refine Zi fun w3 hr=> ?_;replace kh:=hr.q kh;replace kp3:=hr.q kp3;replace kp4:=hr.q kp4;obtain⟨gp20,kp20⟩:=hr.b p20;have m3:=hr.mod;clear hr hbs;obtain⟨v3,w6,hap,hO6,m6,hn6⟩:=SlOwn.append hashesT (c:=c) (l:=[k]) (base:=w2.heap.size) (v:= .slice (some ⟨p20,0,none⟩) 1 1) (own_one hashesT gp20 kp20 rfl) (HLa.out.mod0 m3) (by simp;have:=HLL.out;omega) (by decide) m3.size 23;rw[HLL.out]at hap;have hne20:∀i,i<w2.heap.size→¬((Value.slice (some ⟨p20,0,none⟩) 1 1).ownBlock=some i):=fun i hi e=>by
   have e2:p20=i:=Option.some.inj e;omega
  have kh2:=Ls H.out.choose_spec.choose_spec.1;replace kh:=m6.at kh (hne20 h (Nat.lt_of_lt_of_le kh2 HM2.out.size));replace kp3:=m6.at kp3 (hne20 p3 Lkp3);replace kp4:=m6.at kp4 (hne20 p4 Lkp4);have mF:Mod (fun _=>False) w2 w6:=m3.then m6 (fun i hi e=>hne20 i hi e);obtain⟨a6,c6,rfl,hA6,hB6,_⟩:=hO6.at hashesT;obtain⟨n1,hn1⟩:∃n1,([k]++L).length=n1:=⟨_,rfl⟩;have hn2:Hid (n1=ll+1):=Hi (by rw[←hn1,←HLL.out];simp);rw[hn1]at hap;have HN1:=Hi hn1;have HC6:Hid (([k]++L).length≤c6):=Hi hO6.cap;have HO6:Hid (SlAt kc 32 w6 a6 (k::L)∧∀x,a6=some x→w2.heap.size≤x.block∧x.block<w6.heap.size):=Hi ⟨hA6,fun x hx=>⟨(hB6 x hx).1,(hB6 x hx).2.1⟩⟩;clear hO6 hA6 hB6 hn6 m6 m3 hne20 kh2 hn1;refine ZA hap ?_;refine Ze ?_;refine Ze ?_;refine Zz ?_;refine ZS ?_;refine ZN kh fun wn kh mS=> ?_;(try simp only[Array.setIfInBounds,zL]at kh);replace kh:wn.heap[h]? =some (.cells #[.slice a6 n1 c6] 96 (0,0)):=kh;have hhn:h<w2.heap.size:=Lkh;have hp4n:p4<w2.heap.size:=Lkp4;replace kp3:=mS.at kp3 (by omega);replace kp4:=mS.at_ne kp4 hh4.symm;have HS6:Hid (SlAt kc 32 wn a6 (k::L)∧∀x,a6=some x→w2.heap.size≤x.block∧x.block<wn.heap.size):=Hi ⟨HO6.out.1.mod mS (fun b o e hb=>by
   have:=(HO6.out.2 _ e).1;simp only at this;omega),fun x hx=>⟨(HO6.out.2 x hx).1,Nat.lt_of_lt_of_le (HO6.out.2 x hx).2 mS.size⟩⟩
  replace HM2:=Hi (HM2.out.trans ((mF.mono (T:=fun i=>i=h) (fun _ _ h=>h.elim)).trans mS));have hh2w:w2.heap.size≤wn.heap.size:=Nat.le_trans mF.size mS.size;clear hap HO6 mS mF Lkh Lkp3 Lkp4 kp20;by_cases hle:n1≤150
  ·have hd:=Dt hle;go_upto_region 6 with fail;have Lkh:=Ls kh;have Lkp4:=Ls kp4;refine wp_pass0 (C:=fun _ _ _=>False) (κ:=fun i=>[0,5,0,0].getD i 0) [0,2,3,1] (by kernel_rfl) (by kernel_rfl) (fun _ _ d _ _ h=>by cases d<;>first|exact h|exact absurd h (hP _ _ _)) ?_;refine Zu hh0 ?_
   iterate 2 refine Zv ?_
   refine Zi fun wE hr=> ?_;replace kh:=hr.mod.at0 kh;replace kp4:=hr.mod.at0 kp4;have mE:=hr.mod;refine ZS ?_;refine ZN kp4 fun w9 kp4 mS=> ?_;(try simp only[Array.setIfInBounds,zL]at kp4);replace kh:=mS.at_ne kh (by omega);have mm:=(mE.mono (T:=fun i=>i=p4) (fun _ _ h=>h.elim)).trans mS;go_wp2_with fail;refine bodyPost_ret (results_cell3Q (x:= .agg zHash) rfl rfl (by rw[ldHash];simp[kp4,zHash_size,zHash_ext])) rfl ⟨⟨_,rfl⟩,?_,HM2.out.then mm (fun i hi e=>by omega)⟩;have hp:pushQ L k=k::L:=by
    rw[show pushQ L k=(k::L).take 150 from if_neg HK.out,List.take_of_length_le (by have h1:=HN1.out;have h2:(k::L).length=n1:=h1;omega)]
   rw[hp];have h2:(k::L).length=n1:=HN1.out;exact⟨a6,c6,by rw[h2];exact kh,HS6.out.1.mod mm (fun b o e hb=>by
    have:=(HS6.out.2 _ e).1;simp only at this;omega),by omega,fun x hx=>⟨Nat.lt_of_lt_of_le (HS6.out.2 x hx).2 mm.size,by have:=(HS6.out.2 x hx).1;omega⟩⟩
  ·have hd:=Df hle;obtain⟨n0,hn0⟩:∃n0:Nat,n0=150:=⟨_,rfl⟩;have hn151:n1=151:=by have:=hn2.out;omega
   obtain⟨x,hx⟩:∃x,(k::L)[150]? =some x:=⟨_,List.getElem?_eq_getElem (by have h1:=HN1.out;have h2:(k::L).length=n1:=h1;omega)⟩;obtain⟨g,o,C,U,fr,rfl,kg,he,hlC⟩:=hash_at HS6.out.1 hx;have hgw:=HS6.out.2 _ rfl;simp only at hgw;have hgh:g≠h:=by omega
   have hg4:g≠p4:=by omega
   have hhm:h≠p4:=hh4;clear hx;go_upto_region 7 with fail;have Lkh:=Ls kh;have Lkp4:=Ls kp4;have Lkg:=Ls kg;refine ZP0 [0,0,0,1,0,1,3,4] ?_
   iterate 6 first|refine Zv ?_|refine Zd ?_
   refine Za alHash fun p9 hp9=> ?_;refine Zt ?_;refine TD.nil (fun w9 hr=> ?_);replace kh:=hr.q kh;replace kp4:=hr.q kp4;replace kg:=hr.q kg;obtain⟨gp9,kp9⟩:=hr.b p9;have m9:=hr.mod;clear hr;have hc6:n1≤c6:=by have:=HC6.out;have h1:=HN1.out;omega
   have hq1:∀w,(Instr.sliceAt 23 (.slice (some ⟨g,o,none⟩) n1 c6) none (some (.int .i64 150)) none).run Tryz.prog w= .ok (.slice (some ⟨g,o,none⟩) 150 c6) w:=fun w=>sl_take (k:=150) hashesT (by omega) w;have HC66:=Hi hn151;clear hc6 hn151 hle hd;go_upto_region 8 with fail;have Lkh:=Ls kh;have Lkp4:=Ls kp4;have Lkp9:=Ls kp9;refine ZP0 [0,0,0,0,1,0,0,0,5] ?_
   iterate 5 first|refine Zv ?_|refine Zd ?_
   refine Zx hq1 ?_
   iterate 2 refine Zv ?_
   refine Zi fun wE hr=> ?_;replace kh:=hr.mod.at0 kh;replace kp4:=hr.mod.at0 kp4;replace kp9:=hr.mod.at0 kp9;have mE:=hr.mod;refine ZS ?_;refine ZN kh fun w10 kh mS=> ?_;(try simp only[Array.setIfInBounds,zL]at kh);replace kp4:=mS.at_ne kp4 (by omega);replace kp9:=mS.at_ne kp9 (by omega);replace kh:w10.heap[h]? =some (.cells #[.slice (some ⟨g,o,none⟩) 150 c6] 96 (0,0)):=kh;have m10:=(((HM2.out.then0 m9).then0 mE)).trans mS;have hS10:=(HS6.out.1.mod0 (m9.then0 mE)).mod mS (fun b o e hb=>by cases e;omega);have hsz:=Nat.le_trans m9.size (Nat.le_trans mE.size mS.size);have HSS:=Hi (Ai m10 hS10);clear m9 mE mS hr hq1 m10 hS10 kg he hlC HS6 HM2;have kp9:w10.heap[p9]? =some (.cells (kc x) 47 (0,0)):=kp9;go_upto_region 9 with fail;have Lkh:=Ls kh;have Lkp4:=Ls kp4;have Lkp9:=Ls kp9;refine wp_pass0 (C:=fun _ _ _=>False) (κ:=fun i=>[1,5,0,0].getD i 0) [0,2,3,1] (by kernel_rfl) (by kernel_rfl) (fun _ _ d _ _ h=>by cases d<;>first|exact h|exact absurd h (hP _ _ _)) ?_;(refine TD.load (v:= ?v63) (p:= ?p63) (Mod.refl _ _) (by simp only[zK];rfl) rfl (by rfl) rfl ?hx63 (fun wq hSq=> ?y63) ?n63;(case hx63=>simp only[zM];try rfl);(case y63=>(have khq:=hSq.at kh (fun h=>h);have kp4q:=hSq.at kp4 (fun h=>h);have kp9q:=hSq.at kp9 (fun h=>h);exact(ldHashAt kp9q)));try simp only[zL])
   iterate 2 refine Zv ?_
   refine Zi fun wE hr=> ?_;replace kh:=hr.mod.at0 kh;replace kp4:=hr.mod.at0 kp4;replace kp9:=hr.mod.at0 kp9;have mE:=hr.mod;refine ZS ?_;refine ZN kp4 fun w11 kp4 mS=> ?_;(try simp only[Array.setIfInBounds,zL]at kp4);replace kh:=mS.at_ne kh (by omega);replace kp9:=mS.at_ne kp9 (by omega);have mm:=(mE.mono (T:=fun i=>i=p4) (fun _ _ h=>h.elim)).trans mS;go_wp2_with fail;refine bodyPost_ret (results_cell3Q (x:= .agg (kc x)) rfl rfl (by rw[ldHash];simp[kp4])) rfl ⟨⟨_,rfl⟩,?_,HSS.out.1.then mm (fun i hi e=>by omega)⟩;have h2:(k::L).length=n1:=HN1.out;have hp:pushQ L k=(k::L).take 150:=if_neg HK.out;have hl150:((k::L).take 150).length=150:=by rw[List.length_take];have:=hn2.out;have:=HC66.out;omega
   rw[hp];exact⟨_,c6,by rw[hl150];exact kh,(HSS.out.2.mod mm (fun b o e hb=>by cases e;omega)).take 150,by omega,fun y hy=>by cases hy;exact⟨by have:=mm.size;simp only;omega,by simp only;omega⟩⟩
end
section
section
variable {P:Program} {ops:Array Oper} {Q:Exit→Act→World→Prop} {T0:Nat→Prop} {w0:World} {κ:Nat→Nat} {υ:Nat→List Tmp}
theorem TG.soundX (hsel:∀(j:Nat) (p:Oper) cs b,ops[j]? =some p→p.op≠ .select cs b)
  (hback:∀i o,ops[i]? =some o→∀e∈o.after,Region.binds .any e=true→e.on<i) {rest:List Nat} {E:Act→World→Prop} (hE:∀listed a w,Listing ops listed rest→E a w→wpAny P .any ops Q rest.length listed a w):
  ∀(fuel:Nat) (l:List Nat) (listed:Array Bool) (a:Act) (B:Bx) (K:Land) (w:World),l.length=fuel→(l++rest).Nodup→(∀i∈l++rest,i<ops.size)→gPairsOk ops κ υ l=true→
   (∀x∈l,∀y∈rest,x≠y∧(behindB ops x).testBit y=true)→Listing ops listed (l++rest)→Closed K→
   RG T0 w0 B K w→TG P ops (fun _ a w=>E a w) T0 w0 κ υ l a B K→wpAny P .any ops Q (rest.length+fuel) listed a w:=by
 intro fuel
 induction fuel with
 |zero=>
  intro l listed a B K w hl hn hlt hp hb hL hK hR h;obtain rfl:l=[]:=List.length_eq_zero_iff.1 hl;have hte:E a w:=by
   cases h with|nil h=>exact h w hR
  exact hE listed a w (by simpa using hL) hte
 |succ fuel ih=>
  intro l listed a B K w hl hn hlt hp hb hL hK hR h;refine⟨fun hnil=> ?_,fun i hi=> ?_⟩
  ·exfalso
   match l,hl with
   |i::l',_=>exact exists_ready hback hL hlt i i (by simp) (Nat.le_refl _) hnil
  ·obtain⟨hun,o,ho,hall⟩:=mem_ready.1 hi;have hil:i∈l:=by
    rcases List.mem_append.1 ((hL.mem i).2 hun)with hin|hin
    ·exact hin
    ·exfalso;clear h
     match l,hl with
     |x::l',_=>
      have hxy:=hb x (by simp) i hin;obtain⟨_,hpth⟩:=(behindB_path hxy.2).resolve_left (fun e=>hxy.1 e.symm);have hl1:=path_listed hL.closed _ x i o ho hall hpth;have hl2:=getD_false_of_true ((hL.mem x).1 (by simp));rw[hl1]at hl2;cases hl2
   obtain⟨pre,post,rfl⟩:=List.append_of_mem hil;obtain⟨h1,h2⟩:=gPairsOk_split hp;have hf:=TG.front hsel ho pre a B K hK ⟨w,hR⟩ (fun x hx=>by
    have:=h1 x hx;unfold gPairOk at this;have hxo:ops[x]? =some (ops[x]'(hlt x (by simp[hx]))):=Array.getElem?_eq_getElem _;rw[hxo,ho]at this;simp only[Bool.or_eq_true,Bool.and_eq_true]at this;rcases this with hpth|hok
    ·obtain⟨_,hpth⟩:=(behindB_path hpth.2).resolve_left (fun e=>by have:=hpth.1;simp[e]at this);have hl1:=path_listed hL.closed _ x i o ho hall hpth;have hl2:=getD_false_of_true ((hL.mem x).1 (by simp[hx]));rw[hl1]at hl2;cases hl2
    ·exact⟨_,hxo,hok.1,hok.2⟩) h
   have hl':(pre++post).length=fuel:=by simp at hl⊢;omega
   have hsub:((pre++post)++rest).Sublist ((pre++i::post)++rest):=List.Sublist.append_right (List.Sublist.append_left (List.sublist_cons_self _ _) _) _;have hn':((pre++post)++rest).Nodup:=hn.sublist hsub;have hlt':∀j∈(pre++post)++rest,j<ops.size:=fun j hj=>hlt j (hsub.subset hj);have hb':∀x∈pre++post,∀y∈rest,x≠y∧(behindB ops x).testBit y=true:=fun x hx=>hb x ((List.Sublist.append_left (List.sublist_cons_self i post) pre).subset hx);have hL':Listing ops (listed.setIfInBounds i true) ((pre++post)++rest):=by
    have:=Listing.next (pre:=pre) (post:=post++rest) (i:=i) (by simpa using hL) (by simpa using hn) ho hall;simpa using this
   rcases hf.kinds with ko|ko|ko|ko
   ·obtain⟨v,hy,ht⟩:=hf.inv_val ko ho;obtain⟨T,hRT⟩:=hR;exact YieldsIf.wpOp ho hy hRT.mod (ih _ _ _ _ _ _ hl' hn' hlt' h2 hb' hL' hK ⟨T,hRT⟩ ht)
   ·obtain⟨hw,d,T,z,V,hd,hr,ht⟩:=hf.inv_alloc ko ho;obtain⟨U,hRT⟩:=hR;have hR':RG T0 w0 (B.set w.heap.size ⟨z,T,d⟩) K (w.alloc (.cells z T)):=⟨U,hRT.alloc hK z T d⟩;unfold wpOp;simp only[ho,hw,if_true];refine .inl ?_;unfold Oper.wp;rw[hr w];exact ih _ _ _ _ _ _ hl' hn' hlt' h2 hb' hL' hK hR' (ht _ hRT.none ⟨_,hR'⟩)
   ·obtain⟨hw,hd,d,T,y,p,b,hop,hev,hbb,htag,hr,ht⟩:=hf.inv_store ko ho;obtain⟨U,hRT⟩:=hR;unfold wpOp;simp only[ho,hw,if_true];refine .inl ?_;unfold Oper.wp;rw[hr w (hRT.box p b hbb).2.2];simp only[Oper.upon,hd];exact ih _ _ _ _ _ _ hl' hn' hlt' h2 hb' hL' hK ⟨U,hRT.store hK hbb _⟩ ht
   ·obtain⟨hw,K',hE,ht⟩:=hf.inv_eff ko ho;obtain⟨U,hRT⟩:=hR;exact(hE.step hRT).wp ho hw fun v w' hv=>ih _ _ _ _ _ _ hl' hn' hlt' h2 hb' hL' (hE.cl v) hv (ht v ⟨w',hv⟩)
def headB (ops:Array Oper) (rest:List Nat) (i:Nat):Bool:=rest.all fun j=>j==i|| !(behindB ops j).testBit i
def AllE (P:Program) (ops:Array Oper) (Q:Exit→Act→World→Prop):Nat→List Nat→Act→World→Prop
 |0,_,a,w=>Q .normal a w
 |n+1,rest,a,w=>∀i∈rest,headB ops rest i=true→wpOp P ops Q i (AllE P ops Q n (rest.erase i)) a w
theorem allE_nil {rest:List Nat} {a:Act} {w:World} (h:Q .normal a w):AllE P ops Q 0 rest a w:=h
theorem no_head {b:Bool} {p:Prop} (hf:b=false) (hb:b=true):p:=by
 rw[hf]at hb;cases hb
theorem allE_any (hsel:∀(j:Nat) (p:Oper) cs b,ops[j]? =some p→p.op≠ .select cs b)
  (hback:∀i o,ops[i]? =some o→∀e∈o.after,Region.binds .any e=true→e.on<i):∀(n:Nat) (rest:List Nat),rest.length=n→rest.Nodup→(∀i∈rest,i<ops.size)→
  ∀(listed:Array Bool) (a:Act) (w:World),Listing ops listed rest→AllE P ops Q n rest a w→wpAny P .any ops Q n listed a w:=by
 intro n
 induction n with
 |zero=>
  intro rest hl hn hlt listed a w hL h;obtain rfl:=List.length_eq_zero_iff.1 hl;exact TE.sound (κ:=fun _=>0) hsel hback 0 [] listed a w rfl List.nodup_nil (by simp) rfl hL (.nil h)
 |succ n ih=>
  intro rest hl hn hlt listed a w hL h;have hne:rest≠[]:=by intro e;rw[e]at hl;cases hl
  refine⟨fun hnil=> ?_,fun i hi=> ?_⟩
  ·exfalso;obtain⟨x,hx⟩:=List.exists_mem_of_ne_nil _ hne;exact exists_ready hback hL hlt x x hx (Nat.le_refl _) hnil
  ·obtain⟨hun,o,ho,hall⟩:=mem_ready.1 hi;have hin:=(hL.mem i).2 hun;have hhead:headB ops rest i=true:=by
    unfold headB;rw[List.all_eq_true];intro j hj;by_cases e:j=i
    ·simp[e]
    ·cases hb:(behindB ops j).testBit i with
     |false=>simp
     |true=>
      exfalso;obtain⟨_,hpth⟩:=(behindB_path hb).resolve_left (fun e'=>e e'.symm);have hl1:=path_listed hL.closed _ j i o ho hall hpth;have hl2:=getD_false_of_true ((hL.mem j).1 hj);rw[hl1]at hl2;cases hl2
   obtain⟨pre,post,hr⟩:=List.append_of_mem hin;have hN:=Listing.next (pre:=pre) (post:=post) (i:=i) (by rw[←hr];exact hL) (by rw[←hr];exact hn) ho hall;have hq:(rest.erase i).Perm (pre++post):=List.Perm.cons_inv ((List.perm_cons_erase hin).symm.trans (by rw[hr];exact List.perm_middle));refine wpOp_mono (fun a' w' hk=> ?_) (h i hin hhead);refine ih (rest.erase i) (by rw[List.length_erase_of_mem hin];omega) (hn.erase i) (fun x hx=>hlt x (List.mem_of_mem_erase hx)) _ a' w' ⟨hN.size,fun x=>(hq.mem_iff).trans (hN.mem x),hN.closed⟩ hk
def xRegOk (ops:Array Oper) (κ:Nat→Nat) (υ:Nat→List Tmp) (l rest:List Nat):Bool:=
 Region.noSelect ops&&((List.range ops.size).all fun i=>match ops[i]? with|none=>false|some o=>o.after.all fun e=> !Region.binds .any e||decide (e.on<i))&&
 (decide (rest.length+l.length=ops.size)&&((l++rest).all (fun i=>decide (i<ops.size))&&((List.range ops.size).all fun i=>(l++rest).contains i)))&&
 (decide (l++rest).Nodup&&gPairsOk ops κ υ l&&
  l.all (fun x=>rest.all fun y=> !(x==y)&&(behindB ops x).testBit y))
theorem x_any {a:Act} {w1:World} {K:Land} (l rest:List Nat) (hok:xRegOk ops κ υ l rest=true) (hK:Closed K) (hR:RG T0 w0 Bx.nil K w1)
  (h:TG P ops (fun _ a w=>AllE P ops Q rest.length rest a w) T0 w0 κ υ l a Bx.nil K):wpAny P .any ops Q ops.size (Array.replicate ops.size false) a w1:=by
 simp only[xRegOk,Bool.and_eq_true,List.all_eq_true,decide_eq_true_eq]at hok;obtain⟨⟨⟨h1,h2⟩,h3,h4,h5⟩,⟨hnd,h6⟩,h8⟩:=hok;have hback:∀i o,ops[i]? =some o→∀e∈o.after,Region.binds .any e=true→e.on<i:=fun i o ho e he hb=>by
  have:=h2 i (List.mem_range.2 (Array.getElem?_eq_some_iff.1 ho).1);rw[ho]at this;have:=Array.all_eq_true_iff_forall_mem.1 this e he;simpa[hb] using this
 rw[←h3];have hnr:rest.Nodup:=(List.nodup_append.1 hnd).2.1;refine TG.soundX (Region.noSelect_spec h1) hback (fun listed a w hL hE=>allE_any (Region.noSelect_spec h1) hback rest.length rest rfl hnr (fun i hi=>h4 i (List.mem_append_right _ hi)) listed a w hL hE) _ l _ a _ _ _ rfl hnd h4 h6 (fun x hx y hy=> ?_) ?_ hK hR h
 ·have:=h8 x hx y hy;exact⟨by simpa using this.1,this.2⟩
 ·rw[h3];refine⟨by simp,fun i=> ?_,fun i o hi=> ?_⟩
  ·constructor
   ·intro hi;have:=h4 i hi;simp[this]
   ·intro hi;have:i<ops.size:=by
     rcases Nat.lt_or_ge i ops.size with h'|h'
     ·exact h'
     ·simp[Nat.not_lt.2 h']at hi
    simpa using h5 i (List.mem_range.2 this)
  ·exfalso;have:(Array.replicate ops.size false).getD i false=false:=by
    by_cases h':i<ops.size
    ·simp[h']
    ·simp[h']
   rw[this]at hi;cases hi
theorem wp_xpass {id:Nat} {a:Act} {w:World} {K:Land} (l rest:List Nat) (hm:P.follows .mixedOrders=true) (hok:xRegOk ops κ υ l rest=true) (hK:Closed K) (hk:K T0 w) (hlt:∀i,T0 i→i<w.heap.size)
  (h:TG P ops (fun _ a w=>AllE P ops Q rest.length rest a w) T0 w κ υ l a Bx.nil K):(Code.region id ops true).wp P Q a w:=
 wp_region_any hm (x_any l rest hok hK ⟨T0,hK T0 w w.drew hk (Mod.refl _ w).drew,hlt,fun _ _ h=>h,(Mod.refl _ w).drew,fun _ _ hh=>by cases hh⟩ h)
end
end
end Go.Proofs.YtceodkliooeccaaGreatDoor