/- The lemmas of the proof, part XO3: how the program and its data lie in memory, and what its functions do. -/
import Derived.Test.YtiaehkkkcaeaiaaGreatDoorXR2
import Derived.Laws.Externs
import Derived.Laws.Bits64b
import Derived.Shelf.Bits.Mul64
import Derived.Test.YtiaehkkkcaeaiaaGreatDoorRows
import Derived.ProofKit
import Derived.LaidMore
import Derived.OpenShut
import Derived.Stop.Joined
import Derived.Stop.LaidErr
import Derived.Lib.LaidTab
import Derived.Laws.CopyRow
set_option linter.unusedSimpArgs false
set_option linter.unusedVariables false
set_option linter.unusedSectionVars false

set_option maxRecDepth 20000
set_option maxHeartbeats 3200000
namespace Go.Proofs.YtiaehkkkcaeaiaaGreatDoor
open Go.RowKit
open Go.ChangeMaps (setBlock)
attribute [local go_sem↓] ldKey stKey wlKey
attribute [local go_sem] Value.cells cell_blk frozen_blk kc_ext kc_one kc_one0 kc_size one_bool one_int one_map one_ptr one_slice zKey_size
section
attribute [local go_sem↓] wlMsg ldMsg stMsg wlRg ldRg stRg wlTc ldTc stTc ldSg stSg
attribute [local go_sem] mgx_size mgx_ext mgx_one mgx_one0 zMsg_size zMsg_all zMsg_all0
attribute [local go_sem] rgx0' rgx40' rgx_size rgx_one rgx_one0 rgx0 rgx40 tcx_size tcx_ext tcx_one tcx_one0 mcx_size mcx_one0 mcx_ext rgx_tx
def takeS:Nat→List UInt8→Option (List Sg×List UInt8)
 |0,L=>some ([],L)
 |n+1,L=>if h:64≤L.length then(takeS n (L.drop 64)).map (fun y=>(⟨L.take 64,by rw[List.length_take];omega⟩::y.1,y.2))else none
def preS (S:List Sg) (r:Option (List Sg×List UInt8)):Option (List Sg×List UInt8):=r.map (fun y=>(S++y.1,y.2))
theorem preS_nil (r:Option (List Sg×List UInt8)):preS [] r=r:=by cases r<;>rfl
theorem preS_step {n:Nat} {S:List Sg} {L:List UInt8} (h:64≤L.length):preS S (takeS (n+1) L)=preS (S++[⟨L.take 64,by rw[List.length_take];omega⟩]) (takeS n (L.drop 64)):=by
 rw[takeS,dif_pos h];cases takeS n (L.drop 64)<;>simp[preS]
theorem preS_none {n:Nat} {S:List Sg} {L:List UInt8} (h:L.length<64):preS S (takeS (n+1) L)=none:=by
 rw[takeS,dif_neg (by omega)];rfl
theorem takeS_len:∀ {n:Nat} {L:List UInt8} {S:List Sg} {R:List UInt8},takeS n L=some (S,R)→S.length=n∧R.length+64*n=L.length
 |0,L,S,R,h=>by
  cases h;simp
 |n+1,L,S,R,h=>by
  rw[takeS]at h;split at h
  ·rename_i h64;cases h2:takeS n (L.drop 64)with
   |none=>rw[h2]at h;cases h
   |some y=>
    rw[h2]at h;cases h;have:=takeS_len h2;rw[List.length_drop]at this;simp only[List.length_cons];omega
  ·cases h
structure TxP where
 sg:List Sg
 m:MsP
def pTx (l:List UInt8):PR TxP:=if(gsh 0 0 l).2.2=0 then(match takeS (gsh 0 0 l).1 (l.drop (gsh 0 0 l).2.1)with
 |none=> .error 5
 |some (S,R)=>pBind (pMsg R 0) fun m k=> .ok (⟨S,m⟩,l.length-R.length+k))else .error (gsh 0 0 l).2.2
def VTx (b:Nat) (w:World) (v:Value) (x:TxP):Prop:=∃(sa:Option Addr) (m:McR),v= .agg (tcx sa x.sg.length x.sg.length m)∧NewS sgc 64 101 b w (.slice sa x.sg.length x.sg.length) x.sg∧VMsg b w (.agg (mcx m)) x.m
def PgetP (w:World) (l:List UInt8) (e:Ending) (w':World):Prop:=Mod (fun _=>False) w w'∧match pTx l with
 | .ok (x,k)=>∃v,e= .returned (.tuple #[v,i64n k,i64n 0])∧VTx w.heap.size w' v x∧k≤l.length
 | .error n=>e= .returned (.tuple #[.agg zTc,i64n 0,i64n n])
theorem bRg (a:Option Addr) (n c:Nat) (w:World):(Instr.build 200 #[(1,.slice a n c)]).run Tryz.prog w= .ok (.agg (rgx none 0 0 mc0 a n c)) w:=by kernel_rfl
theorem bTx0 (w:World):(Instr.build 35 #[]).run Tryz.prog w= .ok (.agg zTc) w:=by kernel_rfl
theorem zTc_size:zTc.size=40:=tcx_size ..
theorem zTc_ext:zTc.extract 0 40=zTc:=tcx_ext ..
theorem zTc_all:zTc.all (·.oneCell')=true:=tcx_one ..
theorem zTc_all0:zTc.all (·.oneCell') 0 40=true:=tcx_one0 ..
theorem zRg_size:zRg.size=41:=rgx_size ..
attribute [local go_sem] zTc_size zTc_ext zTc_all zTc_all0 zRg_size
theorem rgx_pop (sa:Option Addr) (sn sc:Nat) (m:McR) (la:Option Addr) (ln lc:Nat):(rgx sa sn sc m la ln lc).pop=tcx sa sn sc m:=by
 rw[←rgx_tx sa sn sc m la ln lc];simp[rgx_size]
attribute [local go_sem] rgx_pop
theorem results_ctt {P:Program} {fn:Func} {t1 t2 t3:Tmp} {T1:TypeId} {tmps:Array Value} {p1:Addr} {v1:Value} {w:World} (h:fn.results= #[.cell t1 T1,.tmp t2,.tmp t3])
  (h1:tmps.getD t1 undef= .pointer (some p1)) (k1:(Instr.loadAt T1 (.pointer (some p1))).run P w= .ok v1 w):(results fn tmps).run P w= .ok (.tuple #[v1,tmps.getD t2 undef,tmps.getD t3 undef]) w:=by
 have l1:(loadVar T1 p1).run P w= .ok v1 w:=by simpa[Instr.loadAt,Instr.sureAddr] using k1
 unfold results;rw[h];have hmap:∀ {α β:Type} (f:α→β) (x:Sem α) (w:World),(f<$>x).run P w=(x.run P w).andThen fun a w=> .ok (f a) w:=fun f x w=>by
  show(x>>=fun a=>pure (f a)).run P w=_;rw[Sem.run_bind];rfl
 simp only[List.mapM_toArray,List.mapM_cons,List.mapM_nil,h1,asAddr,Sem.run_bind,hmap,Sem.run_pure,Result.andThen_ok,l1];rfl
theorem ldTcx {w:World} {p:Nat} {sa:Option Addr} {sn sc:Nat} {m:McR} (h:w.heap[p]? =some (.cells (tcx sa sn sc m) 35 (0,0))):(Instr.loadAt 35 (.pointer (some ⟨p,0,none⟩))).run Tryz.prog w= .ok (.agg (tcx sa sn sc m)) w:=by
 rw[ldTc,h];simp[tcx_size,tcx_ext]
theorem ldTcZ {w:World} {p:Nat} (h:w.heap[p]? =some (.cells zTc 35 (0,0))):(Instr.loadAt 35 (.pointer (some ⟨p,0,none⟩))).run Tryz.prog w= .ok (.agg zTc) w:=by
 rw[ldTc,h];simp[zTc_size,zTc_ext]
def NE {α:Type} (r:PR α):Prop:=r≠ .error 0
theorem NE.bind {α β:Type} {r:PR α} {f:α→Nat→PR β} (h:NE r) (hf:∀x k,NE (f x k)):NE (pBind r f):=by
 unfold NE at *;cases r with
 |error e=>simpa[pBind] using h
 |ok y=>exact hf _ _
theorem NE.byte (l:List UInt8) (k:Nat):NE (pByte l k):=by
 unfold NE pByte;split<;>simp
theorem NE.bytes (l:List UInt8) (k n:Nat):NE (pBytes l k n):=by
 unfold NE pBytes;split<;>simp
theorem NE.short (l:List UInt8) (k:Nat):NE (pShort l k):=by
 unfold NE pShort;split
 ·simp
 ·rename_i h;simpa using h
theorem NE.list (l:List UInt8) (k:Nat):NE (pList l k):=by
 have h:=NE.short l k;unfold NE pList at *;split
 ·exact NE.bytes l _ _
 ·rename_i e he;rw[he]at h;simpa[NE] using h
theorem NE.key (l:List UInt8) (k:Nat):NE (pKey l k):=by
 unfold NE pKey;split<;>simp
theorem NE.instr (l:List UInt8) (k:Nat):NE (pInstr l k):=by
 unfold NE pInstr;split
 ·rename_i e he;have h:=NE.byte l k;rw[he]at h;simpa[NE] using h
 ·rename_i q k1 _;split
  ·rename_i e he;have h:=NE.list l k1;rw[he]at h;simpa[NE] using h
  ·rename_i x k2 _;split
   ·rename_i e he;have h:=NE.list l k2;rw[he]at h;simpa[NE] using h
   ·simp
theorem NE.look (l:List UInt8) (k:Nat):NE (pLook l k):=by
 unfold NE pLook;split
 ·rename_i e he;have h:=NE.key l k;rw[he]at h;simpa[NE] using h
 ·rename_i q k1 _;split
  ·rename_i e he;have h:=NE.list l k1;rw[he]at h;simpa[NE] using h
  ·rename_i x k2 _;split
   ·rename_i e he;have h:=NE.list l k2;rw[he]at h;simpa[NE] using h
   ·simp
theorem NE.rep {α:Type} {one:Nat→PR α} (h:∀k,NE (one k)):∀n k,NE (pRep one n k)
 |0,k=>by simp[NE,pRep]
 |n+1,k=>by
  have h1:=h k;unfold NE at *;rw[pRep];split
  ·rename_i e he;rw[he]at h1;simpa[NE] using h1
  ·rename_i x k1 _;have h2:=NE.rep h n k1;unfold NE at h2;split
   ·rename_i e he;rw[he]at h2;simpa[NE] using h2
   ·simp
theorem NE.all {α:Type} {one:Nat→PR α} (h:∀k,NE (one k)) (l:List UInt8) (k:Nat):NE (pAll one l k):=by
 have h1:=NE.short l k;unfold NE pAll at *;split
 ·rename_i e he;rw[he]at h1;simpa[NE] using h1
 ·exact NE.rep h _ _
theorem NE.msg (l:List UInt8) (k:Nat):NE (pMsg l k):=by
 refine(NE.byte l k).bind fun c k1=> ?_;split
 ·simp[NE]
 ·refine NE.bind ?_ fun h0 k2=>(NE.byte l k2).bind fun h1 k3=>(NE.byte l k3).bind fun h2 k4=>(NE.all (NE.key l) l k4).bind fun ks k5=>(NE.key l k5).bind fun rc k6=>(NE.all (NE.instr l) l k6).bind fun ins k7=>NE.bind ?_ fun lks k8=>by simp[NE]
  ·split
   ·exact NE.byte l k1
   ·simp[NE]
  ·split
   ·exact NE.all (NE.look l) l k7
   ·simp[NE]
theorem clipSgs_c (v2:Value) (w:World) (n:Nat) {a:Option Addr} {c:Nat} (h:∀w2,(Instr.sliceAt 24 (.slice a n c) none (some (.int .i64 (n:Int))) (some (.int .i64 (n:Int)))).run Tryz.prog w2= .ok v2 w2):
  Calls Tryz.prog 127 #[.slice a n c] w fun e w'=>e= .returned v2∧w'=w:=by
 go_enter Tryz.func127,Tryz.ntmps127;go_wp2_with fail;go_ret;exact⟨rfl,rfl⟩
theorem VMsg.form {b:Nat} {w:World} {v:Value} {x:MsP} (h:VMsg b w v x):∃m:McR,v= .agg (mcx m)∧VMsg b w (.agg (mcx m)) x:=by
 obtain⟨ka,ia,la,L,M,rfl,h⟩:=h;exact⟨⟨x.v0,x.h0,x.h1,x.h2,ka,x.ks.length,x.ks.length,x.rc,ia,L.length,L.length,la,M.length,M.length⟩,rfl,ka,ia,la,L,M,rfl,h⟩
theorem VMsg.mod {b:Nat} {w w':World} {v:Value} {x:MsP} {S:Nat→Prop} (h:VMsg b w v x) (hm:Mod S w w') (hS:∀g,b≤g→g<w.heap.size→¬S g):VMsg b w' v x:=by
 obtain⟨ka,ia,la,L,M,rfl,h1,h2,h3,h4,h5,h6⟩:=h;exact⟨ka,ia,la,L,M,rfl,h1.mod hm (fun g hg=>hS g (h1.lt g hg).1 (h1.lt g hg).2),h2.mod hm (fun g hg=>hS g (h2.lt g hg).1 (h2.lt g hg).2),h3.mod hm (fun g h1 h2 _=>hS g h1 h2),h4.mod hm (fun g hg=>hS g (h4.lt g hg).1 (h4.lt g hg).2),h5.mod hm (fun g h1 h2 _=>hS g h1 h2),h6⟩
theorem VMsg.base {b b':Nat} {w:World} {v:Value} {x:MsP} (h:VMsg b w v x) (hb:b'≤b):VMsg b' w v x:=by
 obtain⟨ka,ia,la,L,M,rfl,h1,h2,h3,h4,h5,h6⟩:=h;exact⟨ka,ia,la,L,M,rfl,h1.base hb,h2.base hb,h3.base hb,h4.base hb,h5.base hb,h6⟩
theorem pget_c {a:Option Addr} {l:List UInt8} {c:Nat} (w:World) (hl:SlAt uc 1 w a l) (hc:l.length≤c) (hn:a=none→c=0) (hln:l.length≤900000) (hin:∀x,a=some x→x.block<w.heap.size):
  Calls Tryz.prog 99 #[.slice a l.length c] w (PgetP w l):=by
 have HL:=Hi (Ai hl (Ai hc (Ai hn (Ai hln hin))));obtain⟨ll,hll⟩:∃ll,l.length=ll:=⟨_,rfl⟩;have HLL:=Hi hll;rw[hll]at hln⊢;obtain⟨n,took,er,hg⟩:∃n took er,gsh 0 0 l=(n,took,er):=⟨_,_,_,rfl⟩;have HG:=Hi hg;clear hl hc hn hln hin hll hg;go_enter Tryz.func99,Tryz.ntmps99;go_upto_region 0 with fail;refine ZP0 [3,0,0] ?_;refine Za alTc fun p2 hp2=> ?_
 iterate 2 refine Zv ?_
 refine TD.nil (fun w1 hr=> ?_);obtain⟨gp2,kp2⟩:=hr.b p2;have m1:=hr.mod;clear hr;replace kp2:w1.heap[p2]? =some (.cells zTc 35 (0,0)):=kp2;have HM1:=Hi m1;have hG:=gsh_c a l c w1 (HL.out.1.mod0 m1) (by have:=HL.out.2.2.2.1;omega);rw[HLL.out,HG.out]at hG;have HG1:=Hi hG;clear hG;go_wp2_with fail;go_at_call 124;refine HG1.out.mono ?_;rintro e w2 ⟨rfl,m2⟩;replace kp2:=m2.at0 kp2;have m12:=m1.trans m2;have HM2:=Hi m12;clear m1 m2 HM1 HG1 m12;have hb:=bTx0;by_cases he:er=0
 ·subst he;have hne:((0:Int) !=0)=false:=rfl;have hfit:=gsh_fit l 0 0 (by decide) (by omega) (by rw[HG.out]);rw[HG.out]at hfit;simp only at hfit;obtain⟨sp,hsp,hss,hsb,hsn⟩:=sl_from (P:=Tryz.prog) bytesT (c:=c) (k:=took) HL.out.1 (by omega) HL.out.2.1 HL.out.2.2.1;have hdl:(l.drop took).length=ll-took:=by rw[List.length_drop,HLL.out]
  rw[HLL.out]at hsp;have HSS:=Hi (Ai hss (Ai hsb (Ai hsn (Ai hdl hfit))));clear hss hsb hsn hfit hdl;go_upto_region 4 with fail;have hbr:=bRg;have Lkp2:=Ls kp2;refine ZP0 [0,0,0,0,3,4] ?_
  iterate 2 refine Zv ?_
  refine Zx hsp ?_;refine Zu (hbr _ _ _) ?_;refine Za alRg fun p6 hp6=> ?_;refine Zt ?_;refine TD.nil (fun w3 hr=> ?_);replace kp2:=hr.q kp2;obtain⟨gp6,kp6⟩:=hr.b p6;have h26:p2<p6:=by omega
  have hw6:w.heap.size≤p2:=gp2;have m3:=hr.mod;have hsz3:=Ls kp6;have hR0:RgA p6 [] (l.drop took) w3:=by
   refine⟨none,0,sp,c-took,by rw[HSS.out.2.2.2.1];exact kp6,SlOwn.nil _ _,HSS.out.1 _ (HL.out.1.mod0 (HM2.out.trans m3)),?_,?_,?_,?_⟩
   ·rw[HSS.out.2.2.2.1];have:=HL.out.2.1;have:=HLL.out;omega
   ·intro e;have:=HL.out.2.2.1 (HSS.out.2.2.1 e);omega
   ·intro x e;obtain⟨y,hy,hyx⟩:=HSS.out.2.1 x e;have:=HL.out.2.2.2.2 y hy;omega
   ·rw[HSS.out.2.2.2.1];have:=HL.out.2.2.2.1;have:=HLL.out;simp only[List.length_nil];omega
  have HR0:=Hi hR0;have HM3:=Hi (HM2.out.trans m3);have hn65:=HSS.out.2.2.2.2.1;clear hr hsp hbr hR0 m3 HM2 kp6;obtain⟨L0,hL0⟩:∃L0,l.drop took=L0:=⟨_,rfl⟩;have HL0:=Hi hL0;go_wp2_with fail;go_loopw [24] (fun s24 ws=>∃(i:Nat) (S:List Sg) (L:List UInt8),i≤n∧s24= .int .i64 (i:Int)∧Hid (S.length=i)∧Hid (RgA p6 S L ws)∧Hid (Mod (fun _=>False) w ws)∧Hid (takeS n (l.drop took)=preS S (takeS (n-i) L))∧ws.heap[p2]? =some (.cells zTc 35 (0,0))) (fun s24 _=>n-(intOf s24).toNat)
  case atStart=>exact⟨0,[],l.drop took,by omega,rfl,Hi rfl,HR0,HM3,Hi (by rw[preS_nil,Nat.sub_zero]),kp2⟩
  case round=>
   obtain⟨i,S,L,hi,rfl,HSi,HR,HM,HT,kp2⟩:=hrel;by_cases hlt:i<n
   ·have hd:=Dt hlt;by_cases h64:64≤L.length
    ·have H64:=Hi h64;clear h64;go_wp2_with fail;go_at_call 125;refine(sigY_c HR.out H64.out).mono ?_;rintro e w4 ⟨rfl,hR,hm⟩;have HF:=Hi (Ai hR (HM.out.then hm (fun i hi e=>by omega)));replace kp2:=hm.at kp2 (by omega);clear hR hm;go_wp2_with fail;go_roundw
     case rel=>exact⟨i+1,_,_,by omega,by go_num,Hi (by rw[List.length_append,HSi.out];rfl),Hi HF.out.1,Hi HF.out.2,Hi (by rw[HT.out,show n-i=(n-(i+1))+1 by omega];exact preS_step H64.out),kp2⟩
     case measure=>simp[intOf];omega
    ·have HE:Hid (pTx l= .error 5):=Hi (by
      unfold pTx;rw[HG.out];simp only[if_true];rw[HT.out,show n-i=(n-(i+1))+1 by omega,preS_none (by omega)])
     have H64:Hid (L.length<64):=Hi (by omega);clear h64;go_wp2_with fail;go_at_call 125;refine(sigN_c HR.out H64.out).mono ?_;rintro e w4 ⟨rfl,rfl⟩;go_upto_region 8 with fail;have Lkp2:=Ls kp2;refine ZP0 [0,5,0,0] ?_;refine Zu hb ?_;refine Zi fun w5 hr=> ?_;replace kp2:=hr.q kp2;have HM5:=Hi (HM.out.then0 hr.mod);clear hr;refine ZS ?_;refine ZM kp2 fun wn kp2 mS=> ?_;have HM6:=Hi (HM5.out.then mS (fun i hi e=>by omega));clear mS;refine Ze ?_;refine Ze ?_;refine TE.nil ?_;go_wp2_with fail;refine bodyPost_ret (results_ctt rfl rfl (ldTcZ kp2)) rfl ?_;unfold PgetP;rw[HE.out];exact⟨HM6.out,rfl⟩
   ·have hd:=Df hlt;obtain rfl:n=i:=by omega
    have HT2:Hid (pTx l=pBind (pMsg L 0) fun m k=> .ok (⟨S,m⟩,l.length-L.length+k)):=Hi (by
     have h0:takeS n (l.drop took)=some (S,L):=by
      rw[HT.out,Nat.sub_self,takeS];simp[preS]
     unfold pTx;rw[HG.out];simp only[if_true];rw[h0])
    have HLn:Hid (L.length≤ll):=Hi (by
     have h0:takeS n (l.drop took)=some (S,L):=by
      rw[HT.out,Nat.sub_self,takeS];simp[preS]
     have:=(takeS_len h0).2;have:=HSS.out.2.2.2.1;omega)
    clear HT;obtain⟨sa,sc,la,lc,kp6,hS,hLL,hlc,hnl,hbl,hln⟩:=HR.out;obtain⟨nL,hnL⟩:∃nL,L.length=nL:=⟨_,rfl⟩;rw[hnL,HSi.out]at kp6;have HNL:=Hi hnL;have hsz:=Ls kp6;have HSZ:=Hi hsz;have HG6:=Hi (mget_c wr hLL hlc hnl (by omega) (fun x e=>by have:=hbl x e;omega));have HSO:=Hi hS;clear hS hLL hlc hnl hbl hln hsz HR;have HG6':=HG6.out;rw[hnL]at HG6';have HG7:=Hi HG6';clear HG6' HG6 hnL;have hG7:=HG7.out;clear HG7;have ha1:=alMsg;go_upto_region 10 with fail;refine region_seq 11 rfl ?_;simp only[List.range,List.range.loop];refine Zq ?_;refine Zr ?_;refine ZC hG7 ?hout (fun vn wn hR=> ?hret) (fun ch wn hR=> ?hpan)
    case hout=>
     intro w' h;unfold MgetP at h;split at h
     ·obtain⟨_,_,h,_⟩:=h;cases h
     ·cases h.2
    case hpan=>
     exfalso;unfold MgetP at hR;split at hR
     ·obtain⟨_,_,h,_⟩:=hR;cases h
     ·cases hR.2
    case hret=>
    obtain⟨hm,hr⟩:=hR;have hSO:=HSO.out.mod0 hm;have HSO4:=Hi hSO;have HM4:=Hi (HM.out.trans hm);replace kp2:=hm.at0 kp2;replace kp6:=hm.at0 kp6;clear hm hSO hG7;cases hres:pMsg L 0 with
    |error e0=>
     rw[hres]at hr;simp only at hr;cases hr;have HE:Hid (pTx l= .error e0):=Hi (HT2.out.trans (pBind_err hres));have he0:((e0:Int) !=0)=true:=by
      have h1:=NE.msg L 0;rw[NE,hres]at h1;simpa using fun e=>h1 (by rw[e])
     (try simp only[zL]);obtain⟨w4,rfl⟩:∃w4:World,w4=wn:=⟨_,rfl⟩
     iterate 4 refine Zq ?_
     (refine sq_alloc (by simp only[zK];rfl) (by rfl) rfl alMsg (fun p7 wn gp7 kp7 mp7=> ?n22);try simp only[zL]);refine ZT ?_;refine ZQ kp7 fun wn kp7 mS=> ?_
     iterate 2 refine Zq ?_
     refine sq_nil ?_;have HM5:Hid (Mod (fun _=>False) w wn):=Hi ((HM4.out.trans mp7).then mS (fun i hi e=>by have:=HM4.out.size;omega));replace kp2:=mS.at_ne (mp7.at0 kp2) (by have:=Ls kp2;omega);clear mS mp7 kp7 kp6;obtain⟨w5,rfl⟩:∃w5:World,w5=wn:=⟨_,rfl⟩;go_upto_region 12 with fail;have Lkp2:=Ls kp2;refine ZP0 [0,0,5,0,0] ?_;refine Zu hb ?_;refine Zv ?_;refine Zi fun w6 hr=> ?_;replace kp2:=hr.q kp2;have HM6:=Hi (HM5.out.then0 hr.mod);clear hr;refine ZS ?_;refine ZM kp2 fun wn kp2 mS=> ?_;have HM7:=Hi (HM6.out.then mS (fun i hi e=>by omega));clear mS;refine Ze ?_;refine Ze ?_;refine TE.nil ?_;go_wp2_with fail;refine bodyPost_ret (results_ctt rfl rfl (ldTcZ kp2)) rfl ?_;unfold PgetP;rw[HE.out];exact⟨HM7.out,rfl⟩
    |ok y=>
     obtain⟨x,k1⟩:=y;rw[hres]at hr;obtain⟨v,hv0,hv,hk1⟩:=hr;have HK1:=Hi hk1;clear hk1;cases hv0;obtain⟨m,rfl,hv⟩:=hv.form;have HE:Hid (pTx l= .ok (⟨S,x⟩,l.length-L.length+k1)):=Hi (HT2.out.trans (pBind_ok hres));have h46:=HM4.out.size;have HV:=Hi hv;have hwr:=Ls kp6;(try simp only[zL]);obtain⟨w4,rfl⟩:∃w4:World,w4=wn:=⟨_,rfl⟩;clear hv hwr h46
     iterate 4 refine Zq ?_
     (refine sq_alloc (by simp only[zK];rfl) (by rfl) rfl alMsg (fun p7 wn gp7 kp7 mp7=> ?n36);try simp only[zL]);refine ZT ?_;refine ZQ kp7 fun wn kp7 mS=> ?_
     iterate 2 refine Zq ?_
     refine sq_nil ?_;replace kp7:wn.heap[p7]? =some (.cells (mcx m) 33 (0,0)):=kp7;have hp26:=Ls kp2;have hp66:=Ls kp6;have h47:p2≠p7∧p6≠p7:=by omega
     have m47:Mod (fun _=>False) w4 wn:=mp7.then mS (fun i hi e=>by omega);have HM5:Hid (Mod (fun _=>False) w wn):=Hi (HM4.out.trans m47);replace kp2:=m47.at0 kp2;replace kp6:=m47.at0 kp6;have HSO5:=Hi (HSO4.out.mod0 m47);have HV5:=Hi (HV.out.mod m47 (fun _ _ _ h=>h));clear mS mp7 gp7 m47 hp26 hp66;obtain⟨w5,rfl⟩:∃w5:World,w5=wn:=⟨_,rfl⟩;go_upto_region 13 with fail;obtain⟨a9,c9,v9,e9,hcl,hnew⟩:=HSO5.out.clip sgT;obtain⟨sa9,rfl⟩:=NewS.form2 hnew;rw[HSi.out]at hcl hnew;have HCL:=Hi hcl;have HNW:=Hi hnew;clear e9 hcl hnew;have Lkp7:=Ls kp7;have Lkp6:=Ls kp6;have Lkp2:=Ls kp2;refine ZR (fun _ _ v=>v= .slice sa9 n n) [1,0,0,1,2,0,0,5,0,0,6] ?_
     iterate 4 first|refine Zd ?_|refine Zv ?_
     (refine Zc ?_ (s:=by intro wq hSq;exact(clipSgs_c _ _ _ HCL.out).mono (fun e w' h=>⟨_,h.1,rfl,by rw[h.2];exact Mod.refl _ _⟩));rintro _ hC;subst hC;try simp only[zL])
     iterate 2 refine Zv ?_
     refine Zi fun w6 hr=> ?_;replace kp7:=hr.q kp7;replace kp6:=hr.q kp6;replace kp2:=hr.q kp2;have m56:=hr.mod;have HM6:=Hi (HM5.out.trans m56);have HSO6:=Hi (HNW.out.mod0 m56);have HV6:=Hi (HV5.out.mod m56 (fun _ _ _ h=>h));clear hr m56;refine ZS ?_;refine ZM kp6 fun wn kp6 mS=> ?_;replace kp6:wn.heap[p6]? =some (.cells (rgx sa n sc m la nL lc) 200 (0,0)):=by
      rw[kp6]
      first|rw[rgx_m]|(simp[rgx_m,rgx_size];done)
     have HM7:=Hi (HM6.out.then mS (fun i hi e=>by omega));have HSO7:=Hi (HSO6.out.mod mS (fun g hg e=>by have:=(HSO6.out.lt g hg).1;omega));have HV7:=Hi (HV6.out.mod mS (fun g hg _ e=>by have:=HSZ.out;omega));replace kp2:=mS.at_ne kp2 (by omega);clear mS;refine Ze ?_;refine Ze ?_;refine Zz ?_;refine ZS ?_;refine ZN kp6 fun wn kp6 mS=> ?_;replace kp6:wn.heap[p6]? =some (.cells (rgx sa9 n n m la nL lc) 200 (0,0)):=by
      rw[kp6,rgx_s]
     have HM8:=Hi (HM7.out.then mS (fun i hi e=>by omega));have HSO8:=Hi (HSO7.out.mod mS (fun g hg e=>by have:=(HSO7.out.lt g hg).1;omega));have HV8:=Hi (HV7.out.mod mS (fun g hg _ e=>by have:=HSZ.out;omega));replace kp2:=mS.at_ne kp2 (by omega);clear mS kp7;obtain⟨w8,rfl⟩:∃w8:World,w8=wn:=⟨_,rfl⟩;obtain⟨d,hd0⟩:∃d,ll-nL=d:=⟨_,rfl⟩;obtain⟨kk,hkk⟩:∃kk,d+k1=kk:=⟨_,rfl⟩;have hll9:=HL.out.2.2.2.1;have hll8:=HLL.out;have hnl8:=HNL.out;have hlm8:=HLn.out;have hk18:=HK1.out;have hdw:IntKind.i64.wrap ((ll:Int)-(nL:Int))=(d:Int):=by rw[IntKind.wrap_i64];omega
     have hkw:IntKind.i64.wrap ((d:Int)+(k1:Int))=(kk:Int):=by rw[IntKind.wrap_i64];omega
     have HKK:Hid (l.length-L.length+k1=kk∧kk≤l.length):=Hi ⟨by omega,by omega⟩;have nW:¬(fun i=>i=p2) p6:=by simp only;omega
     clear hll9 hll8 hnl8 hlm8 hk18 hd0 hkk;go_upto_region 14 with fail;have Lkp6:=Ls kp6;refine wp_gpass (T0:=fun i=>i=p2) (K:=fun T w=>T p2∧w.heap[p2]? =some (.cells zTc 35 (0,0))) (κ:=fun i=>[0,0,0,0,0,0,0,0,0,0,6,0,0].getD i 0) (υ:=fun _=>[]) [0,1,2,3,4,5,6,7,8,9,10,11,12] (by kernel_rfl) (by kernel_rfl) (Good.at p2 (.cells zTc 35 (0,0))).cl (⟨rfl,kp2⟩) (fun i hi=>by subst hi;exact Ls kp2) ?_;have gK:=Good.at p2 (.cells zTc 35 (0,0));refine Zg ?_;(refine TG.load (v:= ?v53) (p:= ?p53) (by simp only[zK];rfl) rfl (by rfl) rfl ?hx53 (fun wq hSq=> ?y53) ?n53;(case hx53=>simp only[zM];try rfl);(case y53=>(have kp6q:=hSq.at kp6 (by intro hT;first|exact hT|exact absurd hT (by assumption)|omega|(simp only at hT;omega));go_simp;(try with_reducible rfl)));try simp only[zL])
     iterate 3 refine Zg ?_
     (refine TG.load (v:= ?v57) (p:= ?p57) (by simp only[zK];rfl) rfl (by rfl) rfl ?hx57 (fun wq hSq=> ?y57) ?n57;(case hx57=>simp only[zM];try rfl);(case y57=>(have kp6q:=hSq.at kp6 (by intro hT;first|exact hT|exact absurd hT (by assumption)|omega|(simp only at hT;omega));go_simp;(try with_reducible rfl)));try simp only[zL])
     iterate 4 refine Zg ?_
     (refine TG.storeO (X:= ?X62) (Y:= ?Y62) (fun T w=>T p2∧w.heap[p2]? =some (.cells (tcx sa9 n n m) 35 (0,0))) (Good.at p2 (.cells (tcx sa9 n n m) 35 (0,0))) (by simp only[zK];rfl) rfl (by rfl) rfl rfl ?hx62 ?hz62 (fun T wq kq=> ?y62) (fun _=> ?n62);(case hx62=>simp only[zM];try rfl);(case hz62=>simp only[zM];try rfl);(case y62=>(obtain⟨k1,k2⟩:=kq;refine⟨setBlock wq p2 (.cells (tcx sa9 n n m) 35 (0,0)),?_,(mod_set wq p2 _).mono (fun i _ e=>by rw[e];exact k1),k1,heap_setBlock wq _ (Ls k2)⟩;exact run_store_box k2 (by rw[tcx_size sa9 n n m];kernel_rfl) (by rw[tcx_size sa9 n n m,zTc_size]) (tcx_one sa9 n n m)));replace gK:=(Good.at p2 (.cells (tcx sa9 n n m) 35 (0,0)));try simp only[zL])
     iterate 2 refine Zg ?_
     refine TG.nil (fun w9 ⟨TR,hr⟩=> ?_);replace kp6:=hr.mod.at kp6 (by intro hT;first|exact hT|exact absurd hT (by assumption)|omega|(simp only at hT;omega));clear gK;have HF:Hid (w9.heap[p2]? =some (.cells (tcx sa9 n n m) 35 (0,0))∧Mod (fun i=>i=p2) w8 w9):=Hi ⟨hr.k.2,hr.mod⟩;clear hr kp2;go_wp2_with fail;refine bodyPost_ret (results_ctt rfl rfl (ldTcx HF.out.1)) rfl ?_;unfold PgetP;rw[HE.out,HKK.out.1];have hb:w.heap.size≤p6+1:=by omega
     have hb2:w.heap.size≤wr.heap.size:=by have:=HSZ.out;omega
     refine⟨HM8.out.then HF.out.2 (fun i hi e=>by omega),_,rfl,⟨sa9,m,by rw[HSi.out],?_,?_⟩,HKK.out.2⟩
     ·rw[HSi.out];exact(HSO8.out.mod HF.out.2 (fun g hg e=>by have:=(HSO8.out.lt g hg).1;omega)).base hb
     ·exact(HV8.out.mod HF.out.2 (fun g hg _ e=>by have:=HSZ.out;omega)).base hb2
 ·have HE:Hid (pTx l= .error er):=Hi (by
   unfold pTx;rw[HG.out];simp only;rw[if_neg he])
  have hne:((er:Int) !=0)=true:=by simpa using he
  go_upto_region 3 with fail;have Lkp2:=Ls kp2;refine ZP0 [0,0,5,0,0] ?_;refine Zu hb ?_;refine Zv ?_;refine Zi fun w6 hr=> ?_;replace kp2:=hr.q kp2;have HM6:=Hi (HM2.out.then0 hr.mod);clear hr;refine ZS ?_;refine ZM kp2 fun wn kp2 mS=> ?_;have HM7:=Hi (HM6.out.then mS (fun i hi e=>by omega));clear mS;refine Ze ?_;refine Ze ?_;refine TE.nil ?_;go_wp2_with fail;refine bodyPost_ret (results_ctt rfl rfl (ldTcZ kp2)) rfl ?_;unfold PgetP;rw[HE.out];exact⟨HM7.out,rfl⟩
end
section
attribute [local go_sem↓] wlMsg ldMsg stMsg wlRg ldRg stRg wlTc ldTc stTc ldSg stSg
attribute [local go_sem] mgx_size mgx_ext mgx_one mgx_one0 zMsg_size zMsg_all zMsg_all0
def inP (r:InR):InP:=⟨r.p,r.a.l,r.d.l⟩
def loP (r:LoR):LoP:=⟨r.t,r.w.l,r.r.l⟩
def msgP (x:RdR):MsP:=⟨x.v0,x.h0,x.h1,x.h2,x.ks.l,x.rc,x.ins.l.map inP,x.lks.l.map loP⟩
def txP (x:RdR):TxP:=⟨x.sg.l,msgP x⟩
def TxO (b:Nat) (w:World) (x:RdR):Prop:=NewS sgc 64 101 b w (.slice x.sg.a x.sg.l.length x.sg.c) x.sg.l∧NewS kc 32 82 b w (.slice x.ks.a x.ks.l.length x.ks.c) x.ks.l∧
 NewS inr 3 125 b w (.slice x.ins.a x.ins.l.length x.ins.c) x.ins.l∧InsOk b w x.ins.l (x.ins.l.map inP)∧NewS lor 34 121 b w (.slice x.lks.a x.lks.l.length x.lks.c) x.lks.l∧LosOk b w x.lks.l (x.lks.l.map loP)∧∀g∈insB x.ins.l,∀h∈losB x.lks.l,g<h
theorem ins_map {b:Nat} {w:World} {L:List InR} {xs:List InP} (h:All2 (In1 b w) L xs):xs=L.map inP:=by
 induction h with
 |nil=>rfl
 | @cons r x l m hx _ ih=>
  rw[List.map_cons,←ih];obtain⟨p,a,d⟩:=x;obtain⟨h1,h2,h3,_⟩:=hx;simp only at h1 h2 h3;rw[inP,h1,h2,h3]
theorem los_map {b:Nat} {w:World} {L:List LoR} {xs:List LoP} (h:All2 (Lo1 b w) L xs):xs=L.map loP:=by
 induction h with
 |nil=>rfl
 | @cons r x l m hx _ ih=>
  rw[List.map_cons,←ih];obtain⟨p,a,d⟩:=x;obtain⟨h1,h2,h3,_⟩:=hx;simp only at h1 h2 h3;rw[loP,h1,h2,h3]
theorem VTx.toO {b:Nat} {w:World} {v:Value} {x:TxP} (h:VTx b w v x):∃r:RdR,v= .agg (txr r)∧txP r=x∧TxO b w r:=by
 obtain⟨sa,m,rfl,h1,ka,ia,la,L,M,hm,h2,h3,h4,h5,h6,h7⟩:=h;obtain⟨sg,v0,q0,q1,q2,ks,rc,ins,lks⟩:=x;simp only at h1 h2 h3 h4 h5 h6 h7 hm;obtain rfl:=ins_map h4.1;obtain rfl:=los_map h6.1;refine⟨⟨⟨none,[],0⟩,⟨sa,sg,sg.length⟩,v0,q0,q1,q2,⟨ka,ks,ks.length⟩,rc,⟨ia,L,L.length⟩,⟨la,M,M.length⟩,⟨none,[],0⟩,0,0,0,0,0,0⟩,?_,rfl,h1,h2,h3,h4,h5,h6,h7⟩;have hm2:mcx m=mgx v0 q0 q1 q2 ka ks.length ks.length rc ia L.length L.length la M.length M.length:=by injection hm
 have e1:(tcx sa sg.length sg.length m).toList= .slice sa sg.length sg.length::(mcx m).toList:=rfl;congr 1;apply Array.toList_inj.1;rw[e1,hm2];rfl
theorem NewS.ty {α:Type} {f:α→Array Value} {n:Nat} {E:TypeId} {base:Nat} {w:World} {v:Value} {l:List α} (h:NewS f n E base w v l) {g:Nat} (hg:v.ownBlock=some g):∃cur,w.heap[g]? =some (.cells cur E (0,0)):=by
 rcases h with⟨rfl,_⟩|⟨g',cur,rfl,_,hk,_⟩
 ·cases hg
 ·cases hg;exact⟨cur,hk⟩
def Apt (w:World) (S:Nat→Prop) (b:Nat):Prop:=∀g C E,b≤g→w.heap[g]? =some (.cells C E (0,0))→(E=101∨E=82∨E=125∨E=121∨E=5)→¬S g
theorem Apt.below {w:World} {S:Nat→Prop} {b:Nat} (h:∀i,S i→i<b):Apt w S b:=fun g _ _ hb _ _ hs=>by
 have:=h g hs;omega
theorem Apt.old {w:World} {S:Nat→Prop} {b:Nat} (h:∀i,S i→w.heap.size≤i):Apt w S b:=fun g _ _ _ hk _ hs=>by
 have:=h g hs;have:=Ls hk;omega
theorem TxO.mod {b:Nat} {w w':World} {x:RdR} {S:Nat→Prop} (h:TxO b w x) (hm:Mod S w w') (hS:Apt w S b):TxO b w' x:=by
 obtain⟨h1,h2,h3,h4,h5,h6,h7⟩:=h;exact⟨h1.mod hm (fun g hg=>by obtain⟨C,hk⟩:=h1.ty hg;exact hS g C _ (h1.lt g hg).1 hk (.inl rfl)),
  h2.mod hm (fun g hg=>by obtain⟨C,hk⟩:=h2.ty hg;exact hS g C _ (h2.lt g hg).1 hk (.inr (.inl rfl))),
  h3.mod hm (fun g hg=>by obtain⟨C,hk⟩:=h3.ty hg;exact hS g C _ (h3.lt g hg).1 hk (.inr (.inr (.inl rfl)))),
  h4.mod hm (fun g hb _ ⟨C,hk⟩=>hS g C _ hb hk (.inr (.inr (.inr (.inr rfl))))),
  h5.mod hm (fun g hg=>by obtain⟨C,hk⟩:=h5.ty hg;exact hS g C _ (h5.lt g hg).1 hk (.inr (.inr (.inr (.inl rfl))))),
  h6.mod hm (fun g hb _ ⟨C,hk⟩=>hS g C _ hb hk (.inr (.inr (.inr (.inr rfl))))),h7⟩
theorem TxO.mod0 {b:Nat} {w w':World} {x:RdR} (h:TxO b w x) (hm:Mod (fun _=>False) w w'):TxO b w' x:=h.mod hm (Apt.below (fun _ h=>h.elim))
theorem TxO.base {b b':Nat} {w:World} {x:RdR} (h:TxO b w x) (hb:b'≤b):TxO b' w x:=by
 obtain⟨h1,h2,h3,h4,h5,h6,h7⟩:=h;exact⟨h1.base hb,h2.base hb,h3.base hb,h4.base hb,h5.base hb,h6.base hb,h7⟩
def blk (x:RdR):List Nat:=(Value.slice x.sg.a x.sg.l.length x.sg.c).ownBlock.toList++((Value.slice x.ks.a x.ks.l.length x.ks.c).ownBlock.toList++(insB x.ins.l++losB x.lks.l))
theorem TxO.blk {b:Nat} {w:World} {x:RdR} (h:TxO b w x):∀g∈blk x,b≤g∧g<w.heap.size:=by
 obtain⟨h1,h2,h3,h4,h5,h6,h7⟩:=h;intro g hg;simp only[Go.Proofs.YtiaehkkkcaeaiaaGreatDoor.blk,List.mem_append,Option.mem_toList]at hg;rcases hg with hg|hg|hg|hg
 ·exact h1.lt g hg
 ·exact h2.lt g hg
 ·exact⟨(h4.2.2 g hg).1,(h4.2.2 g hg).2.1⟩
 ·exact⟨(h6.2.2 g hg).1,(h6.2.2 g hg).2.1⟩
end
def PO {α:Type} (n:Nat) (P:α→Prop) (r:PR α):Prop:=∀x k,r= .ok (x,k)→k≤n∧P x
theorem PO.err {α:Type} {n:Nat} {P:α→Prop} {e:Nat}:PO n P (.error e:PR α):=fun _ _ h=>by cases h
theorem PO.ok {α:Type} {n k:Nat} {P:α→Prop} {x:α} (hk:k≤n) (hx:P x):PO n P (.ok (x,k):PR α):=fun _ _ h=>by
 cases h;exact⟨hk,hx⟩
theorem PO.bind {α β:Type} {n:Nat} {P:α→Prop} {R:β→Prop} {r:PR α} {f:α→Nat→PR β} (h:PO n P r) (hf:∀x k,k≤n→P x→PO n R (f x k)):PO n R (pBind r f):=by
 cases hr:r with
 |error e=>exact PO.err
 |ok y=>exact hf y.1 y.2 (h _ _ hr).1 (h _ _ hr).2
theorem PO.byte {l:List UInt8} {k:Nat}:PO l.length (fun _=>True) (pByte l k):=by
 unfold pByte;split
 ·rename_i c h;have:=(List.getElem?_eq_some_iff.1 h).1;exact PO.ok (by omega) trivial
 ·exact PO.err
theorem PO.short {l:List UInt8} {k:Nat} (hk:k≤l.length):PO l.length (fun n=>n≤65535) (pShort l k):=fun n k1 h=>by
 have:=pShort_fit h hk;exact⟨this.2.1,this.1⟩
theorem PO.bytes {l:List UInt8} {k n:Nat}:PO l.length (fun x=>x.length≤n) (pBytes l k n):=by
 unfold pBytes;split
 ·exact PO.ok (by assumption) (by rw[List.length_take];omega)
 ·exact PO.err
theorem PO.list {l:List UInt8} {k:Nat} (hk:k≤l.length):PO l.length (fun x=>x.length≤65535) (pList l k):=by
 unfold pList;split
 ·rename_i n k1 h;have h1:=(PO.short hk _ _ h).2;intro x k2 h2;have h3:=PO.bytes _ _ h2;exact⟨h3.1,Nat.le_trans h3.2 h1⟩
 ·exact PO.err
theorem PO.key {l:List UInt8} {k:Nat}:PO l.length (fun _=>True) (pKey l k):=by
 unfold pKey;split
 ·exact PO.ok (by assumption) trivial
 ·exact PO.err
def InB (x:InP):Prop:=x.a.length≤65535∧x.d.length≤65535
def LoB (x:LoP):Prop:=x.w.length≤65535∧x.r.length≤65535
theorem PO.instr {l:List UInt8} {k:Nat}:PO l.length InB (pInstr l k):=by
 unfold pInstr;split
 ·exact PO.err
 ·rename_i q k1 h1;have b1:=(PO.byte _ _ h1).1;split
  ·exact PO.err
  ·rename_i x k2 h2;have b2:=PO.list b1 _ _ h2;split
   ·exact PO.err
   ·rename_i y k3 h3;have b3:=PO.list b2.1 _ _ h3;exact PO.ok b3.1 ⟨b2.2,b3.2⟩
theorem PO.look {l:List UInt8} {k:Nat}:PO l.length LoB (pLook l k):=by
 unfold pLook;split
 ·exact PO.err
 ·rename_i q k1 h1;have b1:=(PO.key _ _ h1).1;split
  ·exact PO.err
  ·rename_i x k2 h2;have b2:=PO.list b1 _ _ h2;split
   ·exact PO.err
   ·rename_i y k3 h3;have b3:=PO.list b2.1 _ _ h3;exact PO.ok b3.1 ⟨b2.2,b3.2⟩
theorem PO.rep {α:Type} {l:List UInt8} {P:α→Prop} {one:Nat→PR α} (h:∀k,k≤l.length→PO l.length P (one k)):∀n k,k≤l.length→PO l.length (fun xs=>xs.length=n∧∀x∈xs,P x) (pRep one n k)
 |0,k,hk=>PO.ok hk ⟨rfl,fun _ h=>by cases h⟩
 |n+1,k,hk=>by
  rw[pRep];split
  ·exact PO.err
  ·rename_i x k1 h1;have b1:=h k hk _ _ h1;split
   ·exact PO.err
   ·rename_i xs k2 h2;have b2:=PO.rep h n k1 b1.1 _ _ h2;refine PO.ok b2.1 ⟨by rw[List.length_cons,b2.2.1],fun y hy=> ?_⟩;rcases List.mem_cons.1 hy with rfl|hy
    ·exact b1.2
    ·exact b2.2.2 y hy
theorem PO.all {α:Type} {l:List UInt8} {P:α→Prop} {one:Nat→PR α} (h:∀k,k≤l.length→PO l.length P (one k)) {k:Nat} (hk:k≤l.length):PO l.length (fun xs=>xs.length≤65535∧∀x∈xs,P x) (pAll one l k):=by
 unfold pAll;split
 ·exact PO.err
 ·rename_i n k1 h1;have b1:=PO.short hk _ _ h1;intro xs k2 h2;have b2:=PO.rep h n k1 b1.1 _ _ h2;exact⟨b2.1,by rw[b2.2.1];exact b1.2,b2.2.2⟩
def MsB (m:MsP):Prop:=m.ks.length≤65535∧(m.ins.length≤65535∧∀x∈m.ins,InB x)∧(m.lks.length≤65535∧∀x∈m.lks,LoB x)
theorem PO.msg {l:List UInt8} {k:Nat}:PO l.length MsB (pMsg l k):=by
 refine PO.byte.bind fun c k1 h1 _=> ?_;split
 ·exact PO.err
 ·refine PO.bind (P:=fun _=>True) ?_ fun h0 k2 b2 _=>PO.byte.bind fun h1 k3 b3 _=>PO.byte.bind fun h2 k4 b4 _=>(PO.all (fun _ _=>PO.key) b4).bind fun ks k5 b5 c5=>PO.key.bind fun rc k6 b6 _=>(PO.all (fun _ _=>PO.instr) b6).bind fun ins k7 b7 c7=>
   PO.bind (P:=fun xs=>xs.length≤65535∧∀x∈xs,LoB x) ?_ fun lks k8 b8 c8=>PO.ok b8 ⟨c5.1,c7,c8⟩
  ·split
   ·exact PO.byte
   ·exact PO.ok h1 trivial
  ·split
   ·exact PO.all (fun _ _=>PO.look) b7
   ·exact PO.ok b7 ⟨Nat.zero_le _,fun _ h=>by cases h⟩
def TxB (x:TxP):Prop:=x.sg.length≤65535∧MsB x.m
theorem PO.tx {l:List UInt8}:PO l.length TxB (pTx l):=by
 unfold pTx;split
 ·rename_i h0;have hf:=gsh_fit l 0 0 (by decide) (by omega) h0;split
  ·exact PO.err
  ·rename_i S R hS;have h2:=takeS_len hS;rw[List.length_drop]at h2;intro x k h;cases h3:pMsg R 0 with
   |error e=>rw[pBind_err h3]at h;cases h
   |ok y=>
    rw[pBind_ok h3]at h;cases h;have:=PO.msg _ _ h3;exact⟨by omega,by show S.length≤_;omega,this.2⟩
 ·exact PO.err
def sat (a b:UInt64):UInt64:=if a.toNat+b.toNat<18446744073709551616 then a+b else 18446744073709551615
section
attribute [local go_sem↓] ldSg stSg wlTc ldTc stTc eqKey1
attribute [local go_sem] sgc_size sgc_ext sgc_one0 sgc_one' txr_size txr_all txr_one txr_one' txr0 txr38 txr39 txr0' txr38' txr39' zTx_size
theorem hmf (fn:Fn) (first cap:Array Value) (w:World):(Instr.makeFunc fn first cap).run Tryz.prog w= .ok (.func fn first cap) w:=rfl
theorem addLaid (x y:Nat) (hx:x<18446744073709551616) (hy:y<18446744073709551616) (w:World):(callFunc 119 #[.int .u64 (x:Int),.int .u64 (y:Int),.int .u64 0]).run Tryz.prog w=
   .ok (.value (.tuple #[.int .u64 (((x+y) % 18446744073709551616:Nat):Int),.int .u64 (((x+y)/18446744073709551616:Nat):Int)])) w:=by
 rw[run_callFunc_extern Tryz.func119 (by kernel_rfl) (by kernel_rfl) (by kernel_rfl) (e:=add64Entry) (by kernel_rfl),run_add64 x y 0 (by omega) (by omega) (by omega) (by omega)];simp only[Result.andThen];congr 5<;>omega
theorem addL0 (x:UInt64) (w:World):(callFunc 119 #[.int .u64 0,u64v x,.int .u64 0]).run Tryz.prog w= .ok (.value (.tuple #[u64v x,.int .u64 0])) w:=by
 have h:=addLaid 0 x.toNat (by omega) x.toNat_lt w;have hx:=x.toNat_lt;rw[Nat.zero_add,Nat.mod_eq_of_lt hx,Nat.div_eq_of_lt hx]at h;exact h
theorem addL2 (x y:UInt64) (w:World):(callFunc 119 #[u64v x,u64v y,.int .u64 0]).run Tryz.prog w= .ok (.value (.tuple #[u64v (x+y),.int .u64 (if 18446744073709551616≤x.toNat+y.toNat then 1 else 0)])) w:=by
 have h:=addLaid x.toNat y.toNat x.toNat_lt y.toNat_lt w;have hx:=x.toNat_lt;have hy:=y.toNat_lt;refine h.trans ?_;rw[u64v,UInt64.toNat_add];by_cases hc:18446744073709551616≤x.toNat+y.toNat
 ·rw[if_pos hc,show(x.toNat+y.toNat)/18446744073709551616=1 by omega];rfl
 ·rw[if_neg hc,show(x.toNat+y.toNat)/18446744073709551616=0 by omega];rfl
theorem sat_over {a b:UInt64} (h:18446744073709551616≤a.toNat+b.toNat):u64v (sat a b)= .int .u64 18446744073709551615:=by
 unfold sat;rw[if_neg (by omega)];rfl
theorem sat_in {a b:UInt64} (h:¬18446744073709551616≤a.toNat+b.toNat):sat a b=a+b:=by
 unfold sat;rw[if_pos (by omega)]
theorem or_zero (a:UInt64):bits .or .u64 (a.toNat:Int) 0=(a.toNat:Int):=by
 have h:=bits_or_u64_nat a.toNat 0 a.toNat_lt (by omega);rw[Nat.or_zero]at h;exact h
theorem or_max (a:UInt64):bits .or .u64 (a.toNat:Int) 18446744073709551615=18446744073709551615:=by
 have h:=bits_or_u64_nat a.toNat 18446744073709551615 a.toNat_lt (by omega);have e:a.toNat|||18446744073709551615=18446744073709551615:=by
  have ha:=a.toNat_lt;apply Nat.eq_of_testBit_eq;intro i;rw[Nat.testBit_or];have h1:(18446744073709551615:Nat).testBit i=decide (i<64):=Nat.testBit_two_pow_sub_one 64 i;rw[h1];by_cases hi:i<64
  ·simp[hi]
  ·have:a.toNat.testBit i=false:=Nat.testBit_lt_two_pow (Nat.lt_of_lt_of_le ha (Nat.pow_le_pow_right (by omega) (by omega)));simp[hi,this]
 rw[e]at h;exact h
theorem adds_cast (a x:UInt64):((a.toNat:Int)+(x.toNat:Int)) % 18446744073709551616=((a+x).toNat:Int):=by
 rw[UInt64.toNat_add];omega
theorem alU64 (w:World):(Instr.alloc 37 true (.tuple #[])).run Tryz.prog w= .ok (.pointer (some ⟨w.heap.size,0,none⟩)) (w.alloc (.cells #[.int .u64 0] 37)):=by kernel_rfl
theorem setBlk (w:World) {p:Nat} {o o':Obj} (h:w.heap[p]? =some o):(setBlock w p o').heap[p]? =some o':=heap_setBlock w o' (Ls h)
theorem wsum1_c (p:Nat) (a x:UInt64) (w:World) (kp:w.heap[p]? =some (.cells #[u64v a] 37 (0,0))):Calls Tryz.prog 118 #[u64v x,pV p] w fun e w'=>e= .returned (.tuple #[])∧w'.heap[p]? =some (.cells #[u64v (sat a x)] 37 (0,0))∧Mod (fun i=>i=p) w w':=by
 have h2:=addL2 a x;have ho:=or_zero (a+x);have hm:=or_max (a+x);go_enter Tryz.func118,Tryz.ntmps118;by_cases hc:18446744073709551616≤a.toNat+x.toNat
 ·have HC:=Hi (sat_over hc);simp only[if_pos hc]at h2;clear hc ho;have HM:=Hi hm;clear hm;go_wp2_with (simp only[h2]);go_end0;rw[setCell_blk kp];refine⟨rfl,?_,mod_set _ _ _⟩;rw[setBlk w kp,HC.out,adds_cast a x,show IntKind.u64.wrap (-1)=18446744073709551615 from rfl,HM.out];rfl
 ·have HC:=Hi (sat_in hc);simp only[if_neg hc]at h2;clear hc hm;have HO:=Hi ho;clear ho;go_wp2_with (simp only[h2]);go_end0;rw[setCell_blk kp];refine⟨rfl,?_,mod_set _ _ _⟩;rw[setBlk w kp,HC.out,adds_cast a x,HO.out];rfl
theorem sat_zero (x:UInt64):sat 0 x=x:=by
 have h:=x.toNat_lt;rw[sat_in (by show¬18446744073709551616≤0+x.toNat;omega),UInt64.zero_add]
theorem wsum_c (g:Nat) (a b:UInt64) (w:World) (kg:w.heap[g]? =some (.cells #[u64v a,u64v b] 37 (0,0))):Calls Tryz.prog 78 #[.slice (some ⟨g,0,none⟩) 2 2] w fun e w'=>e= .returned (u64v (sat a b))∧Mod (fun _=>False) w w':=by
 have hmf:=hmf;go_enter Tryz.func78,Tryz.ntmps78;go_upto_region 1 with fail;have Lkg:=Ls kg;refine ZP0 [3,4] ?_;refine Za alU64 fun p3 hp3=> ?_;refine Zt ?_;refine TD.nil (fun w1 hr=> ?_);replace kg:=hr.q kg;obtain⟨gp3,kp3⟩:=hr.b p3;have m1:=hr.mod;clear hr;have hgp:g≠p3:=by omega
 have KG:=Hi kg;clear kg;go_wp2_with fail;go_loopw [10] (fun s10 ws=>∃i:Nat,i≤2∧s10= .int .i64 (i:Int)∧ws.heap[p3]? =some (.cells #[u64v (if i=0 then 0 else if i=1 then a else sat a b)] 37 (0,0))∧Mod (fun i=>i=p3) w1 ws) (fun s10 _=>2-(intOf s10).toNat)
 case atStart=>exact⟨0,by omega,rfl,kp3,Mod.refl _ _⟩
 case round=>
  obtain⟨i,hi,rfl,kp,hm⟩:=hrel;have kg:=hm.at_ne KG.out hgp;clear kp3;rcases(by omega:i=0∨i=1∨i=2)with rfl|rfl|rfl
  ·simp only[if_true]at kp;have KP:=Hi kp;go_wp2_with fail;refine(wsum1_c p3 0 a _ KP.out).mono ?_;rintro e w3 ⟨rfl,k3,m3⟩;rw[sat_zero]at k3;have m3:=hm.trans m3;clear kp kg;go_wp2_with fail;go_roundw
   case rel=>exact⟨1,by omega,by go_num,by simpa using k3,m3⟩
   case measure=>simp[intOf]
  ·simp only[Nat.one_ne_zero,if_false,if_true]at kp;have KP:=Hi kp;go_wp2_with fail;refine(wsum1_c p3 a b _ KP.out).mono ?_;rintro e w3 ⟨rfl,k3,m3⟩;have m3:=hm.trans m3;clear kp kg;go_wp2_with fail;go_roundw
   case rel=>exact⟨2,by omega,by go_num,by simpa using k3,m3⟩
   case measure=>simp[intOf]
  ·simp only[show¬(2:Nat)=0 by omega,show¬(2:Nat)=1 by omega,if_false]at kp;clear kg;go_wp2_with fail;go_ret;exact⟨rfl,m1.thenB hm (.inl gp3)⟩
end
section
attribute [local go_sem↓] ldSg stSg wlTc ldTc stTc eqKey1
attribute [local go_sem] sgc_size sgc_ext sgc_one0 sgc_one' txr_size txr_all txr_one txr_one' txr0 txr38 txr39 txr0' txr38' txr39' zTx_size
theorem mul64_c (x y:Nat) (hx:x<18446744073709551616) (hy:y<18446744073709551616) (w:World):
  Calls Tryz.prog 133 #[.int .u64 x,.int .u64 y] w fun e w'=>e= .returned (.tuple #[.int .u64 ((x*y/18446744073709551616:Nat):Int),.int .u64 ((x*y % 18446744073709551616:Nat):Int)])∧w'=w:=by
 obtain⟨bd,bt,bw,hhi⟩:=Lib.mul64_hi x y hx hy;have ba:=Lib.half_mul_le (a:=x/4294967296) (b:=y/4294967296) (by omega) (by omega);have bb:=Lib.half_mul_le (a:=x/4294967296) (b:=y % 4294967296) (by omega) (by omega);have bc:=Lib.half_mul_le (a:=x % 4294967296) (b:=y/4294967296) (by omega) (by omega);have ba':x/4294967296*(y/4294967296)<18446744073709551616:=by omega
 have bb':x/4294967296*(y % 4294967296)<18446744073709551616:=by omega
 have bc':x % 4294967296*(y/4294967296)<18446744073709551616:=by omega
 have bh1:x/4294967296*(y/4294967296)+(x/4294967296*(y % 4294967296)+x % 4294967296*(y % 4294967296)/4294967296)/4294967296<18446744073709551616:=by omega
 have bh:x/4294967296*(y/4294967296)+(x/4294967296*(y % 4294967296)+x % 4294967296*(y % 4294967296)/4294967296)/4294967296+((x/4294967296*(y % 4294967296)+x % 4294967296*(y % 4294967296)/4294967296) % 4294967296+x % 4294967296*(y/4294967296))/4294967296<18446744073709551616:=by omega
 go_enter Tryz.func133,Tryz.ntmps133
 go_wp2
 simp only[Mul64.maskN x hx,Mul64.maskN y hy,Mul64.divN,Mul64.mulN,Mul64.addN,Mul64.wrapN _ bd,Mul64.wrapN _ bb',Mul64.wrapN _ bt,Mul64.maskN _ bt,Mul64.wrapN _ bc',Mul64.wrapN _ bw,Mul64.wrapN _ ba',Mul64.wrapN _ bh1,Mul64.wrapN _ bh,Mul64.wrapM (x*y)];rw[hhi]
 go_ret2
 exact⟨rfl,rfl⟩
theorem mul_c (x y:UInt64) (w:World):Calls Tryz.prog 120 #[u64v x,u64v y] w fun e w'=>e= .returned (.tuple #[.int .u64 ((x.toNat*y.toNat/18446744073709551616:Nat):Int),.int .u64 ((x.toNat*y.toNat % 18446744073709551616:Nat):Int)])∧w'=w:=by
 have H:=mul64_c x.toNat y.toNat x.toNat_lt y.toNat_lt;generalize x.toNat*y.toNat/18446744073709551616=hi at *;generalize x.toNat*y.toNat % 18446744073709551616=lo at *;have HH:=Hi H;clear H;go_enter Tryz.func120,Tryz.ntmps120;go_wp2_with fail;go_at_call 133;refine(HH.out _).mono ?_;rintro e w2 ⟨rfl,rfl⟩;go_wp2_with fail
 go_ret2
 exact⟨rfl,rfl⟩
theorem div1_c (z:UInt64) (w:World):Calls Tryz.prog 121 #[.int .u64 0,u64v z,.int .u64 1] w fun e w'=>(∃r,e= .returned (.tuple #[u64v z,.int .u64 r]))∧Mod (fun _=>False) w w':=by
 have hw:IntKind.u64.wrap (z.toNat:Int)=(z.toNat:Int):=Mul64.wrapN _ z.toNat_lt;go_enter Tryz.func121,Tryz.ntmps121;go_upto_region 6 with fail;refine ZP [0,0,0,0,0,0,0,0] ?_
 iterate 8 refine Zv ?_
 refine TD.nil (fun w1 hr=> ?_);have m1:=hr.mod;go_wp2_with fail
 go_ret2
 exact⟨⟨_,rfl⟩,m1⟩
def tim (a b:UInt64):UInt64:=if a.toNat*b.toNat<18446744073709551616 then a*b else 18446744073709551615
theorem times1_c (a b:UInt64) (w:World):Calls Tryz.prog 80 #[u64v a,u64v b,.int .u64 1,.bool false] w fun e w'=>e= .returned (u64v (tim a b))∧Mod (fun _=>False) w w':=by
 by_cases hc:a.toNat*b.toNat<18446744073709551616
 ·have h1:a.toNat*b.toNat/18446744073709551616=0:=Nat.div_eq_of_lt hc;have h2:((a.toNat*b.toNat % 18446744073709551616:Nat):Int)=((tim a b).toNat:Int):=by
   unfold tim;rw[if_pos hc,UInt64.toNat_mul]
  have hT:=mul_c a b;rw[h1,h2]at hT;generalize tim a b=z at *;have HT:=Hi hT;clear hT h1 h2 hc;go_enter Tryz.func80,Tryz.ntmps80;go_wp2_with fail;go_at_call 120;refine(HT.out _).mono ?_;rintro e w2 ⟨rfl,rfl⟩;go_wp2_with fail;go_at_call 121;refine(div1_c z _).mono ?_;rintro e w3 ⟨⟨r,rfl⟩,m3⟩;go_wp2_with fail;go_ret;exact⟨rfl,m3⟩
 ·obtain⟨hi,hhi⟩:∃hi,a.toNat*b.toNat/18446744073709551616=hi:=⟨_,rfl⟩;obtain⟨lo,hlo⟩:∃lo,a.toNat*b.toNat % 18446744073709551616=lo:=⟨_,rfl⟩;have h2:u64v (tim a b)= .int .u64 18446744073709551615:=by
   unfold tim;rw[if_neg hc];rfl
  have hge:(1:Int)≤(hi:Int):=by
   have:=Nat.le_of_not_lt hc;omega
  have hT:=mul_c a b;rw[hhi,hlo]at hT;have HT:=Hi hT;have H2:=Hi h2;clear hT h2 hc hhi hlo;go_enter Tryz.func80,Tryz.ntmps80;go_wp2_with fail;go_at_call 120;refine(HT.out _).mono ?_;rintro e w2 ⟨rfl,rfl⟩;go_wp2_with fail;go_ret;exact⟨by rw[H2.out];rfl,Mod.refl _ _⟩
end
section
attribute [local go_sem↓] ldSg stSg wlTc ldTc stTc eqKey1
attribute [local go_sem] sgc_size sgc_ext sgc_one0 sgc_one' txr_size txr_all txr_one txr_one' txr0 txr38 txr39 txr0' txr38' txr39' zTx_size
def wholeP (b:List UInt8):Except Nat TxP:=if 1232<b.length then .error 3 else match pTx b with
 | .error e=> .error e
 | .ok (x,k)=>if k<b.length then .error 4 else .ok x
def totP (x:TxP):Nat:=x.m.ks.length+(x.m.lks.map (fun l=>l.w.length+l.r.length)).sum
def signedP (x:TxP):Bool:=decide (0<x.m.h0.toNat)&&decide (x.sg.length=x.m.h0.toNat)
def headedP (x:TxP):Bool:=decide (x.m.h1.toNat<x.m.h0.toNat)&&decide (x.m.h0.toNat+x.m.h2.toNat≤x.m.ks.length)
def lookedP (x:TxP):Bool:=x.m.lks.all (fun l=>decide (l.w.length+l.r.length≠0))
def fewP (x:TxP):Bool:=decide (totP x≤64)
def pointP (keys all:Nat) (i:InP):Bool:=decide (i.p.toNat≠0)&&decide (i.p.toNat<keys)&&i.a.all (fun c=>decide (c.toNat<all))
def pointedP (x:TxP):Bool:=x.m.ins.all (pointP x.m.ks.length (totP x))
def onceP (x:TxP):Bool:=decide x.m.ks.Nodup
def chkP (x:TxP):Nat:=if !signedP x then 6 else if !headedP x then 7 else if !lookedP x then 10 else if !fewP x then 3 else if !pointedP x then 8 else if !onceP x then 9 else 0
def wireP (b:List UInt8):Except Nat TxP:=match wholeP b with
 | .error e=> .error e
 | .ok x=>if chkP x=0 then .ok x else .error (chkP x)
abbrev TbL:=List (Key×List Key)
def tbFind (T:TbL) (k:Key):Option (List Key):=(T.find? (fun x=>decide (x.1=k))).map (·.2)
def tbPut (T:TbL) (k:Key) (l:List Key):TbL:=if l.length=0∨256<l.length then T else if(tbFind T k).isSome then T else T++[(k,l)]
def pickP (l:List Key):List UInt8→Option (List Key)
 |[]=>some []
 |i::is=>match l[i.toNat]? with
  |none=>none
  |some k=>(pickP l is).map (k::·)
def resP (T:TbL):List LoP→List Key×List Key→Except Nat (List Key×List Key)
 |[],o=> .ok o
 |x::xs,o=>match tbFind T x.t with
  |none=> .error 11
  |some l=>match pickP l x.w,pickP l x.r with
   |some a,some b=>resP T xs (o.1++a,o.2++b)
   |_,_=> .error 8
def keyB:Key:=⟨3::List.replicate 31 0,rfl⟩
def knownP (k:Key):Bool:=decide (k=key0)||decide (k=keyB)
def ownRP (m:MsP) (i:Nat) (k:Key):Role:=⟨k,decide (i<m.h0.toNat),if i<m.h0.toNat then decide (((i:Nat):Int)<(m.h0.toNat:Int)-m.h1.toNat)else decide (((i:Nat):Int)<(m.ks.length:Int)-m.h2.toNat)⟩
def rolesL (m:MsP) (ws rs:List Key):List Role:=(m.ks.mapIdx (ownRP m))++ws.map (fun k=>⟨k,false,true⟩)++rs.map (fun k=>⟨k,false,false⟩)
def rolesP (m:MsP) (ws rs:List Key):Except Nat (List Role):=if((rolesL m ws rs).map (·.k)).Nodup then .ok ((rolesL m ws rs).map (fun r=>⟨r.k,r.s,r.w&& !knownP r.k⟩))else .error 9
def coL (s n d u:UInt64):List UInt64:=[tim s 720,tim n 300,d/4,u]
def coF (s n d u:UInt64):UInt64:=(coL s n d u).foldl sat 0
def wrL (l:List Role):List Key:=(l.filter (·.w)).map (·.k)
def toldP (d:List UInt8):Option (Nat×UInt64):=if d.length=5∧d[0]? =some 2 then some (0,UInt64.ofNat (leV (d.drop 1)))else if d.length=9∧d[0]? =some 3 then some (1,UInt64.ofNat (leV (d.drop 1)))else none
def wordP (m:MsP) (i:InP):Bool:=match m.ks[i.p.toNat]? with
 |some k=>decide (k=keyB)
 |none=>false
structure BuP where
 n:Nat
 bad:Option Nat
 u:Option UInt64
 p:Option UInt64
def budStep (m:MsP) (s:BuP) (j:Nat) (i:InP):BuP:=if !wordP m i then{s with n:=s.n+1}else if s.bad.isSome then s else match toldP i.d with
 |none=> {s with bad:=some j}
 |some (0,v)=>if s.u.isSome then{s with bad:=some j}else{s with u:=some v}
 |some (_,v)=>if s.p.isSome then{s with bad:=some j}else{s with p:=some v}
def budL (m:MsP):BuP→Nat→List InP→BuP
 |s,_,[]=>s
 |s,j,i::l=>budL m (budStep m s j i) (j+1) l
def budP (m:MsP):BuP:=budL m ⟨0,none,none,none⟩ 0 m.ins
def BuP.units (s:BuP):UInt64:=if(s.u.getD (UInt64.ofNat s.n*200000)).toNat≤1400000 then s.u.getD (UInt64.ofNat s.n*200000)else 1400000
def BuP.price (s:BuP):UInt64:=s.p.getD 0
def BuP.badI (s:BuP):Int:=match s.bad with
 |some j=>(j:Int)
 |none=> -1
theorem budL_snoc {m:MsP}:∀ {l:List InP} {s:BuP} {j:Nat} {x:InP},budL m s j (l++[x])=budStep m (budL m s j l) (j+l.length) x
 |[],s,j,x=>rfl
 |y::l,s,j,x=>by
  rw[List.cons_append,budL,budL,budL_snoc,List.length_cons];congr 1;omega
def timG (a b d:UInt64) (up:Bool):UInt64:=if d.toNat≤a.toNat*b.toNat/18446744073709551616 then 18446744073709551615 else if up=true∧0<a.toNat*b.toNat % d.toNat then sat (UInt64.ofNat (a.toNat*b.toNat/d.toNat)) 1 else UInt64.ofNat (a.toNat*b.toNat/d.toNat)
def feeF (s u p:UInt64):UInt64:=sat (tim s 5000) (timG p u 1000000 true)
def priF (s u p c:UInt64):UInt64:=timG (sat (tim s 5000/2) (timG p u 1000000 true)) 1000000 (sat c 1) false
structure RyP where
 b:List UInt8
 x:TxP
 ro:List Role
 u:UInt64
 p:UInt64
 bad:Int
 fee:UInt64
 cost:UInt64
 pri:UInt64
def dSumP (l:List InP):UInt64:=l.foldl (fun d x=>d+UInt64.ofNat x.d.length) 0
def tellP (b:List UInt8) (x:TxP) (ro:List Role):RyP:=
 let u:=(budP x.m).units
 let p:=(budP x.m).price
 let s:=UInt64.ofNat x.sg.length
 let c:=coF s (UInt64.ofNat (wrL ro).length) (dSumP x.m.ins) u
 ⟨b,x,ro,u,p,(budP x.m).badI,feeF s u p,c,priF s u p c⟩
def readyP (T:TbL) (b:List UInt8):Except Nat RyP:=match wireP b with
 | .error e=> .error e
 | .ok x=>match resP T x.m.lks ([],[])with
  | .error e=> .error e
  | .ok (ws,rs)=>match rolesP x.m ws rs with
   | .error e=> .error e
   | .ok ro=> .ok (tellP b x ro)
end
section
attribute [local go_sem↓] ldSg stSg wlTc ldTc stTc eqKey1
attribute [local go_sem] sgc_size sgc_ext sgc_one0 sgc_one' txr_size txr_all txr_one txr_one' txr0 txr38 txr39 txr0' txr38' txr39' zTx_size
theorem bK0 (w:World):(Instr.build 82 #[]).run Tryz.prog w= .ok (.agg (kc key0)) w:=by kernel_rfl
theorem bKB (w:World):(Instr.build 82 #[(0,.int .u8 3)]).run Tryz.prog w= .ok (.agg (kc keyB)) w:=by kernel_rfl
theorem system_c (w:World):Calls Tryz.prog 122 #[] w fun e w'=>e= .returned (.agg (kc key0))∧Mod (fun _=>False) w w':=by
 have hb:=bK0;go_enter Tryz.func122,Tryz.ntmps122;go_upto_region 0 with fail;refine ZP0 [3] ?_;refine Za alKey fun p0 hp0=> ?_;refine TD.nil (fun w1 hr=> ?_);obtain⟨gp0,kp0⟩:=hr.b p0;have m1:=hr.mod;go_upto_region 1 with fail;have Lkp0:=Ls kp0;refine ZP0 [0,5] ?_;refine Zu hb ?_;refine Zi fun wE hr=> ?_;replace kp0:=hr.mod.at0 kp0;have mE:=hr.mod;refine ZS ?_;refine ZN kp0 fun w2 kp0 mS=> ?_;(try simp only[Array.setIfInBounds,zL]at kp0);have m2:=(m1.then0 mE).thenB mS (.inl gp0);clear hr mE mS;go_wp2_with fail;exact bodyPost_ret (results_cell1 (v:= .agg (kc key0)) rfl rfl (by rw[ldKey];simp[kp0,kc_size,kc_ext])) rfl ⟨rfl,m2⟩
theorem budgetK_c (w:World):Calls Tryz.prog 116 #[] w fun e w'=>e= .returned (.agg (kc keyB))∧Mod (fun _=>False) w w':=by
 have hb:=bKB;go_enter Tryz.func116,Tryz.ntmps116;go_upto_region 0 with fail;refine ZP0 [3] ?_;refine Za alKey fun p0 hp0=> ?_;refine TD.nil (fun w1 hr=> ?_);obtain⟨gp0,kp0⟩:=hr.b p0;have m1:=hr.mod;go_upto_region 1 with fail;have Lkp0:=Ls kp0;refine ZP0 [0,5] ?_;refine Zu hb ?_;refine Zi fun wE hr=> ?_;replace kp0:=hr.mod.at0 kp0;have mE:=hr.mod;refine ZS ?_;refine ZN kp0 fun w2 kp0 mS=> ?_;(try simp only[Array.setIfInBounds,zL]at kp0);have m2:=(m1.then0 mE).thenB mS (.inl gp0);clear hr mE mS;go_wp2_with fail;exact bodyPost_ret (results_cell1 (v:= .agg (kc keyB)) rfl rfl (by rw[ldKey];simp[kp0,kc_size,kc_ext])) rfl ⟨rfl,m2⟩
theorem known_c (k:Key) (w:World):Calls Tryz.prog 88 #[.agg (kc k)] w fun e w'=>e= .returned (.bool (knownP k))∧Mod (fun _=>False) w w':=by
 go_enter Tryz.func88,Tryz.ntmps88;go_upto_region 0 with fail;refine ZP0 [3,0] ?_;refine Zb fun p1 hp1=> ?_;refine Zv ?_;refine TD.nil (fun w1 hr=> ?_);obtain⟨gp1,kp1⟩:=hr.b p1;have m1:=hr.mod;clear hr;by_cases h0:k=key0
 ·have hd:=Dt h0;have HE:Hid (knownP k=true):=Hi (by unfold knownP;rw[hd];rfl);clear h0;go_upto_region 1 with fail;have Lkp1:=Ls kp1;refine ZR (fun _ _ v=>v= .agg (kc key0)) [1,2,0,0,1,0,0,0,0] ?_;refine Zd ?_;(refine Zc ?_ (s:=by intro wq hSq;exact(system_c wq).mono (fun e w' h=>⟨_,h.1,rfl,h.2⟩));rintro _ hC;subst hC;try simp only[zL])
  iterate 2 refine Zv ?_
  refine Zp ?_
  iterate 2 refine Zo ?_
  iterate 2 refine Zv ?_
  refine TD.nil (fun w2 hr=> ?_);replace kp1:=hr.q kp1;have m2:=m1.then0 hr.mod;clear hr;go_wp2_with fail;go_ret;exact⟨by rw[HE.out];rfl,m2⟩
 ·have hd:=Df h0;by_cases h1:k=keyB
  ·have hd1:=Dt h1;have HE:Hid (knownP k=true):=Hi (by unfold knownP;rw[hd,hd1];rfl);clear h0 h1;go_upto_region 1 with fail;have Lkp1:=Ls kp1;refine ZR (fun f _ v=>(f=122→v= .agg (kc key0))∧(f=116→v= .agg (kc keyB))) [1,2,0,0,1,2,0,0,0] ?_;refine Zd ?_;(refine Zc ?_ (s:=by intro wq hSq;exact(system_c wq).mono (fun e w' h=>⟨_,h.1,⟨fun _=>rfl,fun e=>(by simp at e)⟩,h.2⟩));rintro _ hC;obtain rfl:=hC.1 rfl;try simp only[zL])
   iterate 3 first|refine Zv ?_|refine Zd ?_
   (refine Zc ?_ (s:=by intro wq hSq;exact(budgetK_c wq).mono (fun e w' h=>⟨_,h.1,⟨fun e=>(by simp at e),fun _=>rfl⟩,h.2⟩));rintro _ hC;obtain rfl:=hC.2 rfl;try simp only[zL])
   iterate 3 refine Zv ?_
   refine TD.nil (fun w2 hr=> ?_);replace kp1:=hr.q kp1;have m2:=m1.then0 hr.mod;clear hr;go_wp2_with fail;go_ret;exact⟨by rw[HE.out];rfl,m2⟩
  ·have hd1:=Df h1;have HE:Hid (knownP k=false):=Hi (by unfold knownP;rw[hd,hd1];rfl);clear h0 h1;go_upto_region 1 with fail;have Lkp1:=Ls kp1;refine ZR (fun f _ v=>(f=122→v= .agg (kc key0))∧(f=116→v= .agg (kc keyB))) [1,2,0,0,1,2,0,0,0] ?_;refine Zd ?_;(refine Zc ?_ (s:=by intro wq hSq;exact(system_c wq).mono (fun e w' h=>⟨_,h.1,⟨fun _=>rfl,fun e=>(by simp at e)⟩,h.2⟩));rintro _ hC;obtain rfl:=hC.1 rfl;try simp only[zL])
   iterate 3 first|refine Zv ?_|refine Zd ?_
   (refine Zc ?_ (s:=by intro wq hSq;exact(budgetK_c wq).mono (fun e w' h=>⟨_,h.1,⟨fun e=>(by simp at e),fun _=>rfl⟩,h.2⟩));rintro _ hC;obtain rfl:=hC.2 rfl;try simp only[zL])
   iterate 3 refine Zv ?_
   refine TD.nil (fun w2 hr=> ?_);replace kp1:=hr.q kp1;have m2:=m1.then0 hr.mod;clear hr;go_wp2_with fail;go_ret;exact⟨by rw[HE.out];rfl,m2⟩
end
section
attribute [local go_sem↓] ldSg stSg wlTc ldTc stTc eqKey1
attribute [local go_sem] sgc_size sgc_ext sgc_one0 sgc_one' txr_size txr_all txr_one txr_one' txr0 txr38 txr39 txr0' txr38' txr39' zTx_size
def BudW (w:World):Prop:=(∃U fr,w.heap[0]? =some (.cells #[.int .i64 4,.int .i64 8] U fr))∧∃U fr,w.heap[1]? =some (.cells #[.int .u8 2,.int .u8 3] U fr)
theorem BudW.mod0 {w w':World} (h:BudW w) (hm:Mod (fun _=>False) w w'):BudW w':=by
 obtain⟨⟨U,fr,h1⟩,V,gr,h2⟩:=h;exact⟨⟨U,fr,hm.at h1 (fun h=>h)⟩,V,gr,hm.at h2 (fun h=>h)⟩
def toldV (d:List UInt8):Value:=match toldP d with
 |none=> .tuple #[.int .i64 (-1),.int .u64 0]
 |some (k,n)=> .tuple #[.int .i64 (k:Int),u64v n]
theorem le_get {l:List UInt8} {k:Nat} (h:l.length=k) (hk:k≤8):∃z:UInt64,getN l k=(z.toNat,0)∧z=UInt64.ofNat (leV l):=by
 refine⟨UInt64.ofNat (leV l),?_,rfl⟩;have h1:=leV_lt l;have h2:leV l<18446744073709551616:=by
  have:256^l.length≤256^8:=Nat.pow_le_pow_right (by decide) (by omega);have:(256:Nat)^8=18446744073709551616:=by decide
  omega
 rw[getN,if_neg (by omega),←h,List.take_length,UInt64.toNat_ofNat',Nat.mod_eq_of_lt h2]
theorem told_c {a:Option Addr} {l:List UInt8} {c:Nat} (w:World) (hl:SlAt uc 1 w a l) (hc:l.length≤c) (hn:a=none→c=0) (hln:l.length≤140737488355328) (hB:BudW w):
  Calls Tryz.prog 72 #[.slice a l.length c] w fun e w'=>e= .returned (toldV l)∧Mod (fun _=>False) w w':=by
 have HL:=Hi (Ai hl (Ai hc (Ai hn (Ai hln hB))));obtain⟨ll,hll⟩:∃ll,l.length=ll:=⟨_,rfl⟩;have HLL:=Hi hll;rw[hll]at hln⊢;clear hl hc hn hB hll;go_enter Tryz.func72,Tryz.ntmps72;go_wp2_with fail;go_loopw [7] (fun s7 ws=>∃i:Nat,i≤2∧s7= .int .i64 (i:Int)∧Hid ((i=0∨¬(l.length=5∧l[0]? =some 2))∧(i≤1∨¬(l.length=9∧l[0]? =some 3)))∧Mod (fun _=>False) w ws) (fun s7 _=>2-(intOf s7).toNat)
 case atStart=>exact⟨0,by decide,rfl,Hi ⟨.inl rfl,.inl (by decide)⟩,Mod.refl _ _⟩
 case round=>
  obtain⟨i,hi,rfl,HN,hm⟩:=hrel;rcases(by omega:i=0∨i=1∨i=2)with rfl|rfl|rfl
  ·have hu:=HN;obtain⟨⟨U0,f0,kg0⟩,U1,f1,kg1⟩:=(HL.out.2.2.2.2.mod0 hm);by_cases hq:ll=5
   ·have hqe:((ll:Int)==5)=true:=by rw[beq_iff_eq];omega
    have hqd:decide ((ll:Int)=5)=true:=Dt (by omega);have hqn:decide (ll=5)=true:=Dt hq;obtain⟨y,hy⟩:∃y,l[0]? =some y:=⟨_,List.getElem?_eq_getElem (by have:=HLL.out;omega)⟩;obtain⟨g,o,C,U,fr,hga,kg,he,hle⟩:=(HL.out.1.mod0 hm).block hy;have HY:=Hi hy;subst hga;clear hy;have he0:C[o]? =some (.int .u8 (y.toNat:Int)):=by simpa using cellC he (j:=0) (v:= .int .u8 (y.toNat:Int)) rfl
    clear he hle;by_cases hy2:y=2
    ·subst hy2;have HE:Hid (toldP l=some (0,UInt64.ofNat (leV (l.drop 1)))):=Hi (by rw[toldP,if_pos ⟨by rw[HLL.out];exact hq,HY.out⟩]);obtain⟨sp,hsp,hss,-,-⟩:=sl_from (P:=Tryz.prog) bytesT (c:=c) (k:=1) HL.out.1 (by have:=HLL.out;omega) HL.out.2.1 HL.out.2.2.1;have hdl:(l.drop 1).length=4:=by rw[List.length_drop,HLL.out,hq]
     obtain⟨z,hz,hz2⟩:=le_get hdl (by decide);have hG:=fun w2 (h:SlAt uc 1 w2 sp (l.drop 1))=>getN_c sp (l.drop 1) (c-1) 4 w2 h (by omega) (by decide);rw[hz,hdl]at hG;rw[HLL.out,hq]at hsp;have HG:=Hi (Ai hG (Ai hss hz2));have HM:=Hi hm;subst hq;clear hG hss hz2 hz hdl hm;go_upto_region 4 with fail;have Lkg:=Ls kg;have Lkg0:=Ls kg0;have Lkg1:=Ls kg1;refine ZP [0,0,0,0,1,0,0,0,0,0,1,0,0,1,0,0] ?_
     iterate 16 first|refine Zv ?_|refine Zd ?_
     refine TD.nil (fun w2 hr=> ?_);replace kg:=hr.q kg;replace kg0:=hr.q kg0;replace kg1:=hr.q kg1;have HM2:=Hi (HM.out.then0 hr.mod);clear hr;go_upto_region 5 with fail;have Lkg:=Ls kg;have Lkg0:=Ls kg0;have Lkg1:=Ls kg1;refine ZR (fun _ _ v=>v= .tuple #[u64v z,.int .i64 0]) [0,0,0,0,1,2,0,0,0,0,0] ?_;refine Zv ?_;refine Zx hsp ?_
     iterate 3 first|refine Zv ?_|refine Zd ?_
     (refine Zc ?_ (s:=by intro wq hSq;exact(HG.out.1 wq (HG.out.2.1 wq ((HL.out.1.mod0 HM2.out).mod0 hSq))).mono (fun e w' h=>⟨_,h.1,rfl,h.2⟩));rintro _ hC;subst hC;try simp only[zL])
     iterate 5 refine Zv ?_
     refine TD.nil (fun w3 hr=> ?_);replace kg:=hr.q kg;replace kg0:=hr.q kg0;replace kg1:=hr.q kg1;have HM3:=Hi (HM2.out.then0 hr.mod);clear hr;go_wp2_with fail;refine bodyPost_ret (results_tmp2 rfl _ _ _) rfl ⟨?_,HM3.out⟩;unfold toldV;rw[HE.out,HG.out.2.2];rfl
    ·have hyd:((y.toNat:Int)==2)=false:=by
      rw[beq_eq_false_iff_ne];intro e;exact hy2 (UInt8.toNat_inj.1 (by show y.toNat=2;omega))
     have hyd2:decide ((y.toNat:Int)=2)=false:=Df (by have:=beq_eq_false_iff_ne.1 hyd;exact this);have HN2:Hid ((0+1=0∨¬(l.length=5∧l[0]? =some 2))∧(0+1≤1∨¬(l.length=9∧l[0]? =some 3))):=Hi (by exact⟨.inr fun h=>hy2 (by rw[HY.out]at h;exact Option.some.inj h.2),.inl (by decide)⟩);have HM:=Hi hm;subst hq;clear hm hu hy2;go_upto_region 4 with fail;have Lkg:=Ls kg;have Lkg0:=Ls kg0;have Lkg1:=Ls kg1;refine ZP [0,0,0,0,1,0,0,0,0,0,1,0,0,1,0,0] ?_
     iterate 16 first|refine Zv ?_|refine Zd ?_
     refine TD.nil (fun w2 hr=> ?_);replace kg:=hr.q kg;replace kg0:=hr.q kg0;replace kg1:=hr.q kg1;have HM2:=Hi (HM.out.then0 hr.mod);clear hr;go_wp2_with fail;go_roundw
     case rel=>exact⟨0+1,by decide,rfl,HN2,HM2.out⟩
     case measure=>simp[intOf]
   ·have hqe:((ll:Int)==5)=false:=by
     rw[beq_eq_false_iff_ne];omega
    have hqd:decide ((ll:Int)=5)=false:=Df (by omega);have hqw:IntKind.i64.wrap 5=5:=by kernel_rfl
    have hqn:decide (ll=5)=false:=Df hq;have HN2:Hid ((0+1=0∨¬(l.length=5∧l[0]? =some 2))∧(0+1≤1∨¬(l.length=9∧l[0]? =some 3))):=Hi (by exact⟨.inr fun h=>hq (by rw[←HLL.out];exact h.1),.inl (by decide)⟩);have HM:=Hi hm;clear hm hu hq;go_upto_region 4 with fail;have Lkg0:=Ls kg0;have Lkg1:=Ls kg1;refine ZP [0,0,0,0,1,0,0,0,1,0,0,0,0,0,0,0] ?_
    iterate 8 first|refine Zv ?_|refine Zd ?_
    refine Zp ?_
    iterate 6 refine Zo ?_
    refine Zv ?_;refine TD.nil (fun w2 hr=> ?_);replace kg0:=hr.q kg0;replace kg1:=hr.q kg1;have HM2:=Hi (HM.out.then0 hr.mod);clear hr;go_wp2_with fail;go_roundw
    case rel=>exact⟨0+1,by decide,rfl,HN2,HM2.out⟩
    case measure=>simp[intOf]
  ·have hu:=HN;obtain⟨⟨U0,f0,kg0⟩,U1,f1,kg1⟩:=(HL.out.2.2.2.2.mod0 hm);by_cases hq:ll=9
   ·have hqe:((ll:Int)==9)=true:=by rw[beq_iff_eq];omega
    have hqd:decide ((ll:Int)=9)=true:=Dt (by omega);have hqn:decide (ll=9)=true:=Dt hq;obtain⟨y,hy⟩:∃y,l[0]? =some y:=⟨_,List.getElem?_eq_getElem (by have:=HLL.out;omega)⟩;obtain⟨g,o,C,U,fr,hga,kg,he,hle⟩:=(HL.out.1.mod0 hm).block hy;have HY:=Hi hy;subst hga;clear hy;have he0:C[o]? =some (.int .u8 (y.toNat:Int)):=by simpa using cellC he (j:=0) (v:= .int .u8 (y.toNat:Int)) rfl
    clear he hle;by_cases hy2:y=3
    ·subst hy2;have HE:Hid (toldP l=some (1,UInt64.ofNat (leV (l.drop 1)))):=Hi (by rw[toldP,if_neg (hu.out.1.resolve_left (by decide)),if_pos ⟨by rw[HLL.out];exact hq,HY.out⟩]);obtain⟨sp,hsp,hss,-,-⟩:=sl_from (P:=Tryz.prog) bytesT (c:=c) (k:=1) HL.out.1 (by have:=HLL.out;omega) HL.out.2.1 HL.out.2.2.1;have hdl:(l.drop 1).length=8:=by rw[List.length_drop,HLL.out,hq]
     obtain⟨z,hz,hz2⟩:=le_get hdl (by decide);have hG:=fun w2 (h:SlAt uc 1 w2 sp (l.drop 1))=>getN_c sp (l.drop 1) (c-1) 8 w2 h (by omega) (by decide);rw[hz,hdl]at hG;rw[HLL.out,hq]at hsp;have HG:=Hi (Ai hG (Ai hss hz2));have HM:=Hi hm;subst hq;clear hG hss hz2 hz hdl hm;go_upto_region 4 with fail;have Lkg:=Ls kg;have Lkg0:=Ls kg0;have Lkg1:=Ls kg1;refine ZP [0,0,0,0,1,0,0,0,0,0,1,0,0,1,0,0] ?_
     iterate 16 first|refine Zv ?_|refine Zd ?_
     refine TD.nil (fun w2 hr=> ?_);replace kg:=hr.q kg;replace kg0:=hr.q kg0;replace kg1:=hr.q kg1;have HM2:=Hi (HM.out.then0 hr.mod);clear hr;go_upto_region 5 with fail;have Lkg:=Ls kg;have Lkg0:=Ls kg0;have Lkg1:=Ls kg1;refine ZR (fun _ _ v=>v= .tuple #[u64v z,.int .i64 0]) [0,0,0,0,1,2,0,0,0,0,0] ?_;refine Zv ?_;refine Zx hsp ?_
     iterate 3 first|refine Zv ?_|refine Zd ?_
     (refine Zc ?_ (s:=by intro wq hSq;exact(HG.out.1 wq (HG.out.2.1 wq ((HL.out.1.mod0 HM2.out).mod0 hSq))).mono (fun e w' h=>⟨_,h.1,rfl,h.2⟩));rintro _ hC;subst hC;try simp only[zL])
     iterate 5 refine Zv ?_
     refine TD.nil (fun w3 hr=> ?_);replace kg:=hr.q kg;replace kg0:=hr.q kg0;replace kg1:=hr.q kg1;have HM3:=Hi (HM2.out.then0 hr.mod);clear hr;go_wp2_with fail;refine bodyPost_ret (results_tmp2 rfl _ _ _) rfl ⟨?_,HM3.out⟩;unfold toldV;rw[HE.out,HG.out.2.2];rfl
    ·have hyd:((y.toNat:Int)==3)=false:=by
      rw[beq_eq_false_iff_ne];intro e;exact hy2 (UInt8.toNat_inj.1 (by show y.toNat=3;omega))
     have hyd2:decide ((y.toNat:Int)=3)=false:=Df (by have:=beq_eq_false_iff_ne.1 hyd;exact this);have HN2:Hid ((1+1=0∨¬(l.length=5∧l[0]? =some 2))∧(1+1≤1∨¬(l.length=9∧l[0]? =some 3))):=Hi (by exact⟨.inr (hu.out.1.resolve_left (by decide)),.inr fun h=>hy2 (by rw[HY.out]at h;exact Option.some.inj h.2)⟩);have HM:=Hi hm;subst hq;clear hm hu hy2;go_upto_region 4 with fail;have Lkg:=Ls kg;have Lkg0:=Ls kg0;have Lkg1:=Ls kg1;refine ZP [0,0,0,0,1,0,0,0,0,0,1,0,0,1,0,0] ?_
     iterate 16 first|refine Zv ?_|refine Zd ?_
     refine TD.nil (fun w2 hr=> ?_);replace kg:=hr.q kg;replace kg0:=hr.q kg0;replace kg1:=hr.q kg1;have HM2:=Hi (HM.out.then0 hr.mod);clear hr;go_wp2_with fail;go_roundw
     case rel=>exact⟨1+1,by decide,rfl,HN2,HM2.out⟩
     case measure=>simp[intOf]
   ·have hqe:((ll:Int)==9)=false:=by
     rw[beq_eq_false_iff_ne];omega
    have hqd:decide ((ll:Int)=9)=false:=Df (by omega);have hqw:IntKind.i64.wrap 9=9:=by kernel_rfl
    have hqn:decide (ll=9)=false:=Df hq;have HN2:Hid ((1+1=0∨¬(l.length=5∧l[0]? =some 2))∧(1+1≤1∨¬(l.length=9∧l[0]? =some 3))):=Hi (by exact⟨.inr (hu.out.1.resolve_left (by decide)),.inr fun h=>hq (by rw[←HLL.out];exact h.1)⟩);have HM:=Hi hm;clear hm hu hq;go_upto_region 4 with fail;have Lkg0:=Ls kg0;have Lkg1:=Ls kg1;refine ZP [0,0,0,0,1,0,0,0,1,0,0,0,0,0,0,0] ?_
    iterate 8 first|refine Zv ?_|refine Zd ?_
    refine Zp ?_
    iterate 6 refine Zo ?_
    refine Zv ?_;refine TD.nil (fun w2 hr=> ?_);replace kg0:=hr.q kg0;replace kg1:=hr.q kg1;have HM2:=Hi (HM.out.then0 hr.mod);clear hr;go_wp2_with fail;go_roundw
    case rel=>exact⟨1+1,by decide,rfl,HN2,HM2.out⟩
    case measure=>simp[intOf]
  ·have HE:Hid (toldP l=none):=Hi (by rw[toldP,if_neg (HN.out.1.resolve_left (by decide)),if_neg (HN.out.2.resolve_left (by decide))]);have HM:=Hi hm;clear hm;go_wp2_with fail;refine bodyPost_ret (results_tmp2 rfl _ _ _) rfl ⟨?_,HM.out⟩;unfold toldV;rw[HE.out];rfl
end
section
open Go.ChangeShapes Go.WideShapes Go.ChangeAt Go.WideMaps Go.WideElems Go.RowKit
def LD:List (String×DataW Unit):=[("ferryhouse/budgets.long",Rows.laid_ferryhouse_budgets_long),("ferryhouse/budgets.tags",Rows.laid_ferryhouse_budgets_tags)]
theorem door_met (os:Os) (args:Array Value):laidMetH Tryz.prog LD ((World.doorLaid Tryz.prog 400 os).forCall (fun _ _=>0) ⟨#[],args,[]⟩).memory:=
 laidMetH_of_parts3 (fuel:=8) (laidMet_of_run' 8 (by kernel_rfl) (by kernel_rfl)) (by kernel_rfl) (by kernel_rfl)
theorem LD_eq:LD=[("ferryhouse/budgets.long",Lib.tabData .i64 [4,8]),("ferryhouse/budgets.tags",Lib.tabData .u8 [2,3])]:=by rfl
theorem var_block {P:Program} {w:World} {name:String} {g:Nat} {cs:Array Value} (hg:P.globalNamed name=some g) (h:w.var? P name=some cs):∃U fr,w.heap[g]? =some (.cells cs U fr):=by
 unfold World.var? at h;rw[hg]at h;simp only[Option.bind_some]at h;split at h
 ·rename_i C U fr hb;cases h;exact⟨U,fr,hb⟩
 ·cases h
theorem tabW_of_laid {W:World} (h:laidMetH Tryz.prog LD W):BudW W:=by
 rw[MakeChecks.laidMetH_plain _ _ _ (by kernel_rfl),LD_eq]at h;have hg:Tryz.prog.globalNamed "ferryhouse/budgets.long" =some 0:=by kernel_rfl
 have hg1:Tryz.prog.globalNamed "ferryhouse/budgets.tags" =some 1:=by kernel_rfl
 have ht:=Lib.tabIs_of_head (g:=0) (n:=2) hg (by kernel_rfl) Tryz.underlying179 Tryz.underlying3 (by kernel_rfl) (by kernel_rfl) h;have ht1:=Lib.tabIs_of_head (g:=1) (n:=2) hg1 (by kernel_rfl) Tryz.underlying180 Tryz.underlying5 (by kernel_rfl) (by kernel_rfl) (laidMet.tail h);exact⟨var_block hg ht,var_block hg1 ht1⟩
end
section
open Go.ChangeShapes Go.WideShapes Go.ChangeAt
theorem okWide_adr {P:Program} {w:World} {r:Reach} {base:Nat} {t e:TypeId} {a:Option Addr} {n c:Nat} (ht:P.underlying t=some (.slice e)) (h:Value.okWide P w r base t (.slice a n c)):(a=none→c=0)∧n≤c∧∀x,a=some x→x.block<w.heap.size:=by
 simp only[Value.okWide,ht,Cell.okWide]at h;unfold Cell.ok at h;rw[ht]at h;cases a with
 |none=>
  cases n with
  |zero=>
   cases c with
   |zero=>exact⟨fun _=>rfl,Nat.le_refl _,fun x e=>(by cases e)⟩
   |succ c=>exact h.elim
  |succ n=>exact h.elim
 |some x=>
  obtain⟨h1,_,_,_,row,cells,hs,_⟩:=h;refine⟨fun e=>(by cases e),h1,fun y e=> ?_⟩;cases e;unfold World.shape? at hs;split at hs
  ·rename_i hk;exact Ls hk
  ·cases hs
theorem bysC_reads {H:Type} {enc:TypeId×Value→H}:Reads enc Tryz.prog 22 (slv (α:=UInt8)) (SlOk uc 1 1 (fun _ _=>True)):=
 slice_reads Tryz.underlying22 (by kernel_rfl) (by kernel_rfl) (by omega) u8_reads 0
end
def Tk {α:Type} (e:Nat) (res:PR α) (x:α) (k' e':Nat):Prop:=(e=0→match res with| .ok (y,k2)=>x=y∧k'=k2∧e'=0| .error n=>e'=n)∧(e≠0→e'=e)
theorem Tk.bad {α:Type} {e:Nat} {res:PR α} {x:α} {k':Nat} (h:e≠0):Tk e res x k' e:=⟨fun h0=>absurd h0 h,fun _=>rfl⟩
theorem Tk.good {α:Type} {res:PR α} {x:α} {k':Nat} (h:res= .ok (x,k')):Tk 0 res x k' 0:=⟨fun _=>by rw[h];exact⟨rfl,rfl,rfl⟩,fun h=>absurd rfl h⟩
theorem Tk.err {α:Type} {res:PR α} {x:α} {k' n:Nat} (h:res= .error n):Tk 0 res x k' n:=⟨fun _=>by rw[h],fun h=>absurd rfl h⟩
def tkC (a:Option Addr) (n c k e:Nat):Array Value:= #[.slice a n c,.int .i64 (k:Int),.int .i64 (e:Int)]
def TkA (p:Nat) (a:Option Addr) (l:List UInt8) (c k e:Nat) (w:World):Prop:=
 w.heap[p]? =some (.cells (tkC a l.length c k e) 222 (0,0))∧SlAt uc 1 w a l∧k≤l.length∧l.length≤c∧(a=none→c=0)∧(∀x,a=some x→x.block≠p)∧l.length≤1000000
theorem TkA.mod0 {p:Nat} {a:Option Addr} {l:List UInt8} {c k e:Nat} {w w':World} (h:TkA p a l c k e w) (m:Mod (fun _=>False) w w'):TkA p a l c k e w':=by
 obtain⟨h1,h2,h3⟩:=h;exact⟨m.at0 h1,h2.mod0 m,h3⟩
theorem TkA.modN {p q:Nat} {a:Option Addr} {l:List UInt8} {c k e k0 e0:Nat} {w0 w w':World} (h0:TkA p a l c k0 e0 w0) (hq:w0.heap.size≤q) (h:TkA p a l c k e w) (m:Mod (fun i=>i=q) w w'):TkA p a l c k e w':=by
 obtain⟨h1,h2,h3⟩:=h;have hp:=Ls h0.1;refine⟨m.at_ne h1 (by omega),?_,h3⟩;rcases h0.2.1 with rfl|⟨b,o,C,U,fr,rfl,kb,_⟩
 ·exact .inl rfl
 ·have:=Ls kb;exact h2.mod m (fun b' o' e he=>by cases e;omega)
def TkP {α:Type} (p:Nat) (a:Option Addr) (l:List UInt8) (c e:Nat) (w:World) (res:PR α) (V:Nat→World→Value→α→Prop) (en:Ending) (w':World):Prop:=
 ∃v x k' e',en= .returned v∧V w.heap.size w' v x∧Tk e res x k' e'∧TkA p a l c k' e' w'∧Mod (fun i=>i=p) w w'
theorem TkP.noOut {α:Type} {p:Nat} {a:Option Addr} {l:List UInt8} {c e:Nat} {w:World} {res:PR α} {V:Nat→World→Value→α→Prop} {w':World} (h:TkP p a l c e w res V .outgrown w'):False:=by
 obtain⟨_,_,_,_,h,_⟩:=h;cases h
theorem TkP.noPan {α:Type} {p:Nat} {a:Option Addr} {l:List UInt8} {c e:Nat} {w:World} {res:PR α} {V:Nat→World→Value→α→Prop} {w':World} {ch:List PanicEntry} (h:TkP p a l c e w res V (.panicked ch) w'):False:=by
 obtain⟨_,_,_,_,h,_⟩:=h;cases h
theorem tbytes_c {p:Nat} {a:Option Addr} {l:List UInt8} {c k e:Nat} (n:Nat) (w:World) (h:TkA p a l c k e w) (hn:n≤1000000):
  Calls Tryz.prog 142 #[pV p,.int .i64 (n:Int)] w (TkP p a l c e w (pBytes l k n) (fun b w' v x=>SlOwn uc 1 5 w' b v x∧(x=[]∧v= .slice none 0 0∨x.length=n))):=by
 have HT:=Hi h;obtain⟨kp,hl,hk,hc,hna,hap,hln⟩:=h;have HL:=Hi (Ai hl (Ai hap hna));obtain⟨ll,hll⟩:∃ll,l.length=ll:=⟨_,rfl⟩;have HLL:=Hi hll;unfold tkC at kp;rw[hll]at kp hk hc hln;clear hl hap hna hll;go_enter Tryz.func142,Tryz.ntmps142;by_cases he:e=0
 ·subst he;have hne:((0:Int) !=0)=false:=rfl;obtain⟨d,hd0⟩:∃d,ll-k=d:=⟨_,rfl⟩;have hdw:IntKind.i64.wrap ((ll:Int)-(k:Int))=(d:Int):=by rw[IntKind.wrap_i64];omega
  by_cases hs:k+n≤ll
  ·have hd:decide (d<n)=false:=Df (by omega);have hd1:decide ((n:Int)>(d:Int))=false:=Df (by omega);obtain⟨kn,hkn⟩:∃kn,k+n=kn:=⟨_,rfl⟩;have hka:IntKind.i64.wrap ((k:Int)+(n:Int))=(kn:Int):=by rw[IntKind.wrap_i64];omega
   have hks:IntKind.i64.wrap ((kn:Int)-(n:Int))=(k:Int):=by rw[IntKind.wrap_i64];omega
   obtain⟨sp,hsp,hsat,-,-⟩:=sl_part (P:=Tryz.prog) bytesT (c:=c) (k:=k) (m:=k+n) HL.out.1 (by omega) (by rw[HLL.out];exact hs) (by rw[HLL.out];exact hc) HL.out.2.2;rw[HLL.out,show k+n-k=n by omega,hkn]at hsp;rw[show k+n-k=n by omega]at hsat;have HSAT:=Hi hsat;have HTL:Hid (((l.drop k).take n).length=n):=Hi (by rw[List.length_take,List.length_drop,HLL.out];omega);have HKN:Hid (pBytes l k n= .ok ((l.drop k).take n,kn)∧kn≤ll):=Hi ⟨by unfold pBytes;rw[if_pos (by rw[HLL.out];exact hs),hkn],by omega⟩;clear hd0 hkn hsat;go_upto_region 3 with fail;have Lkp:=Ls kp;refine ZP [0,0,0,0,1,0,0,0,0,1,0,0] ?_
   iterate 12 first|refine Zv ?_|refine Zd ?_
   refine TD.nil (fun w1 hr=> ?_);replace kp:=hr.q kp;have m1:=hr.mod;clear hr;go_upto_region 6 with fail;have Lkp:=Ls kp;refine ZP0 [0,0,0,0,1,0,0,0,0,5] ?_
   iterate 9 first|refine Zv ?_|refine Zd ?_
   refine Zi fun wE hr=> ?_;replace kp:=hr.mod.at0 kp;have mE:=hr.mod;refine ZS ?_;refine ZN kp fun w2 kp mS=> ?_;(try simp only[Array.setIfInBounds,zL]at kp);have m2:=(m1.mono (T:=fun i=>i=p) (fun _ _ h=>h.elim)).trans ((mE.mono (fun _ _ h=>h.elim)).trans mS);clear hr mE mS hka m1 hdw hd hd1;go_upto_region 7 with fail;have Lkp:=Ls kp;refine ZP [0,0,0,1,0,0,0,1,0,0,0,0,0,1,0,5,0] ?_
   iterate 14 first|refine Zv ?_|refine Zd ?_
   refine Zx hsp ?_;refine Zi fun w3 hr=> ?_;replace kp:=hr.q kp;have m3:=m2.then0 hr.mod;have m3s:w.heap.size≤w3.heap.size:=m3.size;have HS3:Hid (SlAt uc 1 w3 sp ((l.drop k).take n)):=Hi (HSAT.out _ (HL.out.1.modB m3 HL.out.2.1));clear hr hsp hks;obtain⟨v4,w4,hap,hO4,m4,hn4⟩:=SlOwn.append bytesT (base:=w3.heap.size) (c:=c-k) (SlOwn.nil w3 _) HS3.out (by rw[HTL.out];simp;omega) (by decide) (Nat.le_refl _) 22;rw[HTL.out]at hap;rw[List.nil_append]at hO4;have hn4':Mod (fun i=>i=p) w w4:=m3.then m4 (fun i hi e=>by cases e);have HF:Hid (SlOwn uc 1 5 w4 w3.heap.size v4 ((l.drop k).take n)∧w4.heap[p]? =some (.cells (tkC a ll c kn 0) 222 (0,0))∧Mod (fun i=>i=p) w w4):=Hi ⟨hO4,m4.at kp (fun e=>by cases e),hn4'⟩;clear hO4 m4 hn4 hn4' m3 m2 kp;refine ZA hap ?_;refine Ze ?_;refine TE.nil ?_;go_wp2_with fail;go_ret;refine⟨_,_,kn,0,rfl,⟨SlOwn.low HF.out.1 m3s,.inr HTL.out⟩,Tk.good HKN.out.1,?_,HF.out.2.2⟩;rw[TkA,HLL.out];exact⟨HF.out.2.1,HL.out.1.modB HF.out.2.2 HL.out.2.1,HKN.out.2,hc,HL.out.2.2,HL.out.2.1,hln⟩
  ·have hd:decide (d<n)=true:=Dt (by omega);have hd1:decide ((n:Int)>(d:Int))=true:=Dt (by omega);have HE:Hid (pBytes l k n= .error 5):=Hi (by unfold pBytes;rw[if_neg (by rw[HLL.out];exact hs)]);clear hd0;go_upto_region 3 with fail;have Lkp:=Ls kp;refine ZP [0,0,0,0,1,0,0,0,0,1,0,0] ?_
   iterate 12 first|refine Zv ?_|refine Zd ?_
   refine TD.nil (fun w1 hr=> ?_);replace kp:=hr.q kp;have m1:=hr.mod;clear hr;go_upto_region 4 with fail;have Lkp:=Ls kp;refine ZP0 [0,0,0,5] ?_
   iterate 3 refine Zv ?_
   refine Zi fun wE hr=> ?_;replace kp:=hr.mod.at0 kp;have mE:=hr.mod;refine ZS ?_;refine ZN kp fun w2 kp mS=> ?_;(try simp only[Array.setIfInBounds,zL]at kp);have m2:=(m1.mono (T:=fun i=>i=p) (fun _ _ h=>h.elim)).trans ((mE.mono (fun _ _ h=>h.elim)).trans mS);have HK:=Hi kp;clear hr mE mS m1 kp;go_wp2_with fail;go_ret;refine⟨_,[],k,5,rfl,⟨SlOwn.nil _ _,.inl ⟨rfl,rfl⟩⟩,Tk.err HE.out,?_,m2⟩;rw[TkA,HLL.out];exact⟨HK.out,HL.out.1.modB m2 HL.out.2.1,hk,hc,HL.out.2.2,HL.out.2.1,hln⟩
 ·have hne:((e:Int) !=0)=true:=by simpa using he
  go_wp2_with fail;go_ret;exact⟨_,[],k,e,rfl,⟨SlOwn.nil _ _,.inl ⟨rfl,rfl⟩⟩,Tk.bad he,HT.out,Mod.refl _ _⟩
section
attribute [local go_sem↓] wlHs stHs
theorem setRow_blk {w:World} {g:Nat} {old cs:Array Value} {t:TypeId} (hg:w.heap[g]? =some (.cells old t (0,0))):w.setRow g cs=setBlock w g (.cells cs t (0,0)):=by
 unfold World.setRow setBlock;congr 1;apply Array.ext_getElem?;intro i;rw[Array.getElem?_modify,Array.getElem?_setIfInBounds];by_cases h:g=i
 ·subst h;rw[if_pos rfl,if_pos rfl,hg,if_pos (Ls hg)];rfl
 ·rw[if_neg h,if_neg h]
theorem eff_copy {P:Program} {ops:Array Oper} {Q:Exit→Act→World→Prop} {i:Nat} {a:Act} {o:Oper} {K:Act→World→Prop} {w w':World} {t t2:TypeId} {s x:Operand} {v u v':Value} (ho:ops[i]? =some o) (hw:Region.wanted o (yielded ops a.tmps)=true)
  (hop:o.op= .call {callee:= .builtin .copy,args:= #[s,x],argTypes:= #[t,t2]}) (hs:a.eval s=v) (hx:a.eval x=u) (hr:(Builtin.copy_ #[t,t2] o.type #[v,u]).run P w= .ok v' w')
  (h:K (a.put o.dst v') w'):wpOp P ops Q i K a w:=
 eff_value ho hw (by subst hs;subst hx;simp[execOp,hop,resolve,invoke,builtin,hr]) h
theorem copy_all {w:World} {ty:TypeId} {p n n1 b o c:Nat} {cur C:Array Value} {T U:TypeId} {fr:Nat×Nat} {L:List UInt8} (hp:w.heap[p]? =some (.cells cur T (0,0))) (hcur:cur.size=n) (hL:L.length=n) (hb:w.heap[b]? =some (.cells C U fr))
  (hC:∀i x,L[i]? =some x→C.extract (o+i*1) (o+i*1+1)=uc x∧o+i*1+1≤C.size):
  (Builtin.copy_ #[22,22] ty #[.slice (some ⟨p,0,none⟩) n n1,.slice (some ⟨b,o,none⟩) n c]).run Tryz.prog w= .ok (goInt n) (setBlock w p (.cells (L.map bc).toArray T (0,0))):=by
 have hel:(Tryz.prog.info? 5).map (·.size)=some 1:=by kernel_rfl
 have h:=run_copy_row (P:=Tryz.prog) w 22 22 ty 5 p 0 n n1 ⟨b,o,none⟩ n c cur T (L.map bc) Tryz.underlying22 hel hp (by simp[hL]) (fun j v hv=>by
  rw[List.getElem?_map]at hv;cases hx:L[j]? with
  |none=>rw[hx]at hv;cases hv
  |some x=>
   rw[hx]at hv;cases hv;obtain⟨h1,h2⟩:=hC j x hx;simp only[Nat.mul_one]at h1 h2;have hadd:(⟨b,o,none⟩:Addr).add j=⟨b,o+j,none⟩:=by
    unfold Addr.add;split<;>simp_all
   rw[hadd,cell_blk,hb];simp only;have h3:(C.extract (o+j) (o+j+1))[0]? =some (bc x):=by rw[h1];rfl
   rw[Array.getElem?_extract]at h3;simp at h3;exact h3.2) (by rw[List.length_map,hL,hcur];omega) (fun v hv=>by
  rw[List.mem_map]at hv;obtain⟨x,_,rfl⟩:=hv;rfl)
 have hz:(List.take 0 cur.toList++L.map bc++List.drop (0+(L.map bc).length) cur.toList).toArray=(L.map bc).toArray:=by
  rw[List.take_zero,List.nil_append,List.drop_of_length_le (by rw[Array.length_toList,hcur,List.length_map];omega),List.append_nil]
 rw[h,setRow_blk hp,hz,List.length_map,hL]
theorem copy_none (w:World) (ty:TypeId) (x:Addr) (n n1:Nat):(Builtin.copy_ #[22,22] ty #[.slice (some x) n n1,.slice none 0 0]).run Tryz.prog w= .ok (goInt 0) w:=
 run_copy_nil (P:=Tryz.prog) w _ _ ty 5 x n n1 Tryz.underlying22 (by kernel_rfl)
theorem tbyte_c {p:Nat} {a:Option Addr} {l:List UInt8} {c k e:Nat} (w:World) (h:TkA p a l c k e w):
  Calls Tryz.prog 139 #[pV p] w (TkP p a l c e w (pByte l k) (fun _ _ v x=>v=u8v x)):=by
 have HB:=Hi (tbytes_c 1 w h (by omega));have hkl:=h.2.2.1;clear h;go_enter Tryz.func139,Tryz.ntmps139;go_wp2_with fail;go_at_call 142;refine HB.out.mono ?_;rintro en w2 ⟨v,x,k',e',rfl,⟨hO,-⟩,hT,hA,hm⟩;obtain⟨a2,c2,rfl,hS,-⟩:=hO.at bytesT;cases x with
 |nil=>
  have HT:Hid (Tk e (pByte l k) 0 k' e'):=Hi (by
   refine⟨fun he=> ?_,hT.2⟩;have h1:=hT.1 he;by_cases hs:k+1≤l.length
   ·rw[pBytes,if_pos hs]at h1;have h2:=congrArg List.length h1.1;rw[List.length_take,List.length_drop]at h2;simp at h2;omega
   ·rw[pBytes,if_neg hs]at h1;unfold pByte;rw[List.getElem?_eq_none (by omega)];exact h1)
  have HF:=Hi (Ai hA hm);clear hO hT hA hm hS;go_wp2_with fail;go_ret;exact⟨_,0,k',e',rfl,rfl,HT.out,HF.out⟩
 |cons y ys=>
  obtain⟨b,o,C,U,fr,rfl,kb,hc⟩:=u8_at hS (i:=0) rfl;have hc2:C[o]? =some (.int .u8 (y.toNat:Int)):=by simpa using hc
  have HT:Hid (Tk e (pByte l k) y k' e'):=Hi (by
   refine⟨fun he=> ?_,hT.2⟩;have h1:=hT.1 he;by_cases hs:k+1≤l.length
   ·rw[pBytes,if_pos hs]at h1;have h2:l[k]? =some y:=by
     have h3:=congrArg (fun z=>z[0]?) h1.1;simp only[List.getElem?_take,List.getElem?_drop,zC]at h3;simpa using h3.symm
    unfold pByte;rw[h2];exact⟨rfl,h1.2⟩
   ·rw[pBytes,if_neg hs]at h1;unfold pByte;rw[List.getElem?_eq_none (by omega)];exact h1)
  have HF:=Hi (Ai hA hm);obtain⟨n,hn⟩:∃n,ys.length=n:=⟨_,rfl⟩;have hne:(((n+1:Nat):Int)==0)=false:=by simp;omega
  simp only[List.length_cons];rw[hn];clear hO hT hA hm hS hc hn;go_wp2_with fail;go_ret;exact⟨_,y,k',e',rfl,rfl,HT.out,HF.out⟩
theorem gsh_zero:∀(l:List UInt8) (i n:Nat),(gsh i n l).2.2≠0→(gsh i n l).1=0∧(gsh i n l).2.1=0
 |[],i,n,h=>⟨rfl,rfl⟩
 |c::r,i,n,h=>by
  rw[gsh]at h⊢;split
  ·exact⟨rfl,rfl⟩
  ·rename_i hb;rw[if_neg hb]at h;split
   ·rename_i h128;rw[if_pos h128]at h;exact absurd rfl h
   ·rename_i h128;rw[if_neg h128]at h;exact gsh_zero r _ _ h
theorem tshort_c {p:Nat} {a:Option Addr} {l:List UInt8} {c k e:Nat} (w:World) (h:TkA p a l c k e w):
  Calls Tryz.prog 140 #[pV p] w (TkP p a l c e w (pShort l k) (fun _ _ v n=>v=i64n n∧n≤65535)):=by
 have HT:=Hi h;obtain⟨kp,hl,hk,hc,hna,hap,hln⟩:=h;have HL:=Hi (Ai hl (Ai hap hna));obtain⟨ll,hll⟩:∃ll,l.length=ll:=⟨_,rfl⟩;have HLL:=Hi hll;unfold tkC at kp;rw[hll]at kp hk hc hln;obtain⟨sp,hsp,hsat,-,-⟩:=sl_from (P:=Tryz.prog) bytesT (c:=c) (k:=k) HL.out.1 (by rw[HLL.out];exact hk) (by rw[HLL.out];exact hc) HL.out.2.2;rw[HLL.out]at hsp;have HSAT:=Hi hsat;have HTL:Hid ((l.drop k).length=ll-k):=Hi (by rw[List.length_drop,HLL.out]);obtain⟨n,took,er,hg⟩:∃n took er,gsh 0 0 (l.drop k)=(n,took,er):=⟨_,_,_,rfl⟩;have HG:=Hi hg;clear hl hap hna hll hsat hg;go_enter Tryz.func140,Tryz.ntmps140;by_cases he:e=0
 ·subst he;have hne:((0:Int) !=0)=false:=rfl;have hfit:er=0→n≤65535∧took≤ll-k:=fun h0=>by
   have:=gsh_fit (l.drop k) 0 0 (by decide) (by omega) (by rw[HG.out];exact h0);rw[HG.out]at this;simp only at this;have:=HTL.out;omega
  have hzero:er≠0→n=0∧took=0:=fun h0=>by
   have:=gsh_zero (l.drop k) 0 0 (by rw[HG.out];exact h0);rw[HG.out]at this;exact this
  obtain⟨kn,hkn⟩:∃kn,k+took=kn:=⟨_,rfl⟩;have hkb:n≤65535∧kn≤ll:=by
   by_cases h0:er=0
   ·have:=hfit h0;omega
   ·have:=hzero h0;omega
  have hka:IntKind.i64.wrap ((k:Int)+(took:Int))=(kn:Int):=by rw[IntKind.wrap_i64];omega
  have HR:Hid (Tk 0 (pShort l k) n kn er):=Hi (by
   unfold pShort;rw[HG.out];simp only;by_cases h0:er=0
   ·subst h0;rw[if_pos rfl,hkn];exact Tk.good rfl
   ·rw[if_neg h0];exact Tk.err rfl)
  have HKB:=Hi hkb;clear hfit hzero hkn hkb;go_upto_region 3 with fail;have Lkp:=Ls kp;refine wp_gpass (T0:=fun _=>False) (K:=fun _ _=>True) (κ:=fun i=>[0,0,0,0,0,0,0,0,0,6,0,0,0,0,0,0,0].getD i 0) (υ:=fun _=>[]) [0,1,2,3,4,5,6,7,8,9,10,11,12,13,14,15,16] (by kernel_rfl) (by kernel_rfl) (Good.true).cl (trivial) (fun _ h=>h.elim) ?_;have gK:=Good.true
  iterate 3 refine Zg ?_
  refine Zh ?_
  iterate 3 refine Zg ?_
  refine Zh ?_;(refine TG.slice (by simp only[zK];rfl) rfl (by rfl) rfl ?hs9 ?hl9 ?hh9 ?hm9 hsp ?n9;(case hs9=>simp only[zM];try rfl);(case hl9=>first|rfl|(simp only[Option.map_some,zM];(try rfl)));(case hh9=>first|rfl|(simp only[Option.map_some,zM];(try rfl)));(case hm9=>rfl);try simp only[zL]);(refine ZG (fun v=>v= .tuple #[i64n n,i64n took,i64n er]) gK ?_ (s:=fun T wq kq ltq hSq ub=>by have hh:=rgsh_c sp (l.drop k) (c-k) wq (HSAT.out wq (HL.out.1.mod0 hSq)) (by rw[HTL.out];omega);rw[HTL.out,HG.out]at hh;exact hh.mono (fun e w' h=>⟨_,h.1,rfl,h.2⟩));rintro v10 hC;subst hC;try simp only[zL])
  iterate 7 refine Zg ?_
  refine TG.nil (fun w1 ⟨TR,hr⟩=> ?_);replace kp:=hr.q kp;clear gK;have m1:=hr.mod;clear hr hsp;go_upto_region 4 with fail;have Lkp:=Ls kp;refine ZP0 [0,0,0,0,5] ?_
  iterate 4 refine Zv ?_
  refine Zi fun wE hr=> ?_;replace kp:=hr.mod.at0 kp;have mE:=hr.mod;refine ZS ?_;refine ZN kp fun w2 kp mS=> ?_;(try simp only[Array.setIfInBounds,zL]at kp);have m2:=(m1.mono (T:=fun i=>i=p) (fun _ _ h=>h.elim)).trans ((mE.mono (fun _ _ h=>h.elim)).trans mS);clear hr mE mS m1;go_upto_region 5 with fail;have Lkp:=Ls kp;refine ZP0 [0,0,0,0,1,0,0,0,0,5] ?_
  iterate 9 first|refine Zv ?_|refine Zd ?_
  refine Zi fun wE hr=> ?_;replace kp:=hr.mod.at0 kp;have mE:=hr.mod;refine ZS ?_;refine ZN kp fun w3 kp mS=> ?_;(try simp only[Array.setIfInBounds,zL]at kp);have m3:=m2.trans ((mE.mono (fun _ _ h=>h.elim)).trans mS);have HK:=Hi kp;clear hr mE mS m2 kp;go_wp2_with fail;go_ret;refine⟨_,n,kn,er,rfl,⟨rfl,HKB.out.1⟩,HR.out,?_,m3⟩;rw[TkA,HLL.out];exact⟨HK.out,HL.out.1.modB m3 HL.out.2.1,HKB.out.2,hc,HL.out.2.2,HL.out.2.1,hln⟩
 ·have hne:((e:Int) !=0)=true:=by simpa using he
  go_wp2_with fail;go_ret;exact⟨_,0,k,e,rfl,⟨rfl,Nat.zero_le _⟩,Tk.bad he,HT.out,Mod.refl _ _⟩
end
section
attribute [local go_sem↓] wlHs stHs
theorem ldK32 (w:World) (b o:Nat):(Instr.loadAt 28 (.pointer (some ⟨b,o,none⟩))).run Tryz.prog w=
   match w.heap[b]? with
   |some (.cells cs _ _)=>if o+32≤cs.size then .ok (.agg (cs.extract o (o+32))) w else farL Tryz.prog w 28 b o
   |_=>farL Tryz.prog w 28 b o:=load_rule (d:=_) Tryz.underlying28 rfl (by kernel_rfl) w b o
theorem stK32 (w:World) (b o:Nat) (xs:Array Value):(Instr.storeAt 28 (.pointer (some ⟨b,o,none⟩)) (.agg xs)).run Tryz.prog w=
   match w.heap[b]? with
   |some (.cells cs U (0,0))=>
    if o+32≤cs.size∧xs.size=32∧xs.all (·.oneCell')=true then .ok () (setBlock w b (.cells (if o=0∧32=cs.size then xs else wr cs o xs.toList) U (0,0)))else farS Tryz.prog w 28 b o (.agg xs)
   |_=>farS Tryz.prog w 28 b o (.agg xs):=store_rule (by kernel_rfl) w b o xs
theorem alK32 (w:World):(Instr.alloc 28 true (.tuple #[])).run Tryz.prog w= .ok (.pointer (some ⟨w.heap.size,0,none⟩)) (w.alloc (.cells zKey 28)):=
 run_alloc_row (z:= .agg zKey) (fun w=>by kernel_rfl) w
attribute [local go_sem↓] ldK32 stK32
theorem slAll (p:Nat) (w:World):(Instr.sliceAt 28 (.pointer (some ⟨p,0,none⟩)) none none none).run Tryz.prog w= .ok (.slice (some ⟨p,0,none⟩) 32 32) w:=by kernel_rfl
theorem zKey0:zKey=kc key0:=by kernel_rfl
theorem pKey_cells {l L:List UInt8} {e k k' e':Nat} (h:Tk e (pBytes l k 32) L k' e') (K:Key) (hK:L.length=32→K.l=L):Tk e (pKey l k) K k' e':=by
 refine⟨fun h0=> ?_,h.2⟩;have h1:=h.1 h0;by_cases hs:k+32≤l.length
 ·rw[pBytes,if_pos hs]at h1;obtain⟨rfl,rfl,rfl⟩:=h1;have h2:K.l=(l.drop k).take 32:=hK (by rw[List.length_take,List.length_drop];omega);unfold pKey;rw[dif_pos hs];exact⟨Key.ext h2,rfl,rfl⟩
 ·rw[pBytes,if_neg hs]at h1;unfold pKey;rw[dif_neg hs];exact h1
theorem tkey_c {p:Nat} {a:Option Addr} {l:List UInt8} {c k e:Nat} (w:World) (h:TkA p a l c k e w):
  Calls Tryz.prog 141 #[pV p] w (TkP p a l c e w (pKey l k) (fun _ _ v x=>v= .agg (kc x))):=by
 have hp:=Ls h.1;have HT:=Hi h;clear h;go_enter Tryz.func141,Tryz.ntmps141;go_upto_region 0 with fail;refine ZP0 [3] ?_;refine Za alK32 fun p2 hp2=> ?_;refine TD.nil (fun w1 hr=> ?_);obtain⟨gp2,kp2⟩:=hr.b p2;have m1:=hr.mod;clear hr;go_upto_region 1 with fail;have Lkp2:=Ls kp2;refine ZP0 [3] ?_;refine Za alK32 fun p3 hp3=> ?_;refine TD.nil (fun w2 hr=> ?_);replace kp2:=hr.q kp2;obtain⟨gp3,kp3⟩:=hr.b p3;have m2:=m1.trans hr.mod;clear hr;have hsa:=slAll;have h23:p2≠p3∧p2≠p∧p3≠p:=by have:=Ls kp2;omega
 go_upto_region 2 with fail;have Lkp2:=Ls kp2;have Lkp3:=Ls kp3;refine ZP [0,0,5,6] ?_
 iterate 2 refine Zv ?_
 refine Zi fun w3 hr=> ?_;replace kp2:=hr.q kp2;replace kp3:=hr.q kp3;have m3:=m2.trans hr.mod;have hB:=tbytes_c 32 w3 (HT.out.mod0 m3) (by omega);clear hr hsa;(refine eff_callT (by simp only[zK];rfl) (by rfl) ?y6 hB ?hout (fun vn wn hR=> ?hret) (fun ch wn hR=> ?hpan);(case y6=>(go_simp;(try(first|with_reducible rfl|(constructor<;>with_reducible rfl))))))
 case hout=>exact fun w' h=>h.noOut
 case hpan=>exact hR.noPan.elim
 case hret=>
 obtain⟨v,x,k',e',e1,⟨hO,hx⟩,hTk,hA,hm⟩:=hR;cases e1;have HB3:=Hi hO;have HM:Hid (Mod (fun i=>i=p) w wn):=Hi ((m3.mono (fun _ _ h=>h.elim)).trans hm);have kp2:=hm.at_ne kp2 h23.2.1;have kp3:=hm.at_ne kp3 h23.2.2;have HA:=Hi hA;have HK:=Hi (pKey_cells hTk);obtain⟨w4,rfl⟩:∃w4:World,w4=wn:=⟨_,rfl⟩;(try simp only[zL]);clear hTk hm hA hB;rcases hx with⟨rfl,rfl⟩|hx
 ·have hcp:=copy_none w4 3 ⟨p3,0,none⟩ 32 32;refine Zz ?_;(refine eff_copy (by simp only[zK];rfl) (by rfl) rfl ?hx7 ?hz7 (hcp) ?n7;(case hx7=>simp only[zM];try rfl);(case hz7=>simp only[zM];try rfl);try simp only[zL]);refine TE.nil ?_;replace kp3:w4.heap[p3]? =some (.cells (kc key0) 28 (0,0)):=by rw[kp3,zKey0]
  go_upto_region 3 with fail;have Lkp2:=Ls kp2;have Lkp3:=Ls kp3;refine ZP0 [1,5] ?_;refine Zd ?_;refine Zi fun wE hr=> ?_;replace kp2:=hr.mod.at0 kp2;replace kp3:=hr.mod.at0 kp3;have mE:=hr.mod;refine ZS ?_;refine ZN kp2 fun w9 kp2 mS=> ?_;(try simp only[Array.setIfInBounds,zL]at kp2);replace kp3:=mS.at_ne kp3 (by omega);have HA:=Hi (HT.out.modN (by omega) (HA.out.mod0 mE) mS);have HM:=Hi ((HM.out.then0 mE).then mS (fun i hi e=>by omega));replace kp2:w9.heap[p2]? =some (.cells (kc key0) 28 (0,0)):=kp2;clear mE mS hr;go_wp2_with fail;refine bodyPost_ret (results_cell1 (v:= .agg (kc key0)) rfl rfl (by rw[ldK32];simp[kp2,kc_size,kc_ext])) rfl ?_;exact⟨_,key0,k',e',rfl,rfl,HK.out key0 (fun h=>by cases h),HA.out,HM.out⟩
 ·obtain⟨a2,c2,rfl,hS,-⟩:=HB3.out.at bytesT;rcases hS with h|⟨b,o,C,U,fr,rfl,kb,hcc⟩
  ·rw[h]at hx;cases hx
  have hcp:=copy_all (ty:=3) (n1:=32) (c:=c2) kp3 zKey_size hx kb hcc;have HX:=Hi hx;obtain⟨K,hK⟩:∃K:Key,K=⟨x,hx⟩:=⟨_,rfl⟩;have hKc:(x.map bc).toArray=kc K:=by rw[hK];rfl
  have HK9:Hid (K.l=x):=Hi (by rw[hK]);rw[hKc]at hcp;rw[hx];clear hcc hK hKc HB3 hx;refine Zz ?_;(refine eff_copy (by simp only[zK];rfl) (by rfl) rfl ?hx10 ?hz10 (hcp) ?n10;(case hx10=>simp only[zM];try rfl);(case hz10=>simp only[zM];try rfl);try simp only[zL]);refine TE.nil_set kp3 (fun wn kp3 mS=> ?_);have HA:=Hi (HT.out.modN (by omega) HA.out mS);have HM:=Hi (HM.out.then mS (fun i hi e=>by omega));have kp2:=mS.at_ne kp2 h23.1;clear mS hcp kb;go_upto_region 3 with fail;have Lkp2:=Ls kp2;have Lkp3:=Ls kp3;refine ZP0 [1,5] ?_;refine Zd ?_;refine Zi fun wE hr=> ?_;replace kp2:=hr.mod.at0 kp2;replace kp3:=hr.mod.at0 kp3;have mE:=hr.mod;refine ZS ?_;refine ZN kp2 fun w9 kp2 mS=> ?_;(try simp only[Array.setIfInBounds,zL]at kp2);replace kp3:=mS.at_ne kp3 (by omega);have HA:=Hi (HT.out.modN (by omega) (HA.out.mod0 mE) mS);have HM:=Hi ((HM.out.then0 mE).then mS (fun i hi e=>by omega));replace kp2:w9.heap[p2]? =some (.cells (kc K) 28 (0,0)):=kp2;clear mE mS hr;go_wp2_with fail;refine bodyPost_ret (results_cell1 (v:= .agg (kc K)) rfl rfl (by rw[ldK32];simp[kp2,kc_size,kc_ext])) rfl ?_;exact⟨_,K,k',e',rfl,rfl,HK.out K (fun _=>HK9.out),HA.out,HM.out⟩
end
def Inv {β:Type} (R:PR β) (e:Nat) (F:PR β):Prop:=(e=0→R=F)∧(e≠0→R= .error e)
theorem Inv.start {β:Type} (R:PR β):Inv R 0 R:=⟨fun _=>rfl,fun h=>absurd rfl h⟩
theorem Inv.step {α β:Type} {R:PR β} {e k' e':Nat} {res:PR α} {x:α} {F:α→Nat→PR β} (h:Inv R e (pBind res F)) (ht:Tk e res x k' e') (hn:NE res):Inv R e' (F x k'):=by
 by_cases he:e=0
 ·have h1:=h.1 he;have h2:=ht.1 he;cases res with
  |ok y=>
   obtain⟨rfl,rfl,rfl⟩:=h2;exact⟨fun _=>h1,fun h=>absurd rfl h⟩
  |error n=>
   simp only at h2;subst h2;exact⟨fun h0=>by subst h0;exact absurd rfl hn,fun _=>h1⟩
 ·obtain rfl:=ht.2 he;exact⟨fun h0=>absurd h0 he,h.2⟩
theorem pBind_assoc {α β γ:Type} (r:PR α) (f:α→Nat→PR β) (g:β→Nat→PR γ):pBind (pBind r f) g=pBind r (fun x k=>pBind (f x k) g):=by
 cases r<;>rfl
theorem pList_bind (l:List UInt8) (k:Nat):pList l k=pBind (pShort l k) (fun n k1=>pBytes l k1 n):=by
 unfold pList pBind;split<;>simp_all
theorem pAll_bind {α:Type} (one:Nat→PR α) (l:List UInt8) (k:Nat):pAll one l k=pBind (pShort l k) (fun n k1=>pRep one n k1):=by
 unfold pAll pBind;split<;>simp_all
theorem pInstr_bind (l:List UInt8) (k:Nat):pInstr l k=pBind (pByte l k) (fun q k1=>pBind (pList l k1) (fun x k2=>pBind (pList l k2) (fun y k3=> .ok (⟨q,x,y⟩,k3)))):=by
 unfold pInstr pBind;cases pByte l k with
 |error e=>rfl
 |ok y=>
  simp only;cases pList l y.2 with
  |error e=>rfl
  |ok z=>
   simp only;cases pList l z.2<;>rfl
theorem pLook_bind (l:List UInt8) (k:Nat):pLook l k=pBind (pKey l k) (fun q k1=>pBind (pList l k1) (fun x k2=>pBind (pList l k2) (fun y k3=> .ok (⟨q,x,y⟩,k3)))):=by
 unfold pLook pBind;cases pKey l k with
 |error e=>rfl
 |ok y=>
  simp only;cases pList l y.2 with
  |error e=>rfl
  |ok z=>
   simp only;cases pList l z.2<;>rfl
theorem Tk.bind {α β:Type} {e k1 e1 k2 e2:Nat} {res:PR α} {x:α} {f:α→Nat→PR β} {y:β} (h:Tk e res x k1 e1) (hn:NE res) (h2:Tk e1 (f x k1) y k2 e2):Tk e (pBind res f) y k2 e2:=by
 by_cases he:e=0
 ·subst he;have h1:=h.1 rfl;cases res with
  |ok z=>
   obtain⟨rfl,rfl,rfl⟩:=h1;exact h2
  |error n=>
   simp only at h1;subst h1;have hn0:e1≠0:=fun h0=>by subst h0;exact hn rfl
   exact⟨fun _=>h2.2 hn0,fun h=>absurd rfl h⟩
 ·have e3:=h.2 he;subst e3;have e4:=h2.2 he;subst e4;exact Tk.bad he
theorem Tk.list {e k k1 e1 k2 e2 n:Nat} {l x:List UInt8} (h:Tk e (pShort l k) n k1 e1) (h2:Tk e1 (pBytes l k1 n) x k2 e2):Tk e (pList l k) x k2 e2:=by
 rw[pList_bind];exact h.bind (NE.short l k) h2
theorem Tk.pure {α:Type} {e k:Nat} {x:α}:Tk e (.ok (x,k):PR α) x k e:=⟨fun he=>⟨rfl,rfl,he⟩,fun _=>rfl⟩
theorem Inv.all0 {α β:Type} {R:PR β} {e k k1 e1 n:Nat} {l:List UInt8} {one:Nat→PR α} {F:List α→Nat→PR β} (h:Inv R e (pBind (pAll one l k) F)) (ht:Tk e (pShort l k) n k1 e1):Inv R e1 (pBind (pMore [] (pRep one (n-0) k1)) F):=by
 rw[pAll_bind,pBind_assoc]at h;rw[pMore_nil];exact h.step ht (NE.short l k)
theorem Inv.rep {α β:Type} {R:PR β} {i k k2 e2 n:Nat} {one:Nat→PR α} {F:List α→Nat→PR β} {L:List α} {x:α} (hi:i<n) (h:Inv R 0 (pBind (pMore L (pRep one (n-i) k)) F)) (ht:Tk 0 (one k) x k2 e2) (hn:NE (one k)):Inv R e2 (pBind (pMore (L++[x]) (pRep one (n-(i+1)) k2)) F):=by
 rw[show n-i=(n-(i+1))+1 by omega]at h;have h1:=ht.1 rfl;cases hr:one k with
 |ok y=>
  rw[hr]at h1;obtain⟨rfl,rfl,rfl⟩:=h1;rw[pMore_step L hr]at h;exact h
 |error m=>
  rw[hr]at h1;simp only at h1;subst h1;rw[pMore_err L hr]at h;exact⟨fun h0=>by subst h0;rw[NE,hr]at hn;exact absurd rfl hn,fun _=>h.1 rfl⟩
theorem Inv.done {α β:Type} {R:PR β} {e i k n:Nat} {one:Nat→PR α} {F:List α→Nat→PR β} {L:List α} (h:Inv R e (pBind (pMore L (pRep one (n-i) k)) F)) (hd:n-i=0∨e≠0):Inv R e (F L k):=by
 rcases hd with hd|hd
 ·rw[hd,pRep]at h;simpa[pMore,pBind] using h
 ·exact⟨fun h0=>absurd h0 hd,h.2⟩
def YAt (b:Nat) (w:World) (a:Option Addr) (l:List UInt8) (c:Nat):Prop:=SlAt uc 1 w a l∧(∀x,a=some x→b≤x.block∧∃C,w.heap[x.block]? =some (.cells C 5 (0,0)))∧l.length≤c∧(a=none→c=0)
theorem YAt.mod {b:Nat} {w w':World} {a:Option Addr} {l:List UInt8} {c:Nat} {S:Nat→Prop} (h:YAt b w a l c) (hm:Mod S w w') (hS:∀g C,w.heap[g]? =some (.cells C 5 (0,0))→¬S g):YAt b w' a l c:=
 ⟨h.1.mod hm (fun g o e=>by obtain⟨_,C,hk⟩:=h.2.1 _ e;exact hS g C hk),fun x e=>(by
  obtain⟨h1,C,hk⟩:=h.2.1 x e;exact⟨h1,C,hm.at hk (hS _ C hk)⟩),h.2.2⟩
theorem YAt.of {b base:Nat} {w:World} {a:Option Addr} {n c:Nat} {l:List UInt8} (h:SlOwn uc 1 5 w base (.slice a n c) l) (hb:b≤base):YAt b w a l c:=by
 obtain⟨a2,c2,e,hS,-⟩:=h.at bytesT;injection e with e1 e2 e3
 subst e1;rcases h.2 with⟨h2,h5⟩|⟨g,cap,cur,h2,h3,h4,h5,_⟩
 ·cases h2;exact⟨hS,fun x hx=>(by cases hx),by omega,fun _=>rfl⟩
 ·cases h2;exact⟨hS,fun x hx=>(by cases hx;exact⟨Nat.le_trans hb h3,cur,h4⟩),h5,fun e=>(by cases e)⟩
section
section
variable {P:Program} {ops:Array Oper} {Q:Exit→Act→World→Prop} {T0:Nat→Prop} {w0:World} {κ:Nat→Nat} {υ:Nat→List Tmp}
theorem TG.soundE (hsel:∀(j:Nat) (p:Oper) cs b,ops[j]? =some p→p.op≠ .select cs b)
  (hback:∀i o,ops[i]? =some o→∀e∈o.after,Region.binds .any e=true→e.on<i) {rest:List Nat} (hrest:pairsOk ops κ rest=true):
  ∀(fuel:Nat) (l:List Nat) (listed:Array Bool) (a:Act) (B:Bx) (K:Land) (w:World),l.length=fuel→(l++rest).Nodup→(∀i∈l++rest,i<ops.size)→gPairsOk ops κ υ l=true→
   (∀x∈l,∀y∈rest,x≠y∧(behindB ops x).testBit y=true)→Listing ops listed (l++rest)→Closed K→
   RG T0 w0 B K w→TG P ops (fun _ a w=>TE P ops Q κ rest a w) T0 w0 κ υ l a B K→wpAny P .any ops Q (rest.length+fuel) listed a w:=by
 intro fuel
 induction fuel with
 |zero=>
  intro l listed a B K w hl hn hlt hp hb hL hK hR h;obtain rfl:l=[]:=List.length_eq_zero_iff.1 hl;have hte:TE P ops Q κ rest a w:=by
   cases h with|nil h=>exact h w hR
  exact TE.sound hsel hback _ rest listed a w rfl (by simpa using hn) (by simpa using hlt) hrest (by simpa using hL) hte
 |succ fuel ih=>
  intro l listed a B K w hl hn hlt hp hb hL hK hR h;refine⟨fun hnil=> ?_,fun i hi=> ?_⟩
  ·exfalso
   match l,hl with
   |i::l',_=>exact exists_ready hback hL hlt i i (by simp) (Nat.le_refl _) hnil
  ·obtain⟨hun,o,ho,hall⟩:=mem_ready.1 hi;have hil:i∈l:=by
    rcases List.mem_append.1 ((hL.mem i).2 hun)with hin|hin
    ·exact hin
    ·exfalso;clear h
     match l,hl with
     |x::l',_=>
      have hxy:=hb x (by simp) i hin;obtain⟨_,hpth⟩:=(behindB_path hxy.2).resolve_left (fun e=>hxy.1 e.symm);have hl1:=path_listed hL.closed _ x i o ho hall hpth;have hl2:=getD_false_of_true ((hL.mem x).1 (by simp));rw[hl1]at hl2;cases hl2
   obtain⟨pre,post,rfl⟩:=List.append_of_mem hil;obtain⟨h1,h2⟩:=gPairsOk_split hp;have hf:=TG.front hsel ho pre a B K hK ⟨w,hR⟩ (fun x hx=>by
    have:=h1 x hx;unfold gPairOk at this;have hxo:ops[x]? =some (ops[x]'(hlt x (by simp[hx]))):=Array.getElem?_eq_getElem _;rw[hxo,ho]at this;simp only[Bool.or_eq_true,Bool.and_eq_true]at this;rcases this with hpth|hok
    ·obtain⟨_,hpth⟩:=(behindB_path hpth.2).resolve_left (fun e=>by have:=hpth.1;simp[e]at this);have hl1:=path_listed hL.closed _ x i o ho hall hpth;have hl2:=getD_false_of_true ((hL.mem x).1 (by simp[hx]));rw[hl1]at hl2;cases hl2
    ·exact⟨_,hxo,hok.1,hok.2⟩) h
   have hl':(pre++post).length=fuel:=by simp at hl⊢;omega
   have hsub:((pre++post)++rest).Sublist ((pre++i::post)++rest):=List.Sublist.append_right (List.Sublist.append_left (List.sublist_cons_self _ _) _) _;have hn':((pre++post)++rest).Nodup:=hn.sublist hsub;have hlt':∀j∈(pre++post)++rest,j<ops.size:=fun j hj=>hlt j (hsub.subset hj);have hb':∀x∈pre++post,∀y∈rest,x≠y∧(behindB ops x).testBit y=true:=fun x hx=>hb x ((List.Sublist.append_left (List.sublist_cons_self i post) pre).subset hx);have hL':Listing ops (listed.setIfInBounds i true) ((pre++post)++rest):=by
    have:=Listing.next (pre:=pre) (post:=post++rest) (i:=i) (by simpa using hL) (by simpa using hn) ho hall;simpa using this
   rcases hf.kinds with ko|ko|ko|ko
   ·obtain⟨v,hy,ht⟩:=hf.inv_val ko ho;obtain⟨T,hRT⟩:=hR;exact YieldsIf.wpOp ho hy hRT.mod (ih _ _ _ _ _ _ hl' hn' hlt' h2 hb' hL' hK ⟨T,hRT⟩ ht)
   ·obtain⟨hw,d,T,z,V,hd,hr,ht⟩:=hf.inv_alloc ko ho;obtain⟨U,hRT⟩:=hR;have hR':RG T0 w0 (B.set w.heap.size ⟨z,T,d⟩) K (w.alloc (.cells z T)):=⟨U,hRT.alloc hK z T d⟩;unfold wpOp;simp only[ho,hw,if_true];refine .inl ?_;unfold Oper.wp;rw[hr w];exact ih _ _ _ _ _ _ hl' hn' hlt' h2 hb' hL' hK hR' (ht _ hRT.none ⟨_,hR'⟩)
   ·obtain⟨hw,hd,d,T,y,p,b,hop,hev,hbb,htag,hr,ht⟩:=hf.inv_store ko ho;obtain⟨U,hRT⟩:=hR;unfold wpOp;simp only[ho,hw,if_true];refine .inl ?_;unfold Oper.wp;rw[hr w (hRT.box p b hbb).2.2];simp only[Oper.upon,hd];exact ih _ _ _ _ _ _ hl' hn' hlt' h2 hb' hL' hK ⟨U,hRT.store hK hbb _⟩ ht
   ·obtain⟨hw,K',hE,ht⟩:=hf.inv_eff ko ho;obtain⟨U,hRT⟩:=hR;exact(hE.step hRT).wp ho hw fun v w' hv=>ih _ _ _ _ _ _ hl' hn' hlt' h2 hb' hL' (hE.cl v) hv (ht v ⟨w',hv⟩)
def eRegOk (ops:Array Oper) (κ:Nat→Nat) (υ:Nat→List Tmp) (l rest:List Nat):Bool:=
 Region.noSelect ops&&((List.range ops.size).all fun i=>match ops[i]? with|none=>false|some o=>o.after.all fun e=> !Region.binds .any e||decide (e.on<i))&&
 (decide (rest.length+l.length=ops.size)&&((l++rest).all (fun i=>decide (i<ops.size))&&((List.range ops.size).all fun i=>(l++rest).contains i)))&&
 (decide (l++rest).Nodup&&gPairsOk ops κ υ l&&pairsOk ops κ rest&&l.all (fun x=>rest.all fun y=> !(x==y)&&(behindB ops x).testBit y))
theorem e_any {a:Act} {w1:World} {K:Land} (l rest:List Nat) (hok:eRegOk ops κ υ l rest=true) (hK:Closed K) (hR:RG T0 w0 Bx.nil K w1)
  (h:TG P ops (fun _ a w=>TE P ops Q κ rest a w) T0 w0 κ υ l a Bx.nil K):wpAny P .any ops Q ops.size (Array.replicate ops.size false) a w1:=by
 simp only[eRegOk,Bool.and_eq_true,List.all_eq_true,decide_eq_true_eq]at hok;obtain⟨⟨⟨h1,h2⟩,h3,h4,h5⟩,⟨⟨hnd,h6⟩,h7⟩,h8⟩:=hok;have hback:∀i o,ops[i]? =some o→∀e∈o.after,Region.binds .any e=true→e.on<i:=fun i o ho e he hb=>by
  have:=h2 i (List.mem_range.2 (Array.getElem?_eq_some_iff.1 ho).1);rw[ho]at this;have:=Array.all_eq_true_iff_forall_mem.1 this e he;simpa[hb] using this
 rw[←h3];refine TG.soundE (Region.noSelect_spec h1) hback h7 _ l _ a _ _ _ rfl hnd h4 h6 (fun x hx y hy=> ?_) ?_ hK hR h
 ·have:=h8 x hx y hy;exact⟨by simpa using this.1,this.2⟩
 ·rw[h3];refine⟨by simp,fun i=> ?_,fun i o hi=> ?_⟩
  ·constructor
   ·intro hi;have:=h4 i hi;simp[this]
   ·intro hi;have:i<ops.size:=by
     rcases Nat.lt_or_ge i ops.size with h'|h'
     ·exact h'
     ·simp[Nat.not_lt.2 h']at hi
    simpa using h5 i (List.mem_range.2 this)
  ·exfalso;have:(Array.replicate ops.size false).getD i false=false:=by
    by_cases h':i<ops.size
    ·simp[h']
    ·simp[h']
   rw[this]at hi;cases hi
theorem wp_epass {id:Nat} {a:Act} {w:World} {K:Land} (l rest:List Nat) (hm:P.follows .mixedOrders=true) (hok:eRegOk ops κ υ l rest=true) (hK:Closed K) (hk:K T0 w) (hlt:∀i,T0 i→i<w.heap.size)
  (h:TG P ops (fun _ a w=>TE P ops Q κ rest a w) T0 w κ υ l a Bx.nil K):(Code.region id ops true).wp P Q a w:=
 wp_region_any hm (e_any l rest hok hK ⟨T0,hK T0 w w.drew hk (Mod.refl _ w).drew,hlt,fun _ _ h=>h,(Mod.refl _ w).drew,fun _ _ hh=>by cases hh⟩ h)
theorem TG.appK {i:Nat} {r:List Nat} {a:Act} {B:Bx} {K:Land} {o:Oper} {x y:Operand} {X Y:Value} {ts:Array TypeId} (K':Value→Land) (hcl:∀v,Good (K' v)) (ho:ops[i]? =some o) (hk:κ i=6) (hw:Region.wanted o (yielded ops a.tmps)=true)
  (hop:o.op= .call {callee:= .builtin .append,args:= #[x,y],argTypes:=ts}) (hx:a.eval x=X) (hy:a.eval y=Y)
  (hr:∀T w,K T w→(∀i,T i→i<w.heap.size)→Mod T0 w0 w→UB T (υ i) B w→∃v w',(Builtin.append_ ts o.type #[X,Y]).run P w= .ok v w'∧Mod T w w'∧K' v (Grow T w w') w')
  (h:∀v,Inh T0 w0 B (K' v)→TG P ops Q T0 w0 κ υ r (a.put o.dst v) B (K' v)):TG P ops Q T0 w0 κ υ (i::r) a B K:=by
 refine TG.eff' K' ho hk hw (fun v=>(hcl v).cl) (fun T w k1 k2 k3 k4=> .inl ?_) h;obtain⟨v,w',h1,h2⟩:=hr T w k1 k2 k3 k4;refine⟨v,w',?_,h2⟩;subst hx;subst hy;simp[execOp,hop,resolve,invoke,builtin,h1]
end
end
end Go.Proofs.YtiaehkkkcaeaiaaGreatDoor