/- The lemmas of the proof, part YO10: how the program and its data lie in memory, and what its functions do. -/
import Derived.Test.YtblbegbjlaokjaaGreatDoorYU9
set_option linter.unusedSimpArgs false
set_option linter.unusedVariables false
set_option linter.unusedSectionVars false

set_option maxRecDepth 20000
set_option maxHeartbeats 3200000
namespace Go.Proofs.YtblbegbjlaokjaaGreatDoor
open Go.RowKit
open Go.ChangeMaps (setBlock)
attribute [local go_sem↓] f9 jX gG mX gJ nB
attribute [local go_sem] Value.cells aJ aC eB dR cW kc_size aL aO aP aQ aI dZ eT bI bH kS
section
attribute [local go_sem] lO pK
theorem IV {w:We} {a:Wb} {l:List oU} (h:aS inr 3 w a l) {i:Nat} {x:oU} (hx:l[i]? =some x):∃g o C U fr,a=some ⟨g,o,none⟩∧w.heap[g]? =some (.cells C U fr)∧C[o+i*3+1]? =some (.slice x.a.a x.a.l.length x.a.c)∧C[o+i*3+2]? =some (.slice x.d.a x.d.l.length x.d.c):=by
 obtain⟨g,o,C,U,fr,rfl,hk,he,_⟩:=h.block hx;exact⟨g,o,C,U,fr,rfl,hk,jV he (j:=1) rfl,jV he (j:=2) rfl⟩
theorem I3 {w:We} {a:Wb} {l:List o8} (h:aS lor 34 w a l) {i:Nat} {x:o8} (hx:l[i]? =some x):∃g o C U fr,a=some ⟨g,o,none⟩∧w.heap[g]? =some (.cells C U fr)∧C[o+i*34+32]? =some (.slice x.w.a x.w.l.length x.w.c)∧C[o+i*34+33]? =some (.slice x.r.a x.r.l.length x.r.c):=by
 obtain⟨g,o,C,U,fr,rfl,hk,he,_⟩:=h.block hx;exact⟨g,o,C,U,fr,rfl,hk,jV he (j:=32) (qZ _ _ 0),jV he (j:=33) (qZ _ _ 1)⟩
def GrR (p:Prop) (w:We) (e:Ending) (w':We):Prop:=∃b,e= .returned (.bool b)∧(b=false→p)∧Mod (fun _=>False) w w'
theorem GrR.of {p:Prop} {w:We} {e:Ending} {w':We} (b:Bool) (he:e= .returned (.bool b)) (hp:b=false→p) (hm:Mod (fun _=>False) w w'):GrR p w e w':=⟨b,he,hp,hm⟩
theorem JV (x:cT):(b9 x)[0]? =some (.slice x.b.a x.b.l.length x.b.c):=jY (i:=0) (by simp[dF])
theorem NO (x:cT) (h:0<(b9 x).size):(b9 x)[0]= .slice x.b.a x.b.l.length x.b.c:=aU (JV x) h
theorem AG (x:cT):(b9 x)[1]? =some (.slice x.sg.a x.sg.l.length x.sg.c):=jY (i:=1) (by simp[dF])
theorem NP (x:cT) (h:1<(b9 x).size):(b9 x)[1]= .slice x.sg.a x.sg.l.length x.sg.c:=aU (AG x) h
theorem JY (x:cT):(b9 x)[6]? =some (.slice x.ks.a x.ks.l.length x.ks.c):=jY (i:=6) (by simp[dF])
theorem NQ (x:cT) (h:6<(b9 x).size):(b9 x)[6]= .slice x.ks.a x.ks.l.length x.ks.c:=aU (JY x) h
theorem CJ (x:cT):(b9 x)[39]? =some (.slice x.ins.a x.ins.l.length x.ins.c):=fC (pre:=dF x) 0
theorem JW (x:cT) (h:39<(b9 x).size):(b9 x)[39]= .slice x.ins.a x.ins.l.length x.ins.c:=aU (CJ x) h
theorem CK (x:cT):(b9 x)[40]? =some (.slice x.lks.a x.lks.l.length x.lks.c):=fC (pre:=dF x) 1
theorem JX (x:cT) (h:40<(b9 x).size):(b9 x)[40]= .slice x.lks.a x.lks.l.length x.lks.c:=aU (CK x) h
attribute [local go_sem] JV NO AG NP JY NQ CJ JW CK JX
structure PJ (x:cT):Prop where
 b:x.b.l.length≤140737488355328
 ro:x.ro.l.length≤140737488355328
 sg:x.sg.l.length≤140737488355328
 ks:x.ks.l.length≤140737488355328
 ins:x.ins.l.length≤140737488355328
 lks:x.lks.l.length≤140737488355328
 insB:∀y∈x.ins.l,y.a.l.length≤140737488355328∧y.d.l.length≤140737488355328
 lksB:∀y∈x.lks.l,y.w.l.length≤140737488355328∧y.r.l.length≤140737488355328
theorem eE {a b:Nat} (ha:a≤4503599627370496) (hb:b≤4503599627370496):IntKind.i64.wrap ((a:Int)+(b:Int))=((a+b:Nat):Int):=by
 rw[IntKind.wrap_i64];omega
theorem great15_c (x:cT) (w:We) (hi:aS inr 3 w x.ins.a x.ins.l) (hk:aS lor 34 w x.lks.a x.lks.l) (dh:PJ x):
  Calls Tryz.prog 8 #[.agg (b9 x)] w (GrR (iU x.con∧x.ro.l.length≤300) w):=by
 have HI:=Hi hi;have HK:=Hi hk;obtain⟨b1,b2,b3,b4,b5,b6,b7,b8⟩:=dh;have HB:=Hi (Ai b7 b8);clear hi hk b7 b8;go_enter Tryz.func8,Tryz.ntmps8;go_upto_region 0 with fail;refine ZP0 [3,0] ?_;refine Zb fun p1 fx=> ?_;refine Zv ?_;refine TD.nil (fun w1 hr=> ?_);obtain⟨gp1,kp1⟩:=hr.b p1;have m1:=hr.mod;clear hr;have e1:=eE (a:=x.b.l.length) (b:=x.ro.l.length) (by omega) (by omega);obtain⟨n1,je⟩:∃n1,x.b.l.length+x.ro.l.length=n1:=⟨_,rfl⟩;rw[je]at e1;have e2:=eE (a:=n1) (b:=x.sg.l.length) (by omega) (by omega);obtain⟨n2,dy⟩:∃n2,n1+x.sg.l.length=n2:=⟨_,rfl⟩;rw[dy]at e2;have e3:=eE (a:=n2) (b:=x.ks.l.length) (by omega) (by omega);obtain⟨n3,jk⟩:∃n3,n2+x.ks.l.length=n3:=⟨_,rfl⟩;rw[jk]at e3;have e4:=eE (a:=n3) (b:=x.ins.l.length) (by omega) (by omega);obtain⟨n4,Qr⟩:∃n4,n3+x.ins.l.length=n4:=⟨_,rfl⟩;rw[Qr]at e4;have e5:=eE (a:=n4) (b:=x.lks.l.length) (by omega) (by omega);obtain⟨n5,tz⟩:∃n5,n4+x.lks.l.length=n5:=⟨_,rfl⟩;rw[tz]at e5;have H5:=Hi (Ai je (Ai dy (Ai jk (Ai Qr tz))));have Ij:n5≤1000000000000000:=by omega
 clear je dy jk Qr tz;go_upto_region 1 with fail;have Lkp1:=aA kp1;refine ZP0 [0,1,0,0,1,0,0,0,0,1,0,0,0,0,0,1,0,0,0,0,0,1,0,0,0,0,0,1,0,0,0] ?_
 iterate 31 first|refine Zv ?_|refine Zd ?_
 refine TD.nil (fun w2 hr=> ?_);replace kp1:=hr.q kp1;have m2:=m1.then0 hr.mod;have KP:=Hi kp1;have HS:Hid (n5≤n5∧∀y∈x.ins.l.take 0,y.a.l.length≤n5∧y.d.l.length≤n5):=Hi ⟨aZq _,fun y hy=>by rw[List.take_zero]at hy;cases hy⟩;clear hr m1 e1 e2 e3 e4 e5;go_wp2_with fail;go_loopw [3,4] (fun s3 s4 ws=>∃(i n:Nat),i≤x.ins.l.length∧n≤1000000000000000∧s3= .int .i64 (n:Int)∧s4= .int .i64 (i:Int)∧Hid (n5≤n∧∀y∈x.ins.l.take i,y.a.l.length≤n∧y.d.l.length≤n)∧Mod (fun _=>False) w2 ws) (fun _ s4 _=>x.ins.l.length-(intOf s4).toNat)
 case atStart=>exact⟨0,n5,by omega,Ij,rfl,rfl,HS,Mod.refl _ _⟩
 case round=>
  obtain⟨i,n,hi,wi,rfl,rfl,HN,hm⟩:=hrel;have kp1:=hm.at0 kp1;have mm:=m2.trans hm;have MM:=Hi hm;clear hm;go_upto_region 3 with fail;go_cut [46]from 36 to 46 (fun s wx=>∃b:Bool,s= .bool b∧Hid (b=true↔(i<x.ins.l.length∧n<20000))∧Hid (wx=wr))
  case first=>
   by_cases hlt:i<x.ins.l.length
   ·have ut:decide ((i:Int)<(x.ins.l.length:Int))=true:=Dt (by omega);by_cases hn:n<20000
    ·have Ci:decide ((n:Int)<20000)=true:=Dt (by omega);go_wp2_with fail;go_meet;exact⟨true,rfl,Hi (by simp[hlt,hn]),Hi rfl⟩
    ·have Ci:decide ((n:Int)<20000)=false:=Df (by omega);go_wp2_with fail;go_meet;exact⟨false,rfl,Hi (by simp[hlt,hn]),Hi rfl⟩
   ·have ut:decide ((i:Int)<(x.ins.l.length:Int))=false:=Df (by omega);go_wp2_with fail;go_meet;exact⟨false,rfl,Hi (by simp[hlt]),Hi rfl⟩
  case rest=>
   obtain⟨b,rfl,hb,Tm⟩:=hcut;have hwe:=Tm.out;subst hwe;clear Tm;cases b with
   |true=>
    obtain⟨hlt,hn⟩:=hb.out.1 rfl;have ut:decide ((i:Int)<(x.ins.l.length:Int))=true:=Dt (by omega);obtain⟨y,hy⟩:∃y,x.ins.l[i]? =some y:=⟨_,aZb hlt⟩;obtain⟨g,o,C,U,fr,ha,kg,c1,c2⟩:=IV (HI.out.mod0 mm) hy;have tj:=HB.out.1 y (aZi hy);have e1:=eE (a:=n) (b:=y.a.l.length) (by omega) (by omega);obtain⟨q1,yy⟩:∃q1,n+y.a.l.length=q1:=⟨_,rfl⟩;rw[yy]at e1;have e2:=eE (a:=q1) (b:=y.d.l.length) (by omega) (by omega);obtain⟨q2,Bk⟩:∃q2,q1+y.d.l.length=q2:=⟨_,rfl⟩;rw[Bk]at e2;have Rw:q2≤1000000000000000:=by omega
    have Cy:Hid (n5≤q2∧∀z∈x.ins.l.take (i+1),z.a.l.length≤q2∧z.d.l.length≤q2):=Hi (by
     obtain⟨h1,h2⟩:=HN.out;refine⟨by omega,fun z hz=> ?_⟩;rw[aYa,hy]at hz;rcases aZh.1 hz with hz|hz
     ·have:=h2 z hz;omega
     ·have hz:=aZm.1 hz;subst hz;omega)
    clear hy tj yy Bk hb;go_upto_region 5 with fail;have Lkp1:=aA kp1;have Lkg:=aA kg;refine ZP [0,0,0,0,1,0,0,0,1,0,0,0,0,0,1,0,0,0,1,0,0,0] ?_
    iterate 22 first|refine Zv ?_|refine Zd ?_
    refine TD.nil (fun w3 hr=> ?_);replace kp1:=hr.q kp1;replace kg:=hr.q kg;have qc:=MM.out.then0 hr.mod;clear hr c1 c2 ha e1 e2;go_wp2_with fail;go_roundw
    case rel=>exact⟨i+1,q2,by omega,Rw,rfl,by go_num,Cy,qc⟩
    case measure=>simp[intOf];omega
   |false=>
    have HP:Hid (n≤10000→n5≤10000∧∀y∈x.ins.l,y.a.l.length≤10000∧y.d.l.length≤10000):=Hi (fun hn=>by
     have hge:¬i<x.ins.l.length:=fun h=>Bool.false_ne_true (hb.out.2 ⟨h,by omega⟩);obtain⟨h1,h2⟩:=HN.out;rw[aY6 (by omega)]at h2;exact⟨by omega,fun y hy=>by have:=h2 y hy;omega⟩)
    clear HN hb;go_wp2_with fail;obtain⟨wa,rfl⟩:∃wa:We,wa=wc:=⟨_,rfl⟩;have HS:Hid ((n≤10000→n5≤10000∧∀y∈x.ins.l,y.a.l.length≤10000∧y.d.l.length≤10000)∧∀y∈x.lks.l.take 0,y.w.l.length≤n∧y.r.l.length≤n):=Hi ⟨HP.out,fun y hy=>by rw[List.take_zero]at hy;cases hy⟩;go_loopw [3,5] (fun s3 s5 ws=>∃(i n:Nat),i≤x.lks.l.length∧n≤1000000000000000∧s3= .int .i64 (n:Int)∧s5= .int .i64 (i:Int)∧Hid ((n≤10000→n5≤10000∧∀y∈x.ins.l,y.a.l.length≤10000∧y.d.l.length≤10000)∧∀y∈x.lks.l.take i,y.w.l.length≤n∧y.r.l.length≤n)∧Mod (fun _=>False) w2 ws) (fun _ s5 _=>x.lks.l.length-(intOf s5).toNat)
    case atStart=>exact⟨0,n,by omega,wi,rfl,rfl,HS,MM.out⟩
    case round=>
     clear kp1 mm wi HS HP MM;obtain⟨i,n,hi,wi,rfl,rfl,HN,hm⟩:=hrel;have kp1:=hm.at0 KP.out;have mm:=m2.trans hm;have MM:=Hi hm;clear hm;go_upto_region 7 with fail;go_cut [80]from 70 to 80 (fun s wx=>∃b:Bool,s= .bool b∧Hid (b=true↔(i<x.lks.l.length∧n<20000))∧Hid (wx=wr))
     case first=>
      by_cases hlt:i<x.lks.l.length
      ·have ut:decide ((i:Int)<(x.lks.l.length:Int))=true:=Dt (by omega);by_cases hn:n<20000
       ·have Ci:decide ((n:Int)<20000)=true:=Dt (by omega);go_wp2_with fail;go_meet;exact⟨true,rfl,Hi (by simp[hlt,hn]),Hi rfl⟩
       ·have Ci:decide ((n:Int)<20000)=false:=Df (by omega);go_wp2_with fail;go_meet;exact⟨false,rfl,Hi (by simp[hlt,hn]),Hi rfl⟩
      ·have ut:decide ((i:Int)<(x.lks.l.length:Int))=false:=Df (by omega);go_wp2_with fail;go_meet;exact⟨false,rfl,Hi (by simp[hlt]),Hi rfl⟩
     case rest=>
      obtain⟨b,rfl,hb,Tm⟩:=hcut;have hwe:=Tm.out;subst hwe;clear Tm;cases b with
      |true=>
       obtain⟨hlt,hn⟩:=hb.out.1 rfl;have ut:decide ((i:Int)<(x.lks.l.length:Int))=true:=Dt (by omega);obtain⟨y,hy⟩:∃y,x.lks.l[i]? =some y:=⟨_,aZb hlt⟩;obtain⟨g,o,C,U,fr,ha,kg,c1,c2⟩:=I3 (HK.out.mod0 mm) hy;have tj:=HB.out.2 y (aZi hy);have e1:=eE (a:=n) (b:=y.w.l.length) (by omega) (by omega);obtain⟨q1,yy⟩:∃q1,n+y.w.l.length=q1:=⟨_,rfl⟩;rw[yy]at e1;have e2:=eE (a:=q1) (b:=y.r.l.length) (by omega) (by omega);obtain⟨q2,Bk⟩:∃q2,q1+y.r.l.length=q2:=⟨_,rfl⟩;rw[Bk]at e2;have Rw:q2≤1000000000000000:=by omega
       have Cy:Hid ((q2≤10000→n5≤10000∧∀y∈x.ins.l,y.a.l.length≤10000∧y.d.l.length≤10000)∧∀z∈x.lks.l.take (i+1),z.w.l.length≤q2∧z.r.l.length≤q2):=Hi (by
        obtain⟨h1,h2⟩:=HN.out;refine⟨fun h=>h1 (by omega),fun z hz=> ?_⟩;rw[aYa,hy]at hz;rcases aZh.1 hz with hz|hz
        ·have:=h2 z hz;omega
        ·have hz:=aZm.1 hz;subst hz;omega)
       clear hy tj yy Bk hb;go_upto_region 9 with fail;have Lkp1:=aA kp1;have Lkg:=aA kg;refine ZP [0,0,0,0,1,0,0,0,1,0,0,0,0,0,1,0,0,0,1,0,0,0] ?_
       iterate 22 first|refine Zv ?_|refine Zd ?_
       refine TD.nil (fun w3 hr=> ?_);replace kp1:=hr.q kp1;replace kg:=hr.q kg;have qc:=MM.out.then0 hr.mod;clear hr c1 c2 ha e1 e2;go_wp2_with fail;go_roundw
       case rel=>exact⟨i+1,q2,by omega,Rw,rfl,by go_num,Cy,qc⟩
       case measure=>simp[intOf];omega
      |false=>
       have HP:Hid (n≤10000→x.ins.l.length≤200→x.ro.l.length≤300→iU x.con∧x.ro.l.length≤300):=Hi (fun hn rf di=>by
        have hge:¬i<x.lks.l.length:=fun h=>Bool.false_ne_true (hb.out.2 ⟨h,by omega⟩);obtain⟨h1,h2⟩:=HN.out;rw[aY6 (by omega)]at h2;obtain⟨h3,h4⟩:=h1 hn;obtain⟨je,dy,jk,Qr,tz⟩:=H5.out;refine⟨⟨by show x.b.l.length≤_;omega,by show x.sg.l.length≤_;omega,by show x.ks.l.length≤_;omega,by show(x.ins.l.map oU.con).length≤_;rw[aZs];omega,fun y hy=> ?_,by show(x.lks.l.map o8.con).length≤_;rw[aZs];omega,fun y hy=> ?_,by show x.ro.l.length≤_;omega⟩,di⟩
        ·obtain⟨z,hz,rfl⟩:=aZj.1 hy;have:=h4 z hz;exact⟨by show z.a.l.length≤_;omega,by show z.d.l.length≤_;omega⟩
        ·obtain⟨z,hz,rfl⟩:=aZj.1 hy;have:=h2 z hz;exact⟨by show z.w.l.length≤_;omega,by show z.r.l.length≤_;omega⟩)
       clear hb;clear HN;go_upto_region 10 with fail;by_cases je:n>10000
       ·have hd:=Dt je;have hdI:decide ((n:Int)>10000)=true:=Dt (by omega);go_wp2_with fail;go_ret;exact GrR.of true rfl (fun h=>by cases h) mm
       ·have hd:=Df je;have hdI:decide ((n:Int)>10000)=false:=Df (by omega);have vb:n≤10000:=by omega
        by_cases gy:x.ins.l.length>200
        ·have rr:decide ((x.ins.l.length:Int)>200)=true:=Dt (by omega);have hd1n:decide (200<x.ins.l.length)=true:=Dt (by omega);have Lkp1:=aA kp1;refine ZP0 [0,0,0,0,0,0,1,0,0,0,0,0,1,0,0,0,0] ?_
         iterate 17 first|refine Zo ?_|refine Zp ?_|refine Zv ?_|refine Zd ?_
         refine TD.nil (fun we hr=> ?_);replace kp1:=hr.q kp1;have mm:=mm.then0 hr.mod;clear hr;go_wp2_with fail;go_ret;exact GrR.of true rfl (fun h=>by cases h) mm
        ·have rr:decide ((x.ins.l.length:Int)>200)=false:=Df (by omega);have hd1n:decide (200<x.ins.l.length)=false:=Df (by omega);by_cases th:x.ro.l.length>300
         ·have cm:decide ((x.ro.l.length:Int)>300)=true:=Dt (by omega);have hd2n:decide (300<x.ro.l.length)=true:=Dt (by omega);have Lkp1:=aA kp1;refine ZP0 [0,0,0,0,0,0,1,0,0,0,0,0,1,0,0,0,0] ?_
          iterate 17 first|refine Zv ?_|refine Zd ?_
          refine TD.nil (fun we hr=> ?_);replace kp1:=hr.q kp1;have mm:=mm.then0 hr.mod;clear hr;go_wp2_with fail;go_ret;exact GrR.of true rfl (fun h=>by cases h) mm
         ·have cm:decide ((x.ro.l.length:Int)>300)=false:=Df (by omega);have hd2n:decide (300<x.ro.l.length)=false:=Df (by omega);have Lkp1:=aA kp1;refine ZP0 [0,0,0,0,0,0,1,0,0,0,0,0,1,0,0,0,0] ?_
          iterate 17 first|refine Zv ?_|refine Zd ?_
          refine TD.nil (fun we hr=> ?_);replace kp1:=hr.q kp1;have mm:=mm.then0 hr.mod;clear hr;go_wp2_with fail;go_ret;exact GrR.of false rfl (fun _=>HP.out vb (by omega) (by omega)) mm
end
structure pQ where
 what:Wk
 num:Wj
 r:cT
 h:aN
 wk:Wi
def Y7 (x:pQ):List Wg:=Value.int .u8 (x.what.toNat:Int)::u64v x.num::((b9 x.r).toList++((kc x.h).toList++[Value.int .i64 x.wk.toInt]))
def yO (x:pQ):Wa:=(Y7 x).toArray
theorem TY (x:pQ):(yO x)[0]? =some (.int .u8 (x.what.toNat:Int)):=rfl
theorem UC (x:pQ):(yO x).extract 2 50=b9 x.r:=by
 apply aZ1.1;rw[aXv];show((b9 x.r).toList++((kc x.h).toList++[Value.int .i64 x.wk.toInt])).take 48=_;rw[List.take_left' (by rw[aYd,bI])]
theorem TZ (x:pQ):(yO x).extract 50 82=kc x.h:=by
 apply aZ1.1;rw[aXv];show(((b9 x.r).toList++((kc x.h).toList++[Value.int .i64 x.wk.toInt])).drop 48).take 32=_;rw[List.drop_left' (by rw[aYd,bI]),List.take_left' (by simp)]
theorem PK (x:pQ) {j:Nat} (hj:j<48):(yO x)[2+j]? =(b9 x.r)[j]? :=by
 unfold yO;rw[zA,Nat.add_comm 2 j];show((b9 x.r).toList++((kc x.h).toList++[Value.int .i64 x.wk.toInt]))[j]? =_;rw[aZt (by rw[aYd,bI];exact hj),aWp]
theorem wK {w:We} {a:Wb} {l:List pQ} (h:aS yO 83 w a l) {i:Nat} {x:pQ} (hx:l[i]? =some x):∃g o C U fr,a=some ⟨g,o,none⟩∧w.heap[g]? =some (.cells C U fr)∧C[o+i*83]? =some (.int .u8 (x.what.toNat:Int))∧C.extract (o+i*83+2) (o+i*83+2+48)=b9 x.r∧C.extract (o+i*83+50) (o+i*83+50+32)=kc x.h∧(∀j,j<48→C[o+i*83+2+j]? =(b9 x.r)[j]?)∧o+i*83+83≤C.size:=by
 obtain⟨g,o,C,U,fr,rfl,hk,he,dh⟩:=h.block hx;have ed:∀j,j<83→C[o+i*83+j]? =(yO x)[j]? :=fun j hj=>by
  rw[←he,aYl,if_pos (by omega)]
 refine⟨g,o,C,U,fr,rfl,hk,(ed 0 (by omega)).trans (TY x),?_,?_,fun j hj=> ?_,dh⟩
 ·rw[←UC,←he,Array.extract_extract];congr 1;omega
 ·rw[←TZ,←he,Array.extract_extract];congr 1;omega
 ·rw[Nat.add_assoc,ed (2+j) (by omega)];exact PK x hj
def TK (w:We) (x:pQ):Prop:=aS inr 3 w x.r.ins.a x.r.ins.l∧aS lor 34 w x.r.lks.a x.r.lks.l∧PJ x.r
def TM (x:pQ):Prop:=iU x.r.con∧x.r.ro.l.length≤300
def WL (x:pQ):Nat:=x.r.ro.l.length
structure O8 (l:List pQ):Prop where
 len:l.length≤60
 each:∀x∈l,TM x
 sum:(l.map WL).sum≤400
theorem K6:∀(l:List pQ),(∀x∈l,TM x)→(l.map WL).sum≤l.length*300
 |[],_=>by simp
 |x::l,h=>by
  have h1:=K6 l fun y hy=>h y (.tail _ hy);have h2:=(h x (.head _)).2;simp only[aZo,List.sum_cons,aZu,aWh,WL];omega
theorem D6 (sa:Wb) (sn sc:Nat) (room win bat fli:Int) (l1 l2 l3 fw:Wg) (hold:Int) (oa:Wb) (on oc:Nat) (a:Wb) (l:List pQ) (c:Nat) (w:We) (hl:aS yO 83 w a l) (hk:∀x∈l,TK w x) (hn:l.length≤140737488355328):
  Calls Tryz.prog 7 #[.agg (oY (.slice sa sn sc) room win bat fli l1 l2 l3 fw hold (.slice oa on oc)),.slice a l.length c] w (GrR ((sn≤64∧on≤100)∧O8 l) w):=by
 have HL:=Hi (Ai hl (Ai hk hn));clear hl hk hn;obtain⟨ll,bw⟩:∃ll,l.length=ll:=⟨_,rfl⟩;have cr:=Hi bw;rw[bw];clear bw;unfold oY;go_enter Tryz.func7,Tryz.ntmps7;go_upto_region 0 with fail;refine ZP0 [3,0] ?_;refine Zb fun p2 ce=> ?_;refine Zv ?_;refine TD.nil (fun w1 hr=> ?_);obtain⟨gp2,kp2⟩:=hr.b p2;have m1:=hr.mod;clear hr;go_upto_region 1 with fail;by_cases n1:sn>64
 ·have rr:decide ((sn:Int)>64)=true:=Dt (by omega);have Lkp2:=aA kp2;refine ZP0 [0,1,0,0,0,0,1,0,0,0,0,0,0,0,0] ?_
  iterate 15 first|refine Zo ?_|refine Zp ?_|refine Zv ?_|refine Zd ?_
  refine TD.nil (fun w2 hr=> ?_);replace kp2:=hr.q kp2;have m2:=m1.then0 hr.mod;clear hr;go_wp2_with fail;go_ret;exact GrR.of true rfl (fun h=>by cases h) m2
 have rr:decide ((sn:Int)>64)=false:=Df (by omega);by_cases n2:on>100
 ·have cm:decide ((on:Int)>100)=true:=Dt (by omega);have Lkp2:=aA kp2;refine ZP0 [0,1,0,0,0,0,1,0,0,0,0,0,0,0,0] ?_
  iterate 15 first|refine Zo ?_|refine Zv ?_|refine Zd ?_
  refine TD.nil (fun w2 hr=> ?_);replace kp2:=hr.q kp2;have m2:=m1.then0 hr.mod;clear hr;go_wp2_with fail;go_ret;exact GrR.of true rfl (fun h=>by cases h) m2
 have cm:decide ((on:Int)>100)=false:=Df (by omega);by_cases n3:ll>60
 ·have Vp:decide ((ll:Int)>60)=true:=Dt (by omega);have Lkp2:=aA kp2;refine ZP0 [0,1,0,0,0,0,1,0,0,0,0,0,0,0,0] ?_
  iterate 15 first|refine Zv ?_|refine Zd ?_
  refine TD.nil (fun w2 hr=> ?_);replace kp2:=hr.q kp2;have m2:=m1.then0 hr.mod;clear hr;go_wp2_with fail;go_ret;exact GrR.of true rfl (fun h=>by cases h) m2
 have Vp:decide ((ll:Int)>60)=false:=Df (by omega);have Lkp2:=aA kp2;refine ZP0 [0,1,0,0,0,0,1,0,0,0,0,0,0,0,0] ?_
 iterate 15 first|refine Zv ?_|refine Zd ?_
 refine TD.nil (fun w2 hr=> ?_);replace kp2:=hr.q kp2;have m2:=m1.then0 hr.mod;have HN:=Hi (Ai n1 n2);have dd:=Hi m2;clear hr n1 n2 rr cm Vp;go_wp2_with fail;go_loopw [5,6] (fun s5 s6 ws=>∃(j n:Nat),j≤ll∧s5= .int .i64 (n:Int)∧s6= .int .i64 (j:Int)∧Hid (n=((l.take j).map WL).sum∧∀x∈l.take j,TM x)∧Hid (Mod (fun _=>False) w2 ws)) (fun _ s6 _=>ll-(intOf s6).toNat)
 case atStart=>exact⟨0,0,by omega,rfl,rfl,Hi ⟨by simp,fun x hx=>by simp at hx⟩,Hi (Mod.refl _ _)⟩
 case round=>
  obtain⟨j,n,hj,rfl,rfl,HJ,HM⟩:=hrel;have wi:n≤18000:=by
   have h1:=K6 _ HJ.out.2;rw[←HJ.out.1,aZ4]at h1;omega
  by_cases hlt:j<ll
  ·have ut:=Dt hlt;obtain⟨x,hx⟩:∃x,l[j]? =some x:=⟨_,aZb (by rw[cr.out];exact hlt)⟩;obtain⟨gg,o,C,U,fr,rfl,kl,c0,he,-,cj,dh⟩:=wK (HL.out.1.mod0 (dd.out.trans HM.out)) hx;have c43:C[o+j*83+43]? =some (.slice x.r.ro.a x.r.ro.l.length x.r.ro.c):=(cj 41 (by omega)).trans (lO x.r);have HX:Hid (l.take (j+1)=l.take j++[x]∧x∈l):=Hi ⟨by rw[aYa,hx];rfl,aZi hx⟩;have cd:=HL.out.2.1 x HX.out.2;clear hx cj c0;go_upto_region 7 with fail;go_wp2_with fail;go_at_call 8;refine(great15_c x.r _ (cd.1.mod0 (dd.out.trans HM.out)) (cd.2.1.mod0 (dd.out.trans HM.out)) cd.2.2).mono ?_;clear cd;rintro e w4 ⟨bz,rfl,hbz,m4⟩;replace kl:=m4.at0 kl;have gx:=Hi (HM.out.then0 m4);clear m4;cases bz with
   |true=>
    clear hbz;go_wp2_with fail;go_ret;exact GrR.of true rfl (fun h=>by cases h) (dd.out.trans gx.out)
   |false=>
    have HBZ:=Hi (hbz rfl);have lq:=HBZ.out.2;have hw:IntKind.i64.wrap ((n:Int)+(x.r.ro.l.length:Int))=((n+x.r.ro.l.length:Nat):Int):=eE (by omega) (by omega);clear hbz;go_wp2_with fail;go_roundw
    case rel=>
     refine⟨j+1,n+x.r.ro.l.length,by omega,rfl,by go_num,Hi ?_,gx⟩;refine⟨?_,fun y hy=> ?_⟩
     ·rw[HX.out.1,List.map_append,List.sum_append,←HJ.out.1];simp[WL]
     ·rw[HX.out.1]at hy;rcases aZh.1 hy with h|h
      ·exact HJ.out.2 y h
      ·rw[aZm.1 h];exact HBZ.out
    case measure=>simp[intOf];omega
  ·obtain rfl:j=ll:=by omega
   go_upto_region 10 with fail;have hs:=HJ.out;rw[aY6 (by rw[cr.out];omega)]at hs;have HS:=Hi hs;clear hs;by_cases hz:n>400
   ·have hd:decide ((n:Int)>400)=true:=Dt (by omega);go_wp2_with fail;go_ret;exact GrR.of true rfl (fun h=>by cases h) (dd.out.trans HM.out)
   ·have hd:decide ((n:Int)>400)=false:=Df (by omega);go_wp2_with fail;go_ret;have h1:=HN.out;exact GrR.of false rfl (fun _=>⟨⟨by omega,by omega⟩,by rw[cr.out];omega,HS.out.2,by rw[←HS.out.1];omega⟩) (dd.out.trans HM.out)
theorem RH {a b c:Nd} (h1:nlt a b=true) (h2:nlt b c=true):nlt a c=true:=by
 cases h:nlt a c with
 |true=>rfl
 |false=>
  have:=eR h (nlt_asymm h2);rw[h1]at this;cases this
theorem CR (x:Nd):∀D:List Nd,nG D→(∀y∈D,y≠x)→∃E,E.Perm (x::D)∧nG E
 |[],_,_=>⟨[x],.refl _,List.pairwise_singleton _ _⟩
 |y::r,hS,hn=>by
  cases h:nlt x y with
  |true=>
   refine⟨x::y::r,.refl _,List.pairwise_cons.2 ⟨fun z hz=> ?_,hS⟩⟩;rcases aZc.1 hz with rfl|hz
   ·exact h
   ·exact RH h (List.rel_of_pairwise_cons hS hz)
  |false=>
   obtain⟨E,hE,Yv⟩:=CR x r (List.Pairwise.of_cons hS) (fun z hz=>hn z (aZp _ hz));have hyx:nlt y x=true:=by
    cases h2:nlt y x with
    |true=>rfl
    |false=>exact absurd (iM h2 h) (hn y (List.mem_cons_self ..))
   refine⟨y::E,(hE.cons y).trans (.swap _ _ _),List.pairwise_cons.2 ⟨fun z hz=> ?_,Yv⟩⟩;rcases aZc.1 (hE.mem_iff.1 hz)with rfl|hz
   ·exact hyx
   ·exact List.rel_of_pairwise_cons hS hz
theorem lQ:∀C:List Nd,C.Nodup→∃D,D.Perm C∧nG D
 |[],_=>⟨[],.refl _,.nil⟩
 |x::r,h=>by
  obtain⟨D,hD,hS⟩:=lQ r (aYc.1 h).2;obtain⟨E,hE,Yv⟩:=CR x D hS (fun y hy e=>(aYc.1 h).1 (by rw[←e];exact hD.mem_iff.1 hy));exact⟨E,hE.trans (hD.cons x),Yv⟩
structure AX (r0 m:Nat) (S:List (Option It)):Prop where
 len:S.length=r0
 pl:∀(i:Nat) (x:It),S[i]? =some (some x)→x.pl=0∧(∃k,k<m∧x.n=UInt64.ofNat k)∧x.r.ro.length≤300
 dj:∀(i j:Nat) (x y:It),S[i]? =some (some x)→S[j]? =some (some y)→x.n=y.n→i=j
 cn:(S.filter Option.isSome).length≤m
def W5 (num:Wj) (x:AZ) (S S':List (Option It)):Prop:=S'=S∨∃i,i<S.length∧S'=S.set i (some ⟨num,x,0,false⟩)
theorem kU (p:Option It→Bool) (v:Option It):∀(S:List (Option It)) (i:Nat),((S.set i v).filter p).length≤(S.filter p).length+1
 |[],i=>by simp
 |a::S,0=>by
  rw[zG,aWr,aWr];split<;>split<;>simp<;>omega
 |a::S,i+1=>by
  have:=kU p v S i;rw[zH,aWr,aWr];split<;>simp<;>omega
theorem AX.nil (r0:Nat):AX r0 0 (List.replicate r0 none) where
 len:=aZ9
 pl:=fun i x h=>by
  rw[aY3]at h;split at h<;>cases h
 dj:=fun i j x y h=>by
  rw[aY3]at h;split at h<;>cases h
 cn:=by
  rw[List.filter_replicate];simp
theorem AX.mono {r0 m:Nat} {S:List (Option It)} (h:AX r0 m S):AX r0 (m+1) S:=
 ⟨h.len,fun i x hx=>⟨(h.pl i x hx).1,by obtain⟨k,hk,e⟩:=(h.pl i x hx).2.1;exact⟨k,by omega,e⟩,(h.pl i x hx).2.2⟩,h.dj,by have:=h.cn;omega⟩
theorem EM {a b:Nat} (ha:a<18446744073709551616) (hb:b<18446744073709551616) (h:UInt64.ofNat a=UInt64.ofNat b):a=b:=by
 have h1:=congrArg UInt64.toNat h;rw[UInt64.toNat_ofNat',UInt64.toNat_ofNat',aW3 ha,aW3 hb]at h1;exact h1
theorem AX.step {r0 m:Nat} {S S':List (Option It)} (h:AX r0 m S) (hm:m<1000) {x:AZ} (hx:x.ro.length≤300) (ha:W5 (UInt64.ofNat m) x S S'):AX r0 (m+1) S':=by
 rcases ha with rfl|⟨i,hi,rfl⟩
 ·exact h.mono
 ·have key:∀(j:Nat) (y:It),(S.set i (some ⟨UInt64.ofNat m,x,0,false⟩))[j]? =some (some y)→(j=i∧y=⟨UInt64.ofNat m,x,0,false⟩)∨(j≠i∧S[j]? =some (some y)):=fun j y hj=>by
   by_cases e:j=i
   ·subst e;rw[List.getElem?_set_self hi]at hj;cases hj;exact .inl ⟨rfl,rfl⟩
   ·rw[aZ0 (Ne.symm e)]at hj;exact .inr ⟨e,hj⟩
  have sf:∀(j:Nat) (y:It),S[j]? =some (some y)→y.n≠UInt64.ofNat m:=fun j y hj e=>by
   obtain⟨k,hk,ek⟩:=(h.pl j y hj).2.1;rw[ek]at e;have:=EM (by omega) (by omega) e;omega
  refine⟨by rw[aZn];exact h.len,fun j y hj=> ?_,fun j k y z hj hk e=> ?_,aYb (kU _ _ _ _) (by have:=h.cn;omega)⟩
  ·rcases key j y hj with⟨_,rfl⟩|⟨_,hj⟩
   ·exact⟨rfl,⟨m,by omega,rfl⟩,hx⟩
   ·exact(h.mono).pl j y hj
  ·rcases key j y hj with⟨rfl,rfl⟩|⟨hj1,Pw⟩
   ·rcases key k z hk with⟨rfl,rfl⟩|⟨_,cu⟩
    ·rfl
    ·exact absurd e.symm (sf k z cu)
   ·rcases key k z hk with⟨rfl,rfl⟩|⟨_,cu⟩
    ·exact absurd e (sf j y Pw)
    ·exact h.dj j k y z Pw cu e
theorem free_or:∀S:List (Option It),(∃n,fL S n)∨∀o∈S,o.isSome=true
 |[]=> .inr (fun o h=>by cases h)
 |none::S=> .inl ⟨0,rfl,fun i hi=>by omega⟩
 |some x::S=>by
  rcases free_or S with⟨n,h1,h2⟩|h
  ·refine .inl ⟨n+1,h1,fun i hi=> ?_⟩;cases i with
   |zero=>exact⟨x,rfl⟩
   |succ i=>exact h2 i (by omega)
  ·refine .inr fun o ho=> ?_;rcases aZc.1 ho with rfl|ho
   ·rfl
   ·exact h o ho
theorem tO {S:List (Option It)} (hS:S.length≤4096):(fJ 0 S).Nodup:=by
 have h:=pO (S:=S) (k:=0) (by omega);exact(aW1.1 h).imp fun aw e=>aw (by rw[e])
theorem BT.add {T:Nat→Prop} {w:We} {b:Nat} {S:List (Option It)} (h:BT b S T w) (gq:dP w) (hp:∀(i:Nat) (x:It),S[i]? =some (some x)→x.pl=0) (h1:1≤S.length) (h2:S.length≤4096) {x:cT} (hx:eL w x) (hs:iU x.con) (num:Wj):
  Calls Tryz.prog 14 #[ptrV b,u64v num,.agg (b9 x)] w fun e w'=>∃v S',e= .returned v∧W5 num x.con S S'∧Goes (BT b S') T w w':=by
 rcases free_or S with⟨n,hn⟩|bm
 ·refine(Y9 h gq hn hx hs num).mono ?_;rintro e w' ⟨v,rfl,hm,hv⟩;exact⟨v,_,rfl,.inr ⟨n,(aZa.1 hn.1).1,rfl⟩,_,hv.2,hm,fun a h=>h⟩
 ·have hf:S.countP Option.isSome=S.length:=List.countP_eq_length.2 bm;obtain⟨D,hD,Do⟩:=lQ (fJ 0 S) (tO h2);obtain⟨y,hy⟩:∃y,S[0]? =some (some y):=by
   obtain⟨o,ho⟩:∃o,S[0]? =some o:=⟨_,aZb h1⟩;have:=bm o (aZi ho);cases o with
   |none=>cases this
   |some y=>exact⟨y,ho⟩
  have aw:D≠[]:=fun e=>by
   have hm:=hD.mem_iff.2 (u5 (k:=0) hy (hp 0 y hy));rw[e]at hm;cases hm
  obtain⟨z,hz⟩:∃z,D.getLast? =some z:=⟨_,List.getLast?_eq_some_getLast aw⟩;obtain⟨i,x',rj,qt,rfl⟩:=fS (hD.mem_iff.1 (List.mem_of_getLast? hz));rw[aXe]at hz;cases hA:gN ⟨x.prio,num⟩ x'.rk with
  |false=>
   refine(PL h.bh hf hD Do rj hz hx hs num hA).mono ?_;rintro e w' ⟨rfl,hm⟩;exact⟨_,S,rfl,.inl rfl,T,(BT.good b S).cl _ _ _ h (hm.mono fun _ _ h=>h.elim),hm.mono fun _ _ h=>h.elim,fun a h=> .inl h⟩
  |true=>
   refine(PM h.bh ⟨h.pos,fun h=>h.2 rfl⟩ gq hf hD Do rj qt hz hx hs num hA).mono ?_;rintro e w' ⟨v,rfl,_,T',hB,_⟩;exact⟨_,_,rfl,.inr ⟨i,(aZa.1 rj).1,rfl⟩,h.goes hB.bh⟩
theorem K7:∀(S:List (Option It)) (k:Nat),(fJ k S).length≤(S.filter Option.isSome).length
 |[],k=>aYf _
 |o::S,k=>by
  have ih:=K7 S (k+1);show(nodeOf k o++fJ (k+1) S).length≤_;rw[aZg,aWr];cases o with
  |none=>exact(aXe _).symm▸ih
  |some x=>
   have:(nodeOf k (some x)).length≤1:=by
    show(if x.pl=0 then [(⟨x.rk,idn k⟩:Nd)]else []).length≤1;split<;>simp
   simp;omega
def B8 (n:Nat) (S:List (Option It)) (D:List Nd):Pa:=⟨S,D,[],0,[],[],[],List.replicate n [],[],[],[],List.replicate n [],List.replicate n 0,List.replicate n 0⟩
theorem AX.start {r0 m:Nat} {S:List (Option It)} (h:AX r0 m S) (hm:m≤60) (hr:r0≤4096) {E:Ev} (n1:1≤E.n) (n2:E.n≤64) (hw:1≤E.win) (hf:1≤E.fli) (b1:1≤E.bat) (b2:E.bat≤64):
  ∃D,D.Perm (fJ 0 S)∧nG D∧D.length≤m∧sL E (B8 E.n S D):=by
 have hl:=h.len;obtain⟨D,hD,Do⟩:=lQ (fJ 0 S) (tO (by omega));have ut:D.length≤m:=by
  rw[hD.length_eq];exact aYb (K7 S 0) h.cn
 have ye:∀ {α:Type} {n:Nat} {a b:α},a∈List.replicate n b→a=b:=fun h=>(List.mem_replicate.1 h).2;have lrep:∀ {α:Type} (n:Nat) (b:α),(List.replicate n b).length=n:=fun n b=>aZ9;refine⟨D,hD,Do,ut,⟨⟨hD,Do,?_,fun x hx=>(by cases hx),?_,fun i x hx=> ?_,?_⟩,aWn,b1,b2,n2,lrep _ _,lrep _ _,fun x hx=>(by cases hx),fun y hy=>(by cases hy),fun b hb k hk=> ?_,fun b hb=> ?_,?_,?_,fun q hq=> ?_,fun q hq=> ?_,fun j=> ?_,?_,fun k hk=>(by cases hk)⟩,n1,hw,hf,rfl,rfl,rfl,rfl,rfl,rfl,rfl,rfl,rfl,rfl⟩
 ·show 0+D.length≤800;omega
 ·show 0+D.length≤10000;omega
 ·have:=(h.pl i x hx).2.2;omega
 ·show S.length≤4096;omega
 ·rw[ye hb]at hk;cases hk
 ·rw[ye hb];exact aYf _
 ·show 0+800*(D.length+0)≤800000;omega
 ·show 0+(D.length+0)≤9000;omega
 ·rw[ye hq];show 0+(D.length+0)≤900;omega
 ·rw[ye hq];show 0+64*(D.length+0)≤90000;omega
 ·have:(List.replicate E.n 0).getD j 0=0:=by
   rw[aZk,aY3];split<;>rfl
  show(List.replicate E.n 0).getD j 0+(D.length+0)≤90000;omega
 ·show 0+(D.length+0)≤9000;omega
section
attribute [local go_sem↓] rT i8 rP yG B0 CS
attribute [local go_sem] iS dC pM mR kD eH fA fB
def LH (w:We) (X:Dm) (d win bat fli n:Nat) (spd:Wd) (r0 i:Nat) (wx:We):Prop:=
 ∃S H N T,AX r0 i S∧N.length≤i∧bW (dparts X d ⟨win,bat,fli,n,spd,H,N⟩ (B8 n S [])) T wx∧(∀a,T a→a<wx.heap.size∧w.heap.size≤a)∧Mod (fun _=>False) w wx
theorem GW {w wx wy:We} {X:Dm} {d:Nat} {E E':Ev} {s s':Pa} {T TR W:Nat→Prop} {Ts:Nat→Nat→Prop} {k:Nat} {K':aK} (hT:∀a,T a→a<wx.heap.size∧w.heap.size≤a) (hm:Mod (fun _=>False) w wx)
  (h1:∀(i:Nat) (K:aK),(dparts X d E s)[i]? =some K→K (Ts i) wx) (h2:∀i a,Ts i a→T a) (h3:∀i j a,i≠j→Ts i a→¬Ts j a) (hk:k<9) (hW:Ts k=W)
  (k1:K' TR wy) (k2:Mod W wx wy) (k3:∀a,TR a→W a∨(wx.heap.size≤a∧a<wy.heap.size)) (Bm:(dparts X d E s).set k K'=dparts X d E' s'):
  ∃T',bW (dparts X d E' s') T' wy∧(∀a,T' a→a<wy.heap.size∧w.heap.size≤a)∧Mod (fun _=>False) w wy:=by
 obtain⟨g1,g2⟩:=bW.step (dparts.good X d E s) (fun a ha=>(hT a ha).1) (i:=k) (by simp[dparts];omega) h1 h2 h3 (K':=K') (Ts:=Ts) (by
  rw[hW];exact⟨TR,k1,k2,k3⟩)
 rw[Bm]at g1;refine⟨_,g1,fun a ha=> ?_,hm.then g2 (fun a hl ha=>by have:=(hT a ha).2;omega)⟩;rcases ha with ha|ha
 ·exact⟨aZd (hT a ha).1 g2.size,(hT a ha).2⟩
 ·exact⟨ha.2,aYb hm.size ha.1⟩
theorem wB.same {X:Dm} {win bat fli n r0:Nat} {spd:Wd} (h:wB X ⟨win,bat,fli,n,spd,[],[]⟩ (OY r0 n)) (H:List aN) (N:List (Sg×aN)) (S:List (Option It)) (D:List Nd):wB X ⟨win,bat,fli,n,spd,H,N⟩ (B8 n S D):=
 ⟨⟨h.win,h.bat,h.fli,h.n1,h.n2,h.fv,h.cv,h.sv,h.fl,h.co,h.sp,h.la⟩,h.cf⟩
theorem BF {n:Nat} {room win bat fli hold:Int} {on:Nat} (h:cfB n room win bat fli hold on=true):(1≤n∧n≤64)∧∃r i b f:Nat,room=r∧win=i∧bat=b∧fli=f∧(1≤r∧r≤4096)∧1≤i∧(1≤b∧b≤64)∧1≤f:=by
 unfold cfB BY at h;simp only[aZy,decide_eq_true_eq]at h;exact⟨by omega,room.toNat,win.toNat,bat.toNat,fli.toNat,by omega,by omega,by omega,by omega,by omega,by omega,by omega,by omega⟩
theorem JR {κ ν:Type} [DecidableEq κ] (k:κ) (v:ν):∀m:List (κ×ν),(put k v m).length≤m.length+1
 |[]=>aZq _
 |(a,b)::m=>by
  have:=JR k v m;unfold put;split<;>simp<;>omega
theorem EE (N:List (Sg×aN)) (g:Sg) (k:aN):(jL N g k).length≤N.length+1:=by
 unfold jL;split
 ·omega
 ·exact JR _ _ _
theorem aS.modO {α:Type} {f:α→Wa} {n:Nat} {w0 w w':We} {a:Wb} {l:List α} {S:Nat→Prop} (h0:aS f n w0 a l) (h:aS f n w a l) (hm:Mod S w w') (hS:∀b,S b→w0.heap.size≤b):aS f n w' a l:=by
 cases l with
 |nil=>exact .inl rfl
 |cons x r=>
  refine h.mod hm (fun b o e hb=> ?_);obtain⟨g,o',C,U,fr,e2,hk,_⟩:=h0.block (i:=0) (x:=x) rfl;rw[e2]at e;cases e;have h1:=aA hk;have h2:=hS _ hb;omega
theorem eL.modO {w0 w w':We} {x:cT} {S:Nat→Prop} (h0:eL w0 x) (h:eL w x) (hm:Mod S w w') (hS:∀b,S b→w0.heap.size≤b):eL w' x:=
 ⟨h0.b.modO h.b hm hS,h0.sg.modO h.sg hm hS,h0.ks.modO h.ks hm hS,h0.ins.modO h.ins hm hS,fun y hy=>⟨(h0.insB y hy).1.modO (h.insB y hy).1 hm hS,(h0.insB y hy).2.modO (h.insB y hy).2 hm hS⟩,h0.lks.modO h.lks hm hS,fun y hy=>⟨(h0.lksB y hy).1.modO (h.lksB y hy).1 hm hS,(h0.lksB y hy).2.modO (h.lksB y hy).2 hm hS⟩,h0.ro.modO h.ro hm hS⟩
def TL (w:We) (x:pQ):Prop:=eL w x.r∧TM x
def XD (q:Nat) (N:List (Sg×aN)) (_:Wg):aK:=vZ q N
theorem IL (q:Nat) (N:List (Sg×aN)) (v:Wg):aH (XD q N v):=vZ.good q N
def XE (q:Nat) (L:List aN) (_:Wg):aK:=tT q L
theorem IM (q:Nat) (L:List aN) (v:Wg):aH (XE q L v):=tT.good q L
def WR (b:Nat) (num:Wj) (x:AZ) (S:List (Option It)) (_:Wg):aK:=fun T w=>∃S',W5 num x S S'∧BT b S' T w
theorem IG (b:Nat) (num:Wj) (x:AZ) (S:List (Option It)) (v:Wg):aH (WR b num x S v):=aH.ex fun S'=>(aH.pure _).and (BT.good b S')
theorem puM {T:Nat→Prop} {w:We} {q:Nat} {L:List aN} (h:tT q L T w) (k:aN):Calls Tryz.prog 13 #[ptrV q,.agg (kc k)] w fun e w'=>∃v,e= .returned v∧Mod T w w'∧XE q (gD L k) v (Grow T w w') w':=
 (CG q L k w h.1).mono fun e w' h2=>by
  obtain⟨⟨v,rfl⟩,h3,h4⟩:=h2;exact⟨v,rfl,h4.mono (fun a _ ha=>by rw[ha];exact h.2),h3,.inl h.2⟩
theorem maK {T:Nat→Prop} {w:We} {q:Nat} {N:List (Sg×aN)} (h:vZ q N T w) (hT:∀i,T i→i<w.heap.size) (hN:N.length<1000000) (g:Sg) (k:aN):Calls Tryz.prog 57 #[ptrV q,.agg (sgc g),.agg (kc k)] w fun e w'=>∃v,e= .returned v∧Mod T w w'∧XD q (jL N g k) v (Grow T w w') w':=
 (Q6 q N g k w h hT hN).mono fun e w' h2=>by
  obtain⟨⟨v,rfl⟩,h3,h4⟩:=h2;exact⟨v,rfl,h4,h3⟩
theorem Z5 {T:Nat→Prop} {w:We} {b:Nat} {S:List (Option It)} (h:BT b S T w) (gq:dP w) (hp:∀(i:Nat) (x:It),S[i]? =some (some x)→x.pl=0) (h1:1≤S.length) (h2:S.length≤4096) {x:cT} (hx:eL w x) (hs:iU x.con) (num:Wj):
  Calls Tryz.prog 14 #[ptrV b,u64v num,.agg (b9 x)] w fun e w'=>∃v,e= .returned v∧Mod T w w'∧WR b num x.con S v (Grow T w w') w':=
 (BT.add h gq hp h1 h2 hx hs num).mono fun e w' h3=>by
  obtain⟨v,S',rfl,ha,T',k1,k2,k3⟩:=h3;exact⟨v,rfl,k2,S',ha,(BT.good b S').gr _ _ _ (fun a ha=>(k3 a ha)) k1⟩
theorem IA (w:We) (sa:Wb) (spd:Wd) (sc:Nat) (ff:aS qT 1 w sa spd) (room win bat fli:Int) (l1 l2 l3 fw:Wj) (hold:Int) (oa:Wb) (own:List Bool) (oc:Nat) (how:aS BD 1 w oa own) (xw:own.length≤100) (a:Wb) (l:List pQ) (c:Nat) (hl:aS yO 83 w a l) (cd:∀x∈l,TL w x) (ag:l.length≤60) (gq:dP w):
  Calls Tryz.prog 16 #[.agg (oY (.slice sa spd.length sc) room win bat fli (u64v l1) (u64v l2) (u64v l3) (u64v fw) hold (.slice oa own.length oc)),.slice a l.length c] w fun e w'=>
   (cfB spd.length room win bat fli hold own.length=false∧e= .returned (.tuple #[.pointer none,.bool false])∧Mod (fun _=>False) w w')∨
   ∃(r0 i0 b0 f0:Nat) (X:Dm) (d:Nat),(room=r0∧win=i0∧bat=b0∧fli=f0)∧cfB spd.length room win bat fli hold own.length=true∧e= .returned (.tuple #[ptrV d,.bool true])∧wB X ⟨i0,b0,f0,spd.length,spd,[],[]⟩ (OY r0 spd.length)∧LH w X d i0 b0 f0 spd.length spd r0 l.length w':=by
 have tq:=Hi gq;have HC:=Hi (Ai ff how);have HL:=Hi (Ai hl cd);clear gq ff how hl cd;obtain⟨n,hn⟩:∃n,spd.length=n:=⟨_,rfl⟩;obtain⟨on,Eo⟩:∃on,own.length=on:=⟨_,rfl⟩;obtain⟨ll,bw⟩:∃ll,l.length=ll:=⟨_,rfl⟩;have HN:=Hi (Ai hn (Ai Eo bw));rw[Eo]at xw;rw[bw]at ag;rw[hn,Eo,bw];clear hn Eo bw;unfold oY;go_enter Tryz.func16,Tryz.ntmps16;go_upto_region 0 with fail;refine ZP0 [3,0,0] ?_;refine Zb fun p2 ce=> ?_
 iterate 2 refine Zv ?_
 refine TD.nil (fun w1 hr=> ?_);obtain⟨gp2,kp2⟩:=hr.b p2;have M1:=Hi hr.mod;clear hr;cases jc:cfB n room win bat fli hold on with
 |false=>
  have Gm:=NJ w1 sa n sc room win bat fli (u64v l1) (u64v l2) (u64v l3) (u64v fw) hold oa on oc jc;unfold oY at Gm;have Ni:=Hi Gm;have Mr:=Hi jc;clear Gm jc;go_upto_region 1 with fail;go_wp2_with fail;go_at_call 11;refine Ni.out.mono ?_;rintro e w2 ⟨rfl,m2⟩;have M2:=Hi (M1.out.trans m2);clear m2 Ni;go_wp2_with fail;exact bodyPost_ret (results_tmp2 rfl _ _ _) rfl (.inl ⟨Mr.out,rfl,M2.out⟩)
 |true=>
  obtain⟨⟨je,dy⟩,r0,i0,b0,f0,rfl,rfl,rfl,rfl,⟨sy,di⟩,Ck,⟨dz,cq⟩,Eb⟩:=BF jc;obtain⟨ff,how⟩:=HC.out;have Gm:=JC w1 sa spd sc (ff.mod0 M1.out) r0 i0 b0 f0 l1 l2 l3 fw hold oa own oc (how.mod0 M1.out) (by rw[HN.out.2.1];omega) (by rw[HN.out.1,HN.out.2.1];exact jc);rw[HN.out.1,HN.out.2.1]at Gm;unfold oY at Gm;have Ni:=Hi Gm;have Mr:=Hi (Ai jc (Ai sy di));clear Gm jc sy di ff how Ck dz cq Eb;go_upto_region 1 with fail;go_wp2_with fail;go_at_call 11;refine Ni.out.mono ?_;clear Ni;rintro e w6 ⟨d,rfl,⟨T,hD,hT⟩,m6⟩;have M6:=Hi (M1.out.trans m6);replace kp2:=m6.at0 kp2;obtain⟨X,hX,hS⟩:=hD;obtain⟨Td,⟨td,kd⟩,sd⟩:=hS.get (i:=0) rfl;have HW:=Hi (Whole_c (n:=n) kd hX.fv hX.cv sa sc r0 i0 b0 f0 (u64v l1) (u64v l2) (u64v l3) (u64v fw) hold (.slice oa on oc));have HX:=Hi hX;have HF0:Hid (LH w X d i0 b0 f0 n spd r0 0 w6):=Hi ⟨_,[],[],T,AX.nil r0,aYf _,hS,fun a ha=>⟨(hT a ha).2,aYb M1.out.size (hT a ha).1⟩,M6.out⟩;clear hT hX hS sd td m6 kd;go_upto_region 2 with fail;go_wp2_with fail;go_at_call 12;refine HW.out.mono ?_;rintro e w7 ⟨rfl,m7⟩;have HF7:Hid (LH w X d i0 b0 f0 n spd r0 0 w7):=Hi (by
   obtain⟨S,H,N,T,h1,h2,h3,h4,h5⟩:=HF0.out;exact⟨S,H,N,T,h1,h2,h3.mod0 (dparts.good X d _ _) m7,fun a ha=>⟨aZd (h4 a ha).1 m7.size,(h4 a ha).2⟩,h5.trans m7⟩)
  clear HW HF0 m7 kp2;go_upto_region 4 with fail;go_wp2_with fail;go_loopw [8] (fun s8 ws=>∃i:Nat,i≤ll∧s8= .int .i64 (i:Int)∧Hid (LH w X d i0 b0 f0 n spd r0 i ws)) (fun s8 _=>ll-(intOf s8).toNat)
  case atStart=>exact⟨0,aYf _,rfl,HF7⟩
  case round=>
   obtain⟨i,hi,rfl,HF⟩:=hrel;by_cases hlt:i<ll
   ·obtain⟨x,hx⟩:∃x,l[i]? =some x:=⟨_,aZb (by rw[HN.out.2.2];exact hlt)⟩;have Np:=Hi (aZi hx);obtain⟨S,H,N,T,hI,Vi,hS,hT,hm⟩:=HF.out;obtain⟨gg,o,C,U,fr,rfl,kl0,c0,he,hh,cj,dh⟩:=wK (HL.out.1) hx;have Vw:=aA kl0;have kl:=hm.at0 kl0;obtain⟨Td,⟨_,kd⟩,_⟩:=hS.get (i:=0) rfl;have HS:=Hi hS;have HT:=Hi hT;have HM:=Hi hm;have HI:=Hi (Ai hI Vi);have c3:C[o+i*83+3]? =some (.slice x.r.sg.a x.r.sg.l.length x.r.sg.c):=(cj 1 (by omega)).trans (AG x.r);unfold iE at kd;clear hx hI Vi hS hT hm kl0 cj;have h50:o+i*83+50+32≤C.size:=by omega
    have h2:o+i*83+2+48≤C.size:=by omega
    obtain⟨ci,Ly⟩:∃ci:Int,(x.what.toNat:Int) % 6=ci:=⟨_,rfl⟩;have Xh:=Hi Ly;clear Ly;rcases(by omega:ci=2∨ci=3∨(ci≠2∧ci≠3))with rfl|rfl|⟨ne2,ne3⟩
    ·clear c3;have Od:=HS.out.mod0 (dparts.good X d ⟨i0,b0,f0,n,spd,H,N⟩ (B8 n S [])) (Mod.refl (fun _=>False) wr);have rn:Hid (∀a,T a→a<wr.heap.size∧w.heap.size≤a):=Hi (fun a ha=>⟨aZd (HT.out a ha).1 (Mod.refl (fun _=>False) wr).size,(HT.out a ha).2⟩);have xb:=Hi (HM.out.trans (Mod.refl (fun _=>False) wr));obtain⟨Ts,h1,h2,h3⟩:=Od;obtain⟨W,hW⟩:∃W,Ts 2=W:=⟨_,rfl⟩;have jd:CeL d (iE X.D) 69 (Ts 0) wr:=h1 0 _ rfl;have qo:tT X.D.q H (Ts 2) wr:=h1 2 _ rfl;rw[hW]at qo;have nWd:¬W d:=by rw[←hW];exact h3 0 2 d (by decide) jd.1
     have nWg:¬W gg:=fun h=>by
      have h4:=(HT.out gg (h2 2 gg (by rw[hW];exact h))).2;omega
     have Fq:Hid (∀j,W j→T j):=Hi (fun j hj=>h2 2 j (by rw[hW];exact hj));have qz:Hid (∀i,W i→i<wr.heap.size):=Hi (fun j hj=>(rn.out j (Fq.out j hj)).1);have HK:=Hi qo;have HH:=Hi (Ai h1 (Ai h2 (Ai h3 hW)));clear hW h1 h2 h3 jd qo
     go_upto_block 2 with fail
     rw[Xh.out];go_upto_region 10 with fail;have Lkd:=aA kd;have Lkl:=aA kl;refine bL (T0:=W) (K:=tT X.D.q H) (κ:=fun i=>[0,0,0,0,0,0,0,0,0,6].getD i 0) (υ:=fun _=>[]) [0,1,2,3,4,5,6,7,8,9] (by kernel_rfl) (by kernel_rfl) (tT.good X.D.q H).cl (HK.out) (qz.out) ?_;have gK:=tT.good X.D.q H
     iterate 3 refine Zg ?_
     (refine Zk ?_ (hy:=by intro wq ae;have kdq:=ae.atn kd;have klq:=ae.atn kl;go_simp;try with_reducible rfl))
     iterate 4 refine Zg ?_
     (refine Zk ?_ (hy:=by intro wq ae;have kdq:=ae.atn kd;have klq:=ae.atn kl;go_simp;try with_reducible rfl));(refine TG.callK (f:= ?f13) (args:= ?r13) (XE X.D.q (gD H x.h)) (IM X.D.q (gD H x.h)) (by simp only[zK];rfl) rfl (by rfl) (fun w1=> ?y13) (fun T wq kq ltq ae ub=> ?Se) ?n13;(case y13=>(go_simp;(first|with_reducible rfl|(constructor<;>with_reducible rfl))));(case Se=>(have kdq:=ae.atn kd;have klq:=ae.atn kl;exact puM kq x.h));rintro v13 ⟨wI,TI,hI⟩;replace gK:=(IM X.D.q (gD H x.h)) v13;(skip);(try clear hI TI wI);try simp only[zL]);refine TG.nil (fun w8 ⟨TR,hr⟩=> ?_);replace kd:=hr.mod.atn kd;replace kl:=hr.mod.atn kl;clear gK;have Mt:Hid (LH w X d i0 b0 f0 n spd r0 (i+1) w8):=Hi (by
      have yg:=hr.k;obtain⟨T',g1,g2,g3⟩:=GW (E':=⟨i0,b0,f0,n,spd,(gD H x.h),N⟩) (s':=B8 n S []) rn.out xb.out HH.out.1 HH.out.2.1 HH.out.2.2.1 (k:=2) (by decide) HH.out.2.2.2 yg hr.mod (fun a ha=>by
       rcases aYt a wr.heap.size with h|h
       ·exact .inl (hr.old a h ha)
       ·exact .inr ⟨h,hr.lt a ha⟩) rfl
      exact⟨S,(gD H x.h),N,T',HI.out.1.mono,(Nat.le_succ_of_le HI.out.2),g1,g2,g3⟩)
     clear hr;go_wp2_with fail;go_roundw
     case rel=>exact⟨i+1,by omega,by go_num,Mt⟩
     case measure=>simp[intOf];omega
    ·go_upto_block 2 with fail
     rw[Xh.out];have KD0:=Hi kd;have KL0:=Hi kl;go_upto_region 12 with fail;have Lkd:=aA kd;have Lkl:=aA kl;refine ZP0 [3] ?_;refine Za F0 fun p9 qv=> ?_;refine TD.nil (fun wa hr=> ?_);replace kd:=hr.q kd;replace kl:=hr.q kl;obtain⟨gp9,kp9⟩:=hr.b p9;have ma:=hr.mod;rw[AS]at kp9;have qv:wr.heap.size≤p9:=gp9;have Ee:gg<wr.heap.size:=aZd Vw HM.out.size;clear hr;obtain⟨G,hG⟩:∃G,x.r.sg.l.headD sg0=G:=⟨_,rfl⟩;obtain⟨zb,vl⟩:∃zb,decide (0<x.r.sg.l.length)=zb:=⟨_,rfl⟩;have hzI:decide ((0:Int)<((x.r.sg.l.length:Nat):Int))=zb:=by rw[←vl];exact decide_eq_decide.2 (by omega)
     have Cc:=Hi (Ai vl hG);clear hG;go_upto_region 13 with fail;have Lkl:=aA kl;have Lkp9:=aA kp9;refine ZP0 [0,0,0,0,0,0,1,0,0] ?_
     iterate 9 first|refine Zv ?_|refine Zd ?_
     refine TD.nil (fun wb hr=> ?_);replace kl:=hr.q kl;replace kp9:=hr.q kp9;have mb:=ma.then0 hr.mod;have MB0:=Hi mb;have KK:=Hi kp9;clear hr vl hzI mb ma
     go_upto_if 69 with fail
     go_cut []from 70 to 78 (fun wx=>Hid (wx.heap[p9]? =some (.cells (sgc G) 92 (0,0)))∧Hid (Mod (fun _=>False) wr wx))
     case first=>
      cases zb with
      |false=>
       have hk:sgc sg0=sgc G:=by
        have h1:=Cc.out.2;have h2:=of_decide_eq_false Cc.out.1;cases hs:x.r.sg.l with
        |nil=>rw[hs]at h1;rw[←h1];rfl
        |cons a r=>rw[hs]at h2;simp at h2
       have HF:=Hi hk;clear hk;go_wp2_with fail;go_meet;exact⟨Hi (by rw[←HF.out];exact KK.out),MB0⟩
      |true=>
       have nw:0<x.r.sg.l.length:=of_decide_eq_true Cc.out.1;obtain⟨b1,o1,C1,U1,fr1,Oh,ks0,gy,jz⟩:=(HL.out.2 x Np.out).1.sg.block (i:=0) (x:=G) (by
        have h1:=Cc.out.2;cases hs:x.r.sg.l with
        |nil=>rw[hs]at nw;cases nw
        |cons a r=>rw[hs]at h1;rw[←h1];rfl)
       simp only[aWy,aXz]at gy jz;have dz:=aA ks0;have ks:=(HM.out.trans MB0.out).at0 ks0;have jw:b1≠p9:=by have:=HM.out.size;omega
       clear ks0;go_upto_region 14 with fail;have Lkl:=aA kl;have Lks:=aA ks;have Lkp9:=aA kp9;refine ZP0 [0,0,0,0,0,0,1,0,1,5] ?_
       iterate 9 first|refine Zv ?_|refine Zd ?_
       refine Zi fun wE hr=> ?_;replace kl:=hr.mod.at0 kl;replace ks:=hr.mod.at0 ks;replace kp9:=hr.mod.at0 kp9;have mE:=hr.mod;refine ZS ?_;refine ZN kp9 fun wc kp9 mS=> ?_;(try simp only[Array.setIfInBounds,zL]at kp9);replace kl:=mS.at_ne kl (by omega);replace ks:=mS.at_ne ks (by omega);have HF:Hid (wc.heap[p9]? =some (.cells (sgc G) 92 (0,0))∧Mod (fun _=>False) wr wc):=Hi ⟨kp9,(MB0.out.then0 mE).thenB mS (.inl qv)⟩;clear mE mS ks jz gy Oh jw dz nw;go_wp2_with fail;go_meet;exact⟨Hi HF.out.1,Hi HF.out.2⟩
     case rest=>
      obtain⟨nh,pp⟩:=hcut;clear kp9 kl kd c3;have kp9:=nh.out;have mb:=pp.out;clear nh pp;have Jj:p9≠gg:=by omega
      have Od:=HS.out.mod0 (dparts.good X d ⟨i0,b0,f0,n,spd,H,N⟩ (B8 n S [])) (mb);have rn:Hid (∀a,T a→a<wc.heap.size∧w.heap.size≤a):=Hi (fun a ha=>⟨aZd (HT.out a ha).1 (mb).size,(HT.out a ha).2⟩);have xb:=Hi (HM.out.trans (mb));obtain⟨Ts,h1,h2,h3⟩:=Od;obtain⟨W,hW⟩:∃W,Ts 3=W:=⟨_,rfl⟩;have jd:CeL d (iE X.D) 69 (Ts 0) wc:=h1 0 _ rfl;have qo:vZ X.D.sn N (Ts 3) wc:=h1 3 _ rfl;rw[hW]at qo;have nWd:¬W d:=by rw[←hW];exact h3 0 3 d (by decide) jd.1
      have nWg:¬W gg:=fun h=>by
       have h4:=(HT.out gg (h2 3 gg (by rw[hW];exact h))).2;omega
      have Fq:Hid (∀j,W j→T j):=Hi (fun j hj=>h2 3 j (by rw[hW];exact hj));have qz:Hid (∀i,W i→i<wc.heap.size):=Hi (fun j hj=>(rn.out j (Fq.out j hj)).1);have HK:=Hi qo;have HH:=Hi (Ai h1 (Ai h2 (Ai h3 hW)));clear hW h1 h2 h3 jd qo;have nWp:¬W p9:=fun h=>by
       have h4:=(HT.out p9 (Fq.out p9 h)).1;omega
      have kd:=(mb).at0 KD0.out;have kl:=(mb).at0 KL0.out;go_upto_region 15 with fail;have Lkd:=aA kd;have Lkl:=aA kl;have Lkp9:=aA kp9;refine bL (T0:=W) (K:=vZ X.D.sn N) (κ:=fun i=>[0,0,0,0,0,0,0,0,0,0,6].getD i 0) (υ:=fun _=>[]) [0,1,2,3,4,5,6,7,8,9,10] (by kernel_rfl) (by kernel_rfl) (vZ.good X.D.sn N).cl (HK.out) (qz.out) ?_;have gK:=vZ.good X.D.sn N
      iterate 3 refine Zg ?_
      (refine Zk ?_ (hy:=by intro wq ae;have kdq:=ae.atn kd;have klq:=ae.atn kl;have kp9q:=ae.atn kp9;go_simp;try with_reducible rfl));(refine Zk ?_ (hy:=by intro wq ae;have kdq:=ae.atn kd;have klq:=ae.atn kl;have kp9q:=ae.atn kp9;go_simp;try with_reducible rfl))
      iterate 4 refine Zg ?_
      (refine Zk ?_ (hy:=by intro wq ae;have kdq:=ae.atn kd;have klq:=ae.atn kl;have kp9q:=ae.atn kp9;go_simp;try with_reducible rfl));(refine TG.callK (f:= ?f44) (args:= ?r44) (XD X.D.sn (jL N G x.h)) (IL X.D.sn (jL N G x.h)) (by simp only[zK];rfl) rfl (by rfl) (fun w1=> ?y44) (fun T wq kq ltq ae ub=> ?Sk) ?n44;(case y44=>(go_simp;(first|with_reducible rfl|(constructor<;>with_reducible rfl))));(case Sk=>(have kdq:=ae.atn kd;have klq:=ae.atn kl;have kp9q:=ae.atn kp9;exact maK kq ltq (by have:=HI.out.2;omega) G x.h));rintro v44 ⟨wI,TI,hI⟩;replace gK:=(IL X.D.sn (jL N G x.h)) v44;(skip);(try clear hI TI wI);try simp only[zL]);refine TG.nil (fun w8 ⟨TR,hr⟩=> ?_);replace kd:=hr.mod.atn kd;replace kl:=hr.mod.atn kl;replace kp9:=hr.mod.atn kp9;clear gK;have Mt:Hid (LH w X d i0 b0 f0 n spd r0 (i+1) w8):=Hi (by
       have yg:=hr.k;obtain⟨T',g1,g2,g3⟩:=GW (E':=⟨i0,b0,f0,n,spd,H,(jL N G x.h)⟩) (s':=B8 n S []) rn.out xb.out HH.out.1 HH.out.2.1 HH.out.2.2.1 (k:=3) (by decide) HH.out.2.2.2 yg hr.mod (fun a ha=>by
        rcases aYt a wc.heap.size with h|h
        ·exact .inl (hr.old a h ha)
        ·exact .inr ⟨h,hr.lt a ha⟩) rfl
       exact⟨S,H,(jL N G x.h),T',HI.out.1.mono,(by have h1:=EE N G x.h;have h2:=HI.out.2;omega),g1,g2,g3⟩)
      clear hr;go_wp2_with fail;go_roundw
      case rel=>exact⟨i+1,by omega,by go_num,Mt⟩
      case measure=>simp[intOf];omega
    ·clear c3;have Od:=HS.out.mod0 (dparts.good X d ⟨i0,b0,f0,n,spd,H,N⟩ (B8 n S [])) (Mod.refl (fun _=>False) wr);have rn:Hid (∀a,T a→a<wr.heap.size∧w.heap.size≤a):=Hi (fun a ha=>⟨aZd (HT.out a ha).1 (Mod.refl (fun _=>False) wr).size,(HT.out a ha).2⟩);have xb:=Hi (HM.out.trans (Mod.refl (fun _=>False) wr));obtain⟨Ts,h1,h2,h3⟩:=Od;obtain⟨W,hW⟩:∃W,Ts 1=W:=⟨_,rfl⟩;have jd:CeL d (iE X.D) 69 (Ts 0) wr:=h1 0 _ rfl;have qo:BT X.D.b S (Ts 1) wr:=h1 1 _ rfl;rw[hW]at qo;have nWd:¬W d:=by rw[←hW];exact h3 0 1 d (by decide) jd.1
     have nWg:¬W gg:=fun h=>by
      have h4:=(HT.out gg (h2 1 gg (by rw[hW];exact h))).2;omega
     have Fq:Hid (∀j,W j→T j):=Hi (fun j hj=>h2 1 j (by rw[hW];exact hj));have qz:Hid (∀i,W i→i<wr.heap.size):=Hi (fun j hj=>(rn.out j (Fq.out j hj)).1);have HK:=Hi qo;have HH:=Hi (Ai h1 (Ai h2 (Ai h3 hW)));clear hW h1 h2 h3 jd qo;have nW0:¬W 0:=fun h=>by
      have h4:=(HT.out 0 (Fq.out 0 h)).2;obtain⟨C0,U0,fr0,t1,_⟩:=tq.out;have:=aA t1;omega
     have vo:=Hi (Ai (tq.out.mod0 HM.out) nW0);obtain⟨zn,il⟩:∃zn:Wj,UInt64.ofNat i=zn:=⟨_,rfl⟩;have lz:(zn.toNat:Int)=IntKind.u64.wrap (i:Int):=by
      rw[←il,UInt64.toNat_ofNat',aW3 (by omega),IntKind.wrap_u64];omega
     have HZ:=Hi (Ai il lz);have HRD:Hid (∀wq,Mod W wr wq→eL wq x.r):=Hi (fun wq hq=>(HL.out.2 x Np.out).1.modO ((HL.out.2 x Np.out).1.mod0 HM.out) hq (fun b hb=>(HT.out b (Fq.out b hb)).2));have HAD:Hid (∀T wq,BT X.D.b S T wq→Mod W wr wq→Calls Tryz.prog 14 #[ptrV X.D.b,.int .u64 (IntKind.u64.wrap (i:Int)),.agg (b9 x.r)] wq fun e w'=>∃v,e= .returned v∧Mod T wq w'∧WR X.D.b zn x.r.con S v (Grow T wq w') w'):=Hi (fun T wq kq ae=>by
      have h9:=Z5 kq (vo.out.1.mod ae vo.out.2) (fun j y h=>(HI.out.1.pl j y h).1) (by rw[HI.out.1.len];exact Mr.out.2.1) (by rw[HI.out.1.len];exact Mr.out.2.2) (x:=x.r) (HRD.out wq ae) (HL.out.2 x Np.out).2.1 zn;unfold u64v at h9;rw[HZ.out.2]at h9;exact h9)
     clear il lz nW0;have cq:(ci==2)=false:=by simpa using ne2
     have hb3:(ci==3)=false:=by simpa using ne3
     go_upto_block 2 with fail
     rw[Xh.out];go_upto_region 8 with fail;have Lkd:=aA kd;have Lkl:=aA kl;refine bL (T0:=W) (K:=BT X.D.b S) (κ:=fun i=>[0,0,0,0,0,0,0,0,0,0,0,6].getD i 0) (υ:=fun _=>[]) [0,1,2,3,4,5,6,7,8,9,10,11] (by kernel_rfl) (by kernel_rfl) (BT.good X.D.b S).cl (HK.out) (qz.out) ?_;have gK:=BT.good X.D.b S
     iterate 3 refine Zg ?_
     (refine Zk ?_ (hy:=by intro wq ae;have kdq:=ae.atn kd;have klq:=ae.atn kl;go_simp;try with_reducible rfl))
     iterate 6 refine Zg ?_
     (refine Zk ?_ (hy:=by intro wq ae;have kdq:=ae.atn kd;have klq:=ae.atn kl;go_simp;try with_reducible rfl));(refine TG.callK (f:= ?f56) (args:= ?r56) (WR X.D.b zn x.r.con S) (IG X.D.b zn x.r.con S) (by simp only[zK];rfl) rfl (by rfl) (fun w1=> ?y56) (fun T wq kq ltq ae ub=> ?Sm) ?n56;(case y56=>(go_simp;(first|with_reducible rfl|(constructor<;>with_reducible rfl))));(case Sm=>(have kdq:=ae.atn kd;have klq:=ae.atn kl;exact HAD.out T wq kq ae));rintro v56 ⟨wI,TI,hI⟩;replace gK:=(IG X.D.b zn x.r.con S) v56;(skip);(try clear hI TI wI);try simp only[zL]);refine TG.nil (fun w8 ⟨TR,hr⟩=> ?_);replace kd:=hr.mod.atn kd;replace kl:=hr.mod.atn kl;clear gK;have Mt:Hid (LH w X d i0 b0 f0 n spd r0 (i+1) w8):=Hi (by
      have yg:=hr.k;obtain⟨S2,hAd,yg⟩:=yg;obtain⟨T',g1,g2,g3⟩:=GW (E':=⟨i0,b0,f0,n,spd,H,N⟩) (s':=B8 n S2 []) rn.out xb.out HH.out.1 HH.out.2.1 HH.out.2.2.1 (k:=1) (by decide) HH.out.2.2.2 yg hr.mod (fun a ha=>by
       rcases aYt a wr.heap.size with h|h
       ·exact .inl (hr.old a h ha)
       ·exact .inr ⟨h,hr.lt a ha⟩) rfl
      exact⟨S2,H,N,T',(HI.out.1.step (by omega) (HL.out.2 x Np.out).2.2 (by rw[HZ.out.1];exact hAd)),(Nat.le_succ_of_le HI.out.2),g1,g2,g3⟩)
     clear hr;go_wp2_with fail;go_roundw
     case rel=>exact⟨i+1,by omega,by go_num,Mt⟩
     case measure=>simp[intOf];omega
   ·obtain rfl:ll=i:=by omega
    go_wp2_with fail;exact bodyPost_ret (results_tmp2 rfl _ _ _) rfl (.inr ⟨r0,i0,b0,f0,X,d,⟨rfl,rfl,rfl,rfl⟩,Mr.out.1,rfl,HX.out,HF.out⟩)
end
section
open Go.ChangeShapes Go.WideShapes Go.ChangeAt Go.RowKit
section
variable {H:Type} {enc:Wh×Wg→H}
theorem qD {w:We} {base:Nat} {sp:Nat→Bool} {held:Bool} {fuel:Nat} {cs:List Wg} {x:DataW H×List MemPlace} {t:Wh} {n:Nat} (hT:Tryz.prog.underlying t=some (.array n 5)) (hc:Tryz.prog.cellsOf t=n) (h:DataW.trod enc Tryz.prog w base sp held fuel t cs=some x):
  ∃l:List Wk,l.length=n∧cs=l.map bc:=by
 obtain⟨xs,m,rfl,rfl,hl,hx,hi⟩:=DataW.trod_array hT h;have hl:cs.length=n:=hl.trans hc;have hx:xs.length=n:=hx;have dw:∀i,i<n→∃u:Wk,cs[i]? =some (bc u):=fun i Yq=>by
  have hq:=hi i Yq;rw[show Tryz.prog.cellsOf 5=1 by kernel_rfl,aYp,aZb (by omega)]at hq;obtain⟨n,hn,_,hw⟩:=DataW.trod_int Tryz.underlying5 hq;have hb:=bounds_u8 hw;refine⟨UInt8.ofNat n.toNat,?_⟩;rw[WC hn];unfold bc
  have:((UInt8.ofNat n.toNat).toNat:Int)=n:=by
   rw[UInt8.toNat_ofNat'];omega
  rw[this]
 let f:Wg→Wk:=fun v=>match v with
  | .int _ n=>UInt8.ofNat n.toNat
  |_=>0
 refine⟨cs.map f,by simp[hl],?_⟩;apply aXm;intro i;simp only[aX0,aZv];by_cases Yq:i<n
 ·obtain⟨n,hn⟩:=dw i Yq;rw[hn]
  have:bc (f (bc n))=bc n:=by
   show bc (UInt8.ofNat ((n.toNat:Int).toNat))=bc n;rw[aWm,UInt8.ofNat_toNat]
  simp[this]
 ·rw[aY1 (by omega)];rfl
theorem nW:cI enc Tryz.prog 107 kc (fun _ _=>True):=fun w base sp held fuel cs x h _=>by
 obtain⟨l,hl,rfl⟩:=qD Tryz.underlying107 (by kernel_rfl) h;exact⟨⟨l,hl⟩,rfl,trivial⟩
theorem qW:cI enc Tryz.prog 35 kc (fun _ _=>True):=fun w base sp held fuel cs x h _=>by
 obtain⟨l,hl,rfl⟩:=qD Tryz.underlying35 (by kernel_rfl) h;exact⟨⟨l,hl⟩,rfl,trivial⟩
theorem EW:cI enc Tryz.prog 92 sgc (fun _ _=>True):=fun w base sp held fuel cs x h _=>by
 obtain⟨l,hl,rfl⟩:=qD Tryz.underlying92 (by kernel_rfl) h;exact⟨⟨l,hl⟩,rfl,trivial⟩
theorem iP:cI enc Tryz.prog 5 uc (fun _ _=>True):=fun w base sp held fuel cs x h ar=>by
 obtain⟨n,rfl,_,hw⟩:=DataW.trod_int Tryz.underlying5 h;obtain⟨y,rfl⟩:=WG (bounds_u8 hw);exact⟨y,rfl,trivial⟩
def KX (x:Wj):Wa:= #[u64v x]
theorem dO:cI enc Tryz.prog 23 KX (fun _ _=>True):=fun w base sp held fuel cs x h ar=>by
 obtain⟨n,rfl,_,hw⟩:=DataW.trod_int Tryz.underlying23 h;obtain⟨y,rfl⟩:=ST (bounds_u64 hw);exact⟨y,rfl,trivial⟩
def ZX (x:Wi):Wa:= #[.int .i64 x.toInt]
theorem eY:cI enc Tryz.prog 3 ZX (fun _ _=>True):=fun w base sp held fuel cs x h ar=>by
 obtain⟨n,rfl,_,hw⟩:=DataW.trod_int Tryz.underlying3 h;obtain⟨y,rfl⟩:=QR (bounds_i64 hw);exact⟨y,rfl,trivial⟩
def XT (x:Bool):Wa:= #[.bool x]
theorem lD:cI enc Tryz.prog 4 XT (fun _ _=>True):=fun w base sp held fuel cs x h ar=>by
 obtain⟨b,rfl,_⟩:=DataW.trod_bool Tryz.underlying4 h;exact⟨b,rfl,trivial⟩
theorem aG {α:Type} {T t:Wh} {fs:Array Field} {f:α→Wa} {Ok:We→α→Prop} (j off n:Nat) (hT:Tryz.prog.underlying T=some (.struct fs)) (jo:(fs[j]?).map (fun f=>(f.type,f.offset))=some (t,off)) (hn:Tryz.prog.cellsOf t=n) (hR:cI enc Tryz.prog t f Ok)
  {w:We} {base:Nat} {sp:Nat→Bool} {held:Bool} {fuel:Nat} {cs:List Wg} {x:DataW H×List MemPlace} (h:DataW.trod enc Tryz.prog w base sp held fuel T cs=some x) (ar:zQ Tryz.prog T x.1):∃a:α,(cs.drop off).take n=(f a).toList∧Ok w a:=by
 obtain⟨xs,m,rfl,rfl,hl,hx,hi⟩:=DataW.trod_struct hT h;cases hf:fs[j]? with
 |none=>rw[hf]at jo;cases jo
 |some fl=>
  rw[hf]at jo;simp only[aYj,aYm,Prod.mk.injEq]at jo;obtain⟨rfl,rfl⟩:=jo;have hj:j<xs.length:=by rw[hx];exact(aZf.1 hf).1
  have h1:=hi j fl hf;rw[aZb hj,hn]at h1;have h2:zQ Tryz.prog fl.type (xs[j].1):=zR (i:=j) (d:=xs[j].1) (fl:=fl) hT ar hf (by rw[aZv,aZb hj];rfl);obtain⟨a,ha,ak⟩:=hR _ _ _ _ _ _ _ h1 h2;exact⟨a,by rw[←ha],ak⟩
theorem aW (cs:List Wg) (off n:Nat):cs.drop off=(cs.drop off).take n++cs.drop (off+n):=by rw[←List.drop_drop,aY9]
theorem fW {cs:List Wg} {n:Nat} (h:cs.length=n):cs.drop n=[]:=List.drop_of_length_le (by omega)
theorem gC {T:Wh} {fs:Array Field} {n:Nat} (hT:Tryz.prog.underlying T=some (.struct fs)) (hn:Tryz.prog.cellsOf T=n) {w:We} {base:Nat} {sp:Nat→Bool} {held:Bool} {fuel:Nat} {cs:List Wg} {x:DataW H×List MemPlace} (h:DataW.trod enc Tryz.prog w base sp held fuel T cs=some x):cs.length=n:=by
 obtain⟨xs,m,rfl,rfl,hl,_⟩:=DataW.trod_struct hT h;exact hl.trans hn
abbrev sI:World→Sl UInt8→Prop:=iX uc 1 1 (fun _ _=>True)
theorem iQ:cI enc Tryz.prog 29 (AL (α:=Wk)) sI:=
 cR Tryz.underlying29 (by kernel_rfl) (by kernel_rfl) (by omega) iP 0
theorem AB:cI enc Tryz.prog 33 (AL (α:=aN)) (iX kc 32 32 (fun _ _=>True)):=
 cR Tryz.underlying33 (by kernel_rfl) (by kernel_rfl) (by omega) nW gW
def YT:Sg:=⟨List.replicate 64 0,rfl⟩
theorem AK:cI enc Tryz.prog 30 (AL (α:=Sg)) (iX sgc 64 64 (fun _ _=>True)):=
 cR Tryz.underlying30 (by kernel_rfl) (by kernel_rfl) (by omega) EW YT
def PD (w:We) (x:oU):Prop:=sI w x.a∧sI w x.d
def PG (w:We) (x:o8):Prop:=sI w x.w∧sI w x.r
theorem IW:cI enc Tryz.prog 106 inr PD:=fun w base sp held fuel cs x h ar=>by
 obtain⟨a0,h0,ka0⟩:=aG 0 0 1 Tryz.underlying106 rfl (by kernel_rfl) iP h ar;obtain⟨a1,h1,ka1⟩:=aG 1 1 1 Tryz.underlying106 rfl (by kernel_rfl) iQ h ar;obtain⟨a2,h2,ka2⟩:=aG 2 2 1 Tryz.underlying106 rfl (by kernel_rfl) iQ h ar;have hl:=gC (n:=3) Tryz.underlying106 (by kernel_rfl) h;refine⟨⟨a0,a1,a2⟩,?_,ka1,ka2⟩;apply aZ1.1;show cs=_;have e:=aW cs 0 1;rw[aW cs (0+1) 1,aW cs (0+1+1) 1,h0,h1,h2,fW (n:=0+1+1+1) hl]at e;exact e
theorem D9:cI enc Tryz.prog 36 (AL (α:=oU)) (iX inr 3 56 PD):=
 cR Tryz.underlying36 (by kernel_rfl) (by kernel_rfl) (by omega) IW ⟨0,⟨none,[],0⟩,⟨none,[],0⟩⟩
theorem I4:cI enc Tryz.prog 109 lor PG:=fun w base sp held fuel cs x h ar=>by
 obtain⟨a0,h0,ka0⟩:=aG 0 0 32 Tryz.underlying109 rfl (by kernel_rfl) nW h ar;obtain⟨a1,h1,ka1⟩:=aG 1 32 1 Tryz.underlying109 rfl (by kernel_rfl) iQ h ar;obtain⟨a2,h2,ka2⟩:=aG 2 33 1 Tryz.underlying109 rfl (by kernel_rfl) iQ h ar;have hl:=gC (n:=34) Tryz.underlying109 (by kernel_rfl) h;refine⟨⟨a0,a1,a2⟩,?_,ka1,ka2⟩;apply aZ1.1;show cs=_;have e:=aW cs 0 32;rw[aW cs (0+32) 1,aW cs (0+32+1) 1,h0,h1,h2,fW (n:=0+32+1+1) hl]at e;refine e.trans ?_;simp[lor,kx,AL,Sl.v]
theorem ED:cI enc Tryz.prog 37 (AL (α:=o8)) (iX lor 34 80 PG):=
 cR Tryz.underlying37 (by kernel_rfl) (by kernel_rfl) (by omega) I4 ⟨gW,⟨none,[],0⟩,⟨none,[],0⟩⟩
theorem AJ:cI enc Tryz.prog 178 rcr (fun _ _=>True):=fun w base sp held fuel cs x h ar=>by
 obtain⟨a0,h0,ka0⟩:=aG 0 0 32 Tryz.underlying178 rfl (by kernel_rfl) nW h ar;obtain⟨a1,h1,ka1⟩:=aG 1 32 1 Tryz.underlying178 rfl (by kernel_rfl) lD h ar;obtain⟨a2,h2,ka2⟩:=aG 2 33 1 Tryz.underlying178 rfl (by kernel_rfl) lD h ar;have hl:=gC (n:=34) Tryz.underlying178 (by kernel_rfl) h;refine⟨⟨a0,a1,a2⟩,?_,trivial⟩;apply aZ1.1;show cs=_;have e:=aW cs 0 32;rw[aW cs (0+32) 1,aW cs (0+32+1) 1,h0,h1,h2,fW (n:=0+32+1+1) hl]at e;refine e.trans ?_;simp[rcr,rc,kx,XT]
theorem x3:cI enc Tryz.prog 42 (AL (α:=aT)) (iX rcr 34 34 (fun _ _=>True)):=
 cR Tryz.underlying42 (by kernel_rfl) (by kernel_rfl) (by omega) AJ ⟨gW,false,false⟩
def U4 (x:Wk×Wk×Wk):Wa:= #[AO x.1,AO x.2.1,AO x.2.2]
theorem zU:cI enc Tryz.prog 32 U4 (fun _ _=>True):=fun w base sp held fuel cs x h ar=>by
 obtain⟨a0,h0,ka0⟩:=aG 0 0 1 Tryz.underlying32 rfl (by kernel_rfl) iP h ar;obtain⟨a1,h1,ka1⟩:=aG 1 1 1 Tryz.underlying32 rfl (by kernel_rfl) iP h ar;obtain⟨a2,h2,ka2⟩:=aG 2 2 1 Tryz.underlying32 rfl (by kernel_rfl) iP h ar;have hl:=gC (n:=3) Tryz.underlying32 (by kernel_rfl) h;refine⟨⟨a0,a1,a2⟩,?_,trivial⟩;apply aZ1.1;show cs=_;have e:=aW cs 0 1;rw[aW cs (0+1) 1,aW cs (0+1+1) 1,h0,h1,h2,fW (n:=0+1+1+1) hl]at e;exact e
def YY (x:cT):Wa:=mx ((dF x).drop 1) x.rc ((eV x).take 2)
def OI (w:We) (x:cT):Prop:=iX kc 32 32 (fun _ _=>True) w x.ks∧iX inr 3 56 PD w x.ins∧iX lor 34 80 PG w x.lks
def YO (x:cT):Wa:=mx ((dF x).drop 2) x.rc ((eV x).take 2)
theorem EG:cI enc Tryz.prog 39 YO OI:=fun w base sp held fuel cs x h ar=>by
 obtain⟨a0,h0,ka0⟩:=aG 0 0 1 Tryz.underlying39 rfl (by kernel_rfl) lD h ar;obtain⟨a1,h1,ka1⟩:=aG 1 1 3 Tryz.underlying39 rfl (by kernel_rfl) zU h ar;obtain⟨a2,h2,ka2⟩:=aG 2 4 1 Tryz.underlying39 rfl (by kernel_rfl) AB h ar;obtain⟨a3,h3,ka3⟩:=aG 3 5 32 Tryz.underlying39 rfl (by kernel_rfl) qW h ar;obtain⟨a4,h4,ka4⟩:=aG 4 37 1 Tryz.underlying39 rfl (by kernel_rfl) D9 h ar;obtain⟨a5,h5,ka5⟩:=aG 5 38 1 Tryz.underlying39 rfl (by kernel_rfl) ED h ar;have hl:=gC (n:=39) Tryz.underlying39 (by kernel_rfl) h;refine⟨{rd0 with v0:=a0,h0:=a1.1,h1:=a1.2.1,h2:=a1.2.2,ks:=a2,rc:=a3,ins:=a4,lks:=a5},?_,ka2,ka4,ka5⟩;apply aZ1.1;show cs=_;have e:=aW cs 0 1;rw[aW cs (0+1) 3,aW cs (0+1+3) 1,aW cs (0+1+3+1) 32,aW cs (0+1+3+1+32) 1,aW cs (0+1+3+1+32+1) 1,h0,h1,h2,h3,h4,h5,fW (n:=0+1+3+1+32+1+1) hl]at e;refine e.trans ?_;simp[YO,mx,dF,eV,XT,U4,AL,Sl.v,kc]
def TX (w:We) (x:cT):Prop:=iX sgc 64 64 (fun _ _=>True) w x.sg∧OI w x
theorem KU:cI enc Tryz.prog 41 YY TX:=fun w base sp held fuel cs x h ar=>by
 obtain⟨a0,h0,ka0⟩:=aG 0 0 1 Tryz.underlying41 rfl (by kernel_rfl) AK h ar;obtain⟨a1,h1,ka1⟩:=aG 1 1 39 Tryz.underlying41 rfl (by kernel_rfl) EG h ar;have hl:=gC (n:=40) Tryz.underlying41 (by kernel_rfl) h;refine⟨{a1 with sg:=a0},?_,ka0,ka1⟩;apply aZ1.1;show cs=_;have e:=aW cs 0 1;rw[aW cs (0+1) 39,h0,h1,fW (n:=0+1+39) hl]at e;refine e.trans ?_;simp[YY,YO,mx,dF,eV,AL,Sl.v]
def ZH (x:Wj×Wj×Wi):Wa:= #[u64v x.1,u64v x.2.1,.int .i64 x.2.2.toInt]
theorem DO:cI enc Tryz.prog 44 ZH (fun _ _=>True):=fun w base sp held fuel cs x h ar=>by
 obtain⟨a0,h0,ka0⟩:=aG 0 0 1 Tryz.underlying44 rfl (by kernel_rfl) dO h ar;obtain⟨a1,h1,ka1⟩:=aG 1 1 1 Tryz.underlying44 rfl (by kernel_rfl) dO h ar;obtain⟨a2,h2,ka2⟩:=aG 2 2 1 Tryz.underlying44 rfl (by kernel_rfl) eY h ar;have hl:=gC (n:=3) Tryz.underlying44 (by kernel_rfl) h;refine⟨⟨a0,a1,a2⟩,?_,trivial⟩;apply aZ1.1;show cs=_;have e:=aW cs 0 1;rw[aW cs (0+1) 1,aW cs (0+1+1) 1,h0,h1,h2,fW (n:=0+1+1+1) hl]at e;exact e
def FP (w:We) (x:cT):Prop:=sI w x.b∧TX w x∧iX rcr 34 34 (fun _ _=>True) w x.ro
theorem JU:cI enc Tryz.prog 46 b9 FP:=fun w base sp held fuel cs x h ar=>by
 obtain⟨a0,h0,ka0⟩:=aG 0 0 1 Tryz.underlying46 rfl (by kernel_rfl) iQ h ar;obtain⟨a1,h1,ka1⟩:=aG 1 1 40 Tryz.underlying46 rfl (by kernel_rfl) KU h ar;obtain⟨a2,h2,ka2⟩:=aG 2 41 1 Tryz.underlying46 rfl (by kernel_rfl) x3 h ar;obtain⟨a3,h3,ka3⟩:=aG 3 42 3 Tryz.underlying46 rfl (by kernel_rfl) DO h ar;obtain⟨a4,h4,ka4⟩:=aG 4 45 1 Tryz.underlying46 rfl (by kernel_rfl) dO h ar;obtain⟨a5,h5,ka5⟩:=aG 5 46 1 Tryz.underlying46 rfl (by kernel_rfl) dO h ar;obtain⟨a6,h6,ka6⟩:=aG 6 47 1 Tryz.underlying46 rfl (by kernel_rfl) dO h ar;have hl:=gC (n:=48) Tryz.underlying46 (by kernel_rfl) h;refine⟨{a1 with b:=a0,ro:=a2,un:=a3.1,pr:=a3.2.1,bad:=a3.2.2,fee:=a4,cost:=a5,prio:=a6},?_,ka0,ka1,ka2⟩;apply aZ1.1;show cs=_;have e:=aW cs 0 1;rw[aW cs (0+1) 40,aW cs (0+1+40) 1,aW cs (0+1+40+1) 3,aW cs (0+1+40+1+3) 1,aW cs (0+1+40+1+3+1) 1,aW cs (0+1+40+1+3+1+1) 1,h0,h1,h2,h3,h4,h5,h6,fW (n:=0+1+40+1+3+1+1+1) hl]at e;refine e.trans ?_;simp[b9,YY,mx,dF,eV,AL,Sl.v,ZH,KX]
theorem AN {P:Wl} {w:We} {base:Nat} {sp:Nat→Bool} {held:Bool} {fuel:Nat} {t:Wh} {cs:List Wg} {x:DataW H×List MemPlace} {k:FloatKind} (ht:P.underlying t=some (.float k)) (h:DataW.trod enc P w base sp held fuel t cs=some x):∃b:Nat,cs=[.float k b]:=by
 cases fuel with
 |zero=>simp[DataW.trod]at h
 |succ n=>
  unfold DataW.trod at h;rw[ht]at h;split at h<;>simp_all
theorem IC:cI enc Tryz.prog 129 qT (fun _ _=>True):=fun w base sp held fuel cs x h ar=>by
 obtain⟨b,rfl⟩:=AN Tryz.underlying129 h;exact⟨b,rfl,trivial⟩
theorem D3:cI enc Tryz.prog 22 (AL (α:=Nat)) (iX qT 1 8 (fun _ _=>True)):=
 cR Tryz.underlying22 (by kernel_rfl) (by kernel_rfl) (by omega) IC 0
theorem GB:cI enc Tryz.prog 4 BD (fun _ _=>True):=fun w base sp held fuel cs x h ar=>by
 obtain⟨b,hb,_⟩:=DataW.trod_bool Tryz.underlying4 h;exact⟨b,by rw[hb];rfl,trivial⟩
theorem DN:cI enc Tryz.prog 26 (AL (α:=Bool)) (iX BD 1 1 (fun _ _=>True)):=
 cR Tryz.underlying26 (by kernel_rfl) (by kernel_rfl) (by omega) GB false
structure TP where
 sp:Sl Nat
 room:Wi
 win:Wi
 bat:Wi
 fli:Wi
 l1:Wj
 l2:Wj
 l3:Wj
 fw:Wj
 hold:Wi
 own:Sl Bool
def UT (x:TP):Wa:=oY x.sp.v x.room.toInt x.win.toInt x.bat.toInt x.fli.toInt (u64v x.l1) (u64v x.l2) (u64v x.l3) (u64v x.fw) x.hold.toInt x.own.v
def LL (w:We) (x:TP):Prop:=iX qT 1 8 (fun _ _=>True) w x.sp∧iX BD 1 1 (fun _ _=>True) w x.own
def YL (x:Wj×Wj×Wj):Wa:= #[u64v x.1,u64v x.2.1,u64v x.2.2]
theorem EC:cI enc Tryz.prog 25 YL (fun _ _=>True):=fun w base sp held fuel cs x h ar=>by
 obtain⟨a0,h0,ka0⟩:=aG 0 0 1 Tryz.underlying25 rfl (by kernel_rfl) dO h ar;obtain⟨a1,h1,ka1⟩:=aG 1 1 1 Tryz.underlying25 rfl (by kernel_rfl) dO h ar;obtain⟨a2,h2,ka2⟩:=aG 2 2 1 Tryz.underlying25 rfl (by kernel_rfl) dO h ar;have hl:=gC (n:=3) Tryz.underlying25 (by kernel_rfl) h;refine⟨⟨a0,a1,a2⟩,?_,trivial⟩;apply aZ1.1;show cs=_;have e:=aW cs 0 1;rw[aW cs (0+1) 1,aW cs (0+1+1) 1,h0,h1,h2,fW (n:=0+1+1+1) hl]at e;exact e
theorem GH:cI enc Tryz.prog 28 UT LL:=fun w base sp held fuel cs x h ar=>by
 obtain⟨a0,h0,ka0⟩:=aG 0 0 1 Tryz.underlying28 rfl (by kernel_rfl) D3 h ar;obtain⟨a1,h1,ka1⟩:=aG 1 1 1 Tryz.underlying28 rfl (by kernel_rfl) eY h ar;obtain⟨a2,h2,ka2⟩:=aG 2 2 1 Tryz.underlying28 rfl (by kernel_rfl) eY h ar;obtain⟨a3,h3,ka3⟩:=aG 3 3 1 Tryz.underlying28 rfl (by kernel_rfl) eY h ar;obtain⟨a4,h4,ka4⟩:=aG 4 4 1 Tryz.underlying28 rfl (by kernel_rfl) eY h ar;obtain⟨a5,h5,ka5⟩:=aG 5 5 3 Tryz.underlying28 rfl (by kernel_rfl) EC h ar;obtain⟨a6,h6,ka6⟩:=aG 6 8 1 Tryz.underlying28 rfl (by kernel_rfl) dO h ar;obtain⟨a7,h7,ka7⟩:=aG 7 9 1 Tryz.underlying28 rfl (by kernel_rfl) eY h ar;obtain⟨a8,h8,ka8⟩:=aG 8 10 1 Tryz.underlying28 rfl (by kernel_rfl) DN h ar;have hl:=gC (n:=11) Tryz.underlying28 (by kernel_rfl) h;refine⟨⟨a0,a1,a2,a3,a4,a5.1,a5.2.1,a5.2.2,a6,a7,a8⟩,?_,ka0,ka8⟩;apply aZ1.1;show cs=_;have e:=aW cs 0 1;rw[aW cs (0+1) 1,aW cs (0+1+1) 1,aW cs (0+1+1+1) 1,aW cs (0+1+1+1+1) 1,aW cs (0+1+1+1+1+1) 3,aW cs (0+1+1+1+1+1+3) 1,aW cs (0+1+1+1+1+1+3+1) 1,aW cs (0+1+1+1+1+1+3+1+1) 1,h0,h1,h2,h3,h4,h5,h6,h7,h8,fW (n:=0+1+1+1+1+1+3+1+1+1) hl]at e;exact e
def tQ (w:We) (x:pQ):Prop:=FP w x.r
theorem FS:cI enc Tryz.prog 104 yO tQ:=fun w base sp held fuel cs x h ar=>by
 obtain⟨a0,h0,ka0⟩:=aG 0 0 1 Tryz.underlying104 rfl (by kernel_rfl) iP h ar;obtain⟨a1,h1,ka1⟩:=aG 1 1 1 Tryz.underlying104 rfl (by kernel_rfl) dO h ar;obtain⟨a2,h2,ka2⟩:=aG 2 2 48 Tryz.underlying104 rfl (by kernel_rfl) JU h ar;obtain⟨a3,h3,ka3⟩:=aG 3 50 32 Tryz.underlying104 rfl (by kernel_rfl) qW h ar;obtain⟨a4,h4,ka4⟩:=aG 4 82 1 Tryz.underlying104 rfl (by kernel_rfl) eY h ar;have hl:=gC (n:=83) Tryz.underlying104 (by kernel_rfl) h;refine⟨⟨a0,a1,a2,a3,a4⟩,?_,ka2⟩;apply aZ1.1;show cs=_;have e:=aW cs 0 1;rw[aW cs (0+1) 1,aW cs (0+1+1) 48,aW cs (0+1+1+48) 32,aW cs (0+1+1+48+32) 1,h0,h1,h2,h3,h4,fW (n:=0+1+1+48+32+1) hl]at e;refine e.trans ?_;simp[yO,Y7,uc,bc,KX,ZX]
theorem DE:cI enc Tryz.prog 76 (AL (α:=pQ)) (iX yO 83 288 tQ):=
 cR Tryz.underlying76 (by kernel_rfl) (by kernel_rfl) (by omega) FS ⟨0,0,rd0,gW,0⟩
theorem FP.ok {w:We} {x:cT} (h:FP w x):eL w x:=
 ⟨h.1.1,h.2.1.1.1,h.2.1.2.1.1,h.2.1.2.2.1.1,fun y hy=>⟨(h.2.1.2.2.1.2.1 y hy).1.1,(h.2.1.2.2.1.2.1 y hy).2.1⟩,h.2.1.2.2.2.1,fun y hy=>⟨(h.2.1.2.2.2.2.1 y hy).1.1,(h.2.1.2.2.2.2.1 y hy).2.1⟩,h.2.2.1⟩
theorem iX.le47 {α:Type} {f:α→Wa} {n B:Nat} {Ok:We→α→Prop} {w:We} {s:Sl α} (h:iX f n B Ok w s) (hB:1≤B):s.l.length≤140737488355328:=by
 have h1:=h.2.2.1;have h2:s.l.length*1≤s.l.length*B:=Nat.mul_le_mul_left _ hB;have h3:reachBytes=140737488351232:=by decide
 omega
theorem FP.le {w:We} {x:cT} (h:FP w x):PJ x:=
 ⟨h.1.le47 (by decide),h.2.2.le47 (by decide),h.2.1.1.le47 (by decide),h.2.1.2.1.le47 (by decide),h.2.1.2.2.1.le47 (by decide),h.2.1.2.2.2.le47 (by decide),fun y hy=>⟨(h.2.1.2.2.1.2.1 y hy).1.le47 (by decide),(h.2.1.2.2.1.2.1 y hy).2.le47 (by decide)⟩,fun y hy=>⟨(h.2.1.2.2.2.2.1 y hy).1.le47 (by decide),(h.2.1.2.2.2.2.1 y hy).2.le47 (by decide)⟩⟩
end
end
section
attribute [local go_sem↓] BZ KS dE cD dD yG B0 CS rT i8 rP
attribute [local go_sem] bD bV cV iJ fK uR qX pE lI pD bE cB cC iS dC pM mR kD eH fA fB
theorem tQ.r2 {w:We} {x:pQ} (h:tQ w x) (hs:TM x):TL w x:=⟨FP.ok h,hs⟩
theorem tQ.lk {w:We} {x:pQ} (h:tQ w x):TK w x:=⟨(FP.ok h).ins,(FP.ok h).lks,FP.le h⟩
theorem LH.parts {w:We} {X:Dm} {d win bat fli n:Nat} {spd:Wd} {r0 i:Nat} {wx:We} (h:LH w X d win bat fli n spd r0 i wx):
  ∃(E:Ev) (S:List (Option It)) (T:Nat→Prop),(E.win=win∧E.bat=bat∧E.fli=fli∧E.n=n∧E.spd=spd)∧(∃H N,E=⟨win,bat,fli,n,spd,H,N⟩)∧AX r0 i S∧bW (dparts X d E (B8 n S [])) T wx∧(∀a,T a→a<wx.heap.size∧w.heap.size≤a)∧Mod (fun _=>False) w wx:=by
 obtain⟨S,H,N,T,h1,h2,h3,h4,h5⟩:=h;exact⟨_,S,T,⟨rfl,rfl,rfl,rfl,rfl⟩,⟨H,N,rfl⟩,h1,h3,h4,h5⟩
theorem YI (w:We) (b o:Nat):(Instr.loadAt 97 (.pointer (some ⟨b,o,none⟩))).run Tryz.prog w=
   match w.heap[b]? with
   |some (.cells cs _ _)=>if o+2≤cs.size then .ok (.agg (cs.extract o (o+2))) w else dU Tryz.prog w 97 b o
   |_=>dU Tryz.prog w 97 b o:=bK (d:=_) Tryz.underlying97 rfl (by kernel_rfl) w b o
attribute [local go_sem↓] YI
theorem X4 (x:Wj×Nat) (w:We):(Op.equalIn 10000 97 (.agg (drc x)) (.agg (drc x))).run Tryz.prog w= .ok true w:=by
 unfold drc u64v;go_simp
attribute [local go_sem↓] X4
theorem UJ (a:Wj) (w:We):(Instr.build 97 #[(0,u64v a),(1,.int .u8 5)]).run Tryz.prog w= .ok (.agg (drc (a,5))) w:=by kernel_rfl
theorem UK (a:Wj) (w:We):(Instr.build 97 #[(0,u64v a),(1,.int .u8 6)]).run Tryz.prog w= .ok (.agg (drc (a,6))) w:=by kernel_rfl
theorem wP {w0 ws:We} {l:List (Wj×Nat)} {a:Wb} {n c:Nat} (h:aE drc 2 97 ws w0.heap.size (.slice a n c) l) (hl:l.length≤1000) (hm:Mod (fun _=>False) w0 ws) {p:Nat} {x:Wj×Nat} (kp:ws.heap[p]? =some (.cells (drc x) 97 (0,0))):
  ∃a' c' w',(Builtin.append_ #[52,52] 52 #[.slice a n c,.slice (some ⟨p,0,none⟩) 1 1]).run Tryz.prog ws= .ok (.slice a' (l.length+1) c') w'∧aE drc 2 97 w' w0.heap.size (.slice a' (l.length+1) c') (l++[x])∧Mod (fun _=>False) w0 w':=by
 obtain⟨v',w',h1,h2,h3,h4⟩:=aE.append P7 h (q:=[x]) (c:=1) (aS.one kp x rfl rfl) (by simp only[aZx];omega) (by decide) hm.size 52;obtain⟨a',c',e,_⟩:=h2.at P7;rw[aZg,aZx]at e;subst e;exact⟨a',c',w',h1,h2,hm.then h3 (fun i hi hw=>by have:=(h.lt i hw).1;omega)⟩
theorem OB {r0 m:Nat} {S:List (Option It)} (h:AX r0 m S) (k:Nat):(fJ k S).length=(S.filter Option.isSome).length:=by
 have key:∀(S:List (Option It)) (k:Nat),(∀(i:Nat) (x:It),S[i]? =some (some x)→x.pl=0)→(fJ k S).length=(S.filter Option.isSome).length:=fun S=>by
  induction S with
  |nil=>intro k _;rfl
  |cons o S ih=>
   intro k hp;have ih:=ih (k+1) (fun i x hx=>hp (i+1) x hx);show(nodeOf k o++fJ (k+1) S).length=_;rw[aZg,ih,aWr];cases o with
   |none=>exact aXe _
   |some x=>
    have h0:=hp 0 x rfl
    have:(nodeOf k (some x)).length=1:=by
     show(if x.pl=0 then [(⟨x.rk,idn k⟩:Nd)]else []).length=1;rw[if_pos h0];rfl
    rw[this];simp;omega
 exact key S k (fun i x hx=>(h.pl i x hx).1)
theorem DW (x:TP) (a:Wb) (l:List pQ) (c:Nat) (w:We) (hx:LL w x) (hl:aS yO 83 w a l) (ak:∀y∈l,tQ w y) (bw:l.length≤140737488355328) (gq:dP w):
  Calls Tryz.prog 5 #[.agg (UT x),.slice a l.length c] w fun e w'=>e= .returned (.bool true)∧Mod (fun _=>False) w w':=by
 have tq:=Hi gq;have HC:=Hi (Ai hx.1.1 hx.2.1);have HL:=Hi (Ai hl ak);obtain⟨⟨sa,spd,sc⟩,room,win,bat,fli,l1,l2,l3,fw,hold,⟨oa,own,oc⟩⟩:=x;have HG:Hid (∀wq,Mod (fun _=>False) w wq→Calls Tryz.prog 7 #[.agg (oY (.slice sa spd.length sc) room.toInt win.toInt bat.toInt fli.toInt (u64v l1) (u64v l2) (u64v l3) (u64v fw) hold.toInt (.slice oa own.length oc)),.slice a l.length c] wq (GrR ((spd.length≤64∧own.length≤100)∧O8 l) wq)):=
  Hi (fun wq hm=>D6 sa spd.length sc room.toInt win.toInt bat.toInt fli.toInt (u64v l1) (u64v l2) (u64v l3) (u64v fw) hold.toInt oa own.length oc a l c wq (hl.mod0 hm) (fun y hy=>⟨(ak y hy).lk.1.mod0 hm,(ak y hy).lk.2.1.mod0 hm,(ak y hy).lk.2.2⟩) bw)
 have HF:Hid (∀wq,Mod (fun _=>False) w wq→own.length≤100→O8 l→Calls Tryz.prog 16 #[.agg (oY (.slice sa spd.length sc) room.toInt win.toInt bat.toInt fli.toInt (u64v l1) (u64v l2) (u64v l3) (u64v fw) hold.toInt (.slice oa own.length oc)),.slice a l.length c] wq fun e w'=>
   (cfB spd.length room.toInt win.toInt bat.toInt fli.toInt hold.toInt own.length=false∧e= .returned (.tuple #[.pointer none,.bool false])∧Mod (fun _=>False) wq w')∨
   ∃(r0 i0 b0 f0:Nat) (X:Dm) (d:Nat),(room.toInt=r0∧win.toInt=i0∧bat.toInt=b0∧fli.toInt=f0)∧cfB spd.length room.toInt win.toInt bat.toInt fli.toInt hold.toInt own.length=true∧e= .returned (.tuple #[ptrV d,.bool true])∧wB X ⟨i0,b0,f0,spd.length,spd,[],[]⟩ (OY r0 spd.length)∧LH wq X d i0 b0 f0 spd.length spd r0 l.length w'):=
  Hi (fun wq hm h1 h2=>IA wq sa spd sc (hx.1.1.mod0 hm) room.toInt win.toInt bat.toInt fli.toInt l1 l2 l3 fw hold.toInt oa own oc (hx.2.1.mod0 hm) h1 a l c (hl.mod0 hm) (fun y hy=>⟨(FP.ok (ak y hy)).mod0 hm,h2.each y hy⟩) h2.len (gq.mod0 hm))
 clear gq hx hl ak bw HC HL;show Calls Tryz.prog 5 #[.agg (oY (.slice sa spd.length sc) room.toInt win.toInt bat.toInt fli.toInt (u64v l1) (u64v l2) (u64v l3) (u64v fw) hold.toInt (.slice oa own.length oc)),.slice a l.length c] w fun e w'=>e= .returned (.bool true)∧Mod (fun _=>False) w w';obtain⟨n,hn⟩:∃n,spd.length=n:=⟨_,rfl⟩;obtain⟨on,xw⟩:∃on,own.length=on:=⟨_,rfl⟩;obtain⟨ll,bw⟩:∃ll,l.length=ll:=⟨_,rfl⟩;obtain⟨iroom,Vy⟩:∃i,room.toInt=i:=⟨_,rfl⟩;obtain⟨iwin,hiw⟩:∃i,win.toInt=i:=⟨_,rfl⟩;obtain⟨ibat,nj⟩:∃i,bat.toInt=i:=⟨_,rfl⟩;obtain⟨ifli,hif⟩:∃i,fli.toInt=i:=⟨_,rfl⟩;obtain⟨ihold,hih⟩:∃i,hold.toInt=i:=⟨_,rfl⟩;rw[hn,xw,bw,Vy,hiw,nj,hif,hih]at HG HF;rw[hn,xw,bw,Vy,hiw,nj,hif,hih];have HN:=Hi (Ai hn (Ai xw bw));clear hn xw bw Vy hiw nj hif hih;unfold oY at HG HF⊢;go_enter Tryz.func5,Tryz.ntmps5;go_upto_region 0 with fail;refine ZP0 [3,0] ?_;refine Zb fun p2 ce=> ?_;refine Zv ?_;refine TD.nil (fun w1 hr=> ?_);obtain⟨gp2,kp2⟩:=hr.b p2;have M1:=Hi hr.mod;clear hr;go_upto_region 1 with fail;go_wp2_with fail;go_at_call 7;refine(HG.out _ M1.out).mono ?_;rintro e w2 ⟨b2,rfl,cq,m2⟩;replace kp2:=m2.at0 kp2;have M2:=Hi (M1.out.then0 m2);clear m2 HG;cases b2 with
 |true=>
  go_wp2_with fail;go_at_call 9;refine(lives_c _ (tq.out.mod0 M2.out)).mono ?_;rintro e w3 ⟨rfl,mz⟩;go_wp2_with fail;go_ret;exact⟨rfl,M2.out.trans mz⟩
 |false=>
  have rm:=Hi (cq rfl);clear cq;go_upto_region 3 with fail;go_wp2_with fail;go_at_call 16;refine(HF.out _ M2.out rm.out.1.2 rm.out.2).mono ?_;rintro e w3 (⟨jc,rfl,m3⟩|⟨r0,i0,b0,f0,X,d,⟨rfl,rfl,rfl,rfl⟩,jc,rfl,hX,hFl⟩)
  ·have M3:=Hi (M2.out.trans m3);clear m3 jc;go_wp2_with fail;go_at_call 9;refine(lives_c _ (tq.out.mod0 M3.out)).mono ?_;rintro e w4 ⟨rfl,mz⟩;go_wp2_with fail;go_ret;exact⟨rfl,M3.out.trans mz⟩
  ·obtain⟨E,S,T,⟨Vc,xe,Yu,Ns,hE5⟩,hE,hI,hS,hT,m3⟩:=hFl.parts;have ce:=aA kp2;have HNP:Hid (¬T p2):=Hi (fun h=>by have:=(hT p2 h).2;omega);replace kp2:=m3.at0 kp2;have M3:=Hi (M2.out.trans m3);have HE:Hid ((E.win=i0∧E.bat=b0∧E.fli=f0∧E.n=n)∧(∀D,wB X E (B8 n S D))∧cfB n r0 i0 b0 f0 ihold on=true):=Hi ⟨⟨Vc,xe,Yu,Ns⟩,by
    obtain⟨H,N,rfl⟩:=hE;exact fun D=>hX.same H N S D,jc⟩
   obtain⟨⟨je,dy⟩,_,_,_,_,e1,e2,e3,e4,hr12,Ck,hb12,Eb⟩:=BF jc;obtain⟨D,hD,Do,hDl,kj⟩:=hI.start (E:=E) (by rw[←HN.out.2.2];exact rm.out.2.len) (by omega) (by rw[Ns];exact je) (by rw[Ns];exact dy) (by rw[Vc];omega) (by rw[Yu];omega) (by rw[xe];omega) (by rw[xe];omega);rw[Ns]at kj;have HD:=Hi (Ai hD (Ai Do (Ai kj hI)));have HS:=Hi (Ai hS (Ai hT (fun a ha=>aYb M2.out.size (hT a ha).2)));obtain⟨Td,⟨_,kd⟩,_⟩:=hS.get (i:=0) rfl;have hB:∃T1,BT X.D.b S T1 w3:=by
    obtain⟨Ts,h1,_⟩:=hS;exact⟨_,h1 1 _ rfl⟩
   obtain⟨T1,hB⟩:=hB;have HW:Hid (∀wq,Mod (fun _=>False) w3 wq→Calls Tryz.prog 15 #[ptrV X.D.b] wq fun e w'=>∃v,e= .returned v∧aE ic 1 3 w' wq.heap.size v (D.map Nd.id)∧Mod (fun _=>False) wq w'):=
    Hi (fun wq hm=>L8 ((BT.good X.D.b S).cl _ _ _ hB (hm.mono fun _ _ h=>h.elim)).bh hD Do)
   unfold iE at kd;clear e1 e2 e3 e4 hr12 Ck hb12 Eb je dy hD Do kj hI hS hT hB hE Vc xe Yu Ns hE5 hX jc hFl m3 HF;go_upto_region 6 with fail;go_wp2_with fail;go_at_call 15;refine(HW.out w3 (Mod.refl _ _)).mono ?_;rintro e w4 ⟨v,rfl,hv,m4⟩;obtain⟨a7,c7,rfl,h7,_⟩:=hv.at gL;obtain⟨nd,ct⟩:∃nd,(D.map Nd.id).length=nd:=⟨_,rfl⟩;rw[ct];have ut:nd≤60:=by
    rw[←ct,aZs];exact aYb hDl (by rw[←HN.out.2.2];exact rm.out.2.len)
   replace kd:=m4.at0 kd;replace kp2:=m4.at0 kp2;have H7:=Hi (Ai h7 ct);have M4:=Hi m4;clear hv h7 ct m4 hDl HW;go_upto_region 7 with fail;go_wp2_with fail;go_loopw [8,9] (fun s8 s9 ws=>∃(i q:Nat) (a8:Wb) (c8:Nat),i≤nd∧q≤i∧s8= .slice a8 q c8∧s9= .int .i64 (i:Int)∧Hid (((D.take i).filterMap (cM E S)).length=q∧aE drc 2 97 ws w4.heap.size (.slice a8 q c8) ((D.take i).filterMap (cM E S)))∧Hid (Mod (fun _=>False) w4 ws)) (fun _ s9 _=>nd-(intOf s9).toNat)
   case atStart=>exact⟨0,0,none,0,aYf _,aZq _,rfl,rfl,Hi ⟨rfl,aE.nil _ _⟩,Hi (Mod.refl _ _)⟩
   case round=>
    obtain⟨i,q,a8,c8,hi,Wt,rfl,rfl,HQ,HM⟩:=hrel;by_cases hlt:i<nd
    ·have cg:=hlt;obtain⟨y,hy⟩:∃y,D[i]? =some y:=⟨_,aZb (by rw[←aZs (f:=Nd.id),H7.out.2];exact hlt)⟩;obtain⟨j,x,Vz,iz,hyj⟩:=fS (HD.out.1.mem_iff.1 (aZi hy));rw[aXe]at hyj;have hj4:j<4096:=aZd (aZa.1 Vz).1 HD.out.2.2.1.ok.fi.sl;have dx:y.id=idn j:=by rw[hyj]
     have dm:itS S y.id=some x:=by
      unfold itS;rw[dx,uS (by omega),Vz];rfl
     obtain⟨g7,o7,C7,U7,fr7,rfl,k7,he7,-⟩:=H7.out.1.block (i:=i) (x:=idn j) (by rw[aZv,hy,aYj,dx]);have e7:C7[o7+i]? =some (.int .i64 (j:Int)):=by
      have h0:=jV he7 (j:=0) (v:= .int .i64 (j:Int)) (by show(#[Value.int .i64 (idn j).toInt])[0]? =_;rw[bR (by omega)];rfl);simpa using h0
     have HY:Hid ((D.take (i+1)).filterMap (cM E S)=(D.take i).filterMap (cM E S)++(if bP E.H E.N x.r=0 then []else [(x.n,bP E.H E.N x.r)])):=Hi (by
      rw[aYa,hy,List.filterMap_append];congr 1;unfold cM;show List.filterMap _ [y]=_;simp only[List.filterMap_cons,List.filterMap_nil,dm,Option.bind_some];by_cases h0:bP E.H E.N x.r=0<;>simp[h0])
     have Mq:Hid (∀wq,Mod (fun _=>False) wr wq→∃T,BT X.D.b S T wq):=Hi (fun wq hm=>by
      obtain⟨Ts,h1,_⟩:=HS.out.1;exact⟨_,(BT.good X.D.b S).cl _ _ _ (h1 1 _ rfl) ((M4.out.trans (HM.out.trans hm)).mono fun _ _ h=>h.elim)⟩)
     have HJ:=Hi Vz;replace kd:=HM.out.at0 kd;have KDR:=Hi kd;replace k7:=HM.out.at0 k7;clear hy Vz iz hyj dx dm he7 hj4;go_upto_region 11 with fail;have Lkd:=aA kd;have Lk7:=aA k7;refine bL (T0:=fun _=>False) (K:=fun _ _=>True) (κ:=fun i=>[0,0,0,0,0,0,0,0,6,0,0,0,3,4,0].getD i 0) (υ:=fun _=>[]) [0,1,2,3,4,5,6,7,8,9,10,11,12,13,14] (by kernel_rfl) (by kernel_rfl) (aH.true).cl (trivial) (fun _ h=>h.elim) ?_;have gK:=aH.true
     iterate 8 first|refine Zg ?_|refine Zh ?_
     (refine ZJ (WT wr.heap.size x) (uL wr.heap.size x) gK ?_ (s:=fun T wq kq ltq ae ub=>by(obtain⟨TB,hTB⟩:=Mq.out wq ae;exact OP wr.heap.size ae.size T hTB HJ.out));rintro v11 ⟨wI,TI,hI⟩;replace gK:=gK.and ((uL wr.heap.size x) v11);(obtain⟨_,z,rfl,_⟩:=hI.k);(try clear hI TI wI);try simp only[zL])
     iterate 3 refine Zg ?_
     (refine TG.allocB (by simp only[zK];rfl) rfl (by rfl) rfl rfl eA (fun p10 ph _=> ?n15);try simp only[zL]);(refine TG.storeB (d:= ?d16) (T:= ?T16) (y:= ?y16) (p:= ?p16) (b:= ?b16) (v:= ?v16) (by simp only[zK];rfl) rfl (by rfl) ?hd16 ?Rb ?Pf ?hx16 ?hb16 ?Km (fun w1 dz=> ?hy16) ?hn16;(case hd16=>rfl);(case Rb=>rfl);(case Pf=>(simp only[zM];(try rfl)));(case hx16=>simp only[zM];try rfl);(case hb16=>first|exact Bx.set_same _ _ _|(simp only[Bx.set_same];rfl));(case Km=>exact⟨rfl,rfl⟩);(case hy16=>(go_simp;(try first|with_reducible rfl|(rw[setCell_blk dz];rfl))));try simp only[zL]);refine Zg ?_;refine TG.nil (fun w5 ⟨TR,hr⟩=> ?_);replace kd:=hr.q kd;replace k7:=hr.q k7;obtain⟨gp10,nTp10,kp10⟩:=hr.b p10;clear gK;obtain⟨_,z2,hz,lv,il,lz⟩:=hr.k;rename_i Dr _ _;clear Dr;have bp:dM z=dM z2:=by
      injection hz with hz
      have:=congrArg (fun a=>a[0]?) hz;simpa using this
     have m5:=hr.mod;rw[bp]at kp10;simp only[bp];have hnn:z2.n=x.n:=by rw[←lv];rfl
     have ri:z2.r.con=x.r:=by rw[←lv];rfl
     have HZ:=Hi (Ai hnn (Ai ri il));have ph:wr.heap.size≤p10:=gp10;clear hr lv il lz hz bp hnn ri k7;go_upto_region 12 with fail;have Lkd:=aA kd;have Lkp10:=aA kp10;refine ZP0 [3] ?_;refine Za F0 fun p12 Ri=> ?_;refine TD.nil (fun w6 hr=> ?_);replace kd:=hr.q kd;replace kp10:=hr.q kp10;obtain⟨gp12,kp12⟩:=hr.b p12;have mp12:=hr.mod;have m6:=m5.then0 hr.mod;rw[AS]at kp12;have Ri:wr.heap.size≤p12:=aYb m5.size gp12;clear hr m5;have HQS:Hid ((∀wq,Mod (fun _=>False) wr wq→∀k,Calls Tryz.prog 22 #[ptrV X.D.q,.agg (kc k)] wq fun e w'=>∃v,e= .returned v∧(∃i:Nat,v= .tuple #[.int .i64 (i:Int),.bool (decide (k∈E.H))])∧Mod (fun _=>False) wq w')∧
       ∀wq,Mod (fun _=>False) wr wq→∀g,Calls Tryz.prog 23 #[ptrV X.D.sn,.agg (sgc g)] wq fun e w'=>∃v,e= .returned v∧v= .bool (lkp g E.N).isSome∧Mod (fun _=>False) wq w'):=Hi ⟨fun wq hm k=>by
      obtain⟨Ts,h1,_⟩:=HS.out.1;have hq:tT X.D.q E.H (Ts 2) w3:=h1 2 _ rfl;exact(age_c X.D.q E.H k wq (hq.1.mod0 (M4.out.trans (HM.out.trans hm)))).mono (fun e w' ⟨i,h1,h2⟩=>⟨_,h1,⟨i,rfl⟩,h2⟩),fun wq hm g=>by
      obtain⟨Ts,h1,_⟩:=HS.out.1;have hs:vZ X.D.sn E.N (Ts 3) w3:=h1 3 _ rfl;exact(shas_c X.D.sn E.N g wq (hs.mod0 (M4.out.trans (HM.out.trans hm)))).mono (fun e w' h=>⟨_,h.1,rfl,h.2⟩)⟩
     have gm:=HZ.out.2.2;obtain⟨G,hG⟩:∃G,x.r.sg.headD sg0=G:=⟨_,rfl⟩;have Fk:=Hi hG;have hgz:z2.r.sg.l.headD sg0=G:=by
      rw[←hG,←HZ.out.2.1];rfl
     obtain⟨zb,vl⟩:∃zb,decide (0<z2.r.sg.l.length)=zb:=⟨_,rfl⟩;have hzI:decide ((0:Int)<((z2.r.sg.l.length:Nat):Int))=zb:=by rw[←vl];exact decide_eq_decide.2 (by omega)
     have Cc:=Hi (Ai vl (Ai hgz gm));clear hG hgz gm;go_upto_region 13 with fail;have Lkd:=aA kd;have Lkp10:=aA kp10;have Lkp12:=aA kp12;refine ZP0 [0,0,0,1,0,0] ?_
     iterate 6 first|refine Zv ?_|refine Zd ?_
     refine TD.nil (fun wb hr=> ?_);replace kd:=hr.q kd;replace kp10:=hr.q kp10;replace kp12:=hr.q kp12;have mb:=m6.then0 hr.mod;have MB0:=Hi (Ai mb (mp12.then0 hr.mod));have KK:=Hi (Ai kp10 kp12);clear hr vl hzI mb m6 mp12
     go_upto_if 59 with fail
     go_cut []from 60 to 65 (fun wx=>Hid (wx.heap[p10]? =wb.heap[p10]? ∧wx.heap[p12]? =some (.cells (sgc G) 92 (0,0)))∧Hid (Mod (fun _=>False) wr wx))
     case first=>
      cases zb with
      |false=>
       have hk:sgc sg0=sgc G:=by
        have h1:=Cc.out.2.1;have h2:=of_decide_eq_false Cc.out.1;cases hs:z2.r.sg.l with
        |nil=>rw[hs]at h1;rw[←h1];rfl
        |cons a r=>rw[hs]at h2;simp at h2
       have HF:=Hi hk;clear hk;go_wp2_with fail;go_meet;exact⟨Hi ⟨rfl,by rw[←HF.out];exact KK.out.2⟩,Hi MB0.out.1⟩
      |true=>
       have nw:0<z2.r.sg.l.length:=of_decide_eq_true Cc.out.1;obtain⟨b1,o1,C1,U1,fr1,Oh,ks0,gy,jz⟩:=Cc.out.2.2.ok.sg.block (i:=0) (x:=G) (by
        have h1:=Cc.out.2.1;cases hs:z2.r.sg.l with
        |nil=>rw[hs]at nw;cases nw
        |cons a r=>rw[hs]at h1;rw[←h1];rfl)
       simp only[aWy,aXz]at gy jz;have dz:=aA ks0;have ks:=MB0.out.2.at0 ks0;have jw:b1≠p12:=by omega
       have ua:p10≠p12:=by omega
       clear ks0;go_upto_region 14 with fail;have Lkd:=aA kd;have Lkp10:=aA kp10;have Lks:=aA ks;have Lkp12:=aA kp12;refine ZP0 [0,0,0,1,0,1,5] ?_
       iterate 6 first|refine Zv ?_|refine Zd ?_
       refine Zi fun wE hr=> ?_;replace kd:=hr.mod.at0 kd;replace kp10:=hr.mod.at0 kp10;replace ks:=hr.mod.at0 ks;replace kp12:=hr.mod.at0 kp12;have mE:=hr.mod;refine ZS ?_;refine ZN kp12 fun wc kp12 mS=> ?_;(try simp only[Array.setIfInBounds,zL]at kp12);replace kd:=mS.at_ne kd (by omega);replace kp10:=mS.at_ne kp10 (by omega);replace ks:=mS.at_ne ks (by omega);have mc:=(MB0.out.1.then0 mE).thenB mS (.inl Ri);have hk10:=kp10;clear mE mS ks jz gy Oh jw dz nw;have HF:Hid ((wc.heap[p10]? =wb.heap[p10]? ∧wc.heap[p12]? =some (.cells (sgc G) 92 (0,0)))∧Mod (fun _=>False) wr wc):=Hi ⟨⟨by rw[hk10,KK.out.1],kp12⟩,mc⟩;go_wp2_with fail;go_meet;exact⟨Hi HF.out.1,Hi HF.out.2⟩
     case rest=>
      obtain⟨nh,pp⟩:=hcut;obtain⟨Il,Ot⟩:=nh.out;have mb:=pp.out;rw[KK.out.1]at Il;clear kp10 kp12 kd;have kp10:=Il;have kp12:=Ot;have kd:=mb.at0 KDR.out;clear Il Ot nh pp;go_upto_region 15 with fail;have Lkd:=aA kd;have Lkp10:=aA kp10;have Lkp12:=aA kp12;refine ZR (fun _ _ v=>∃i:Nat,v= .tuple #[.int .i64 (i:Int),.bool (decide (z2.r.rc∈E.H))]) [0,0,0,1,0,0,0,0,1,2,0,0,0,0,0] ?_
      iterate 9 first|refine Zv ?_|refine Zd ?_
      (refine Zc ?_ (s:=by intro wq ae;exact(HQS.out.1 wq (mb.then0 ae) z2.r.rc));rintro _ ⟨iv,rfl⟩;try simp only[zL])
      iterate 5 refine Zv ?_
      refine TD.nil (fun w7 hr=> ?_);replace kd:=hr.q kd;replace kp10:=hr.q kp10;replace kp12:=hr.q kp12;have m7:=mb.then0 hr.mod;clear hr mb;by_cases hH:z2.r.rc∈E.H
      ·have hd:=Dt hH;go_upto_region 18 with fail;have Lkd:=aA kd;have Lkp10:=aA kp10;have Lkp12:=aA kp12;refine ZR (fun _ _ v=>v= .bool (lkp (G) E.N).isSome) [0,0,0,1,1,2] ?_
       iterate 5 first|refine Zv ?_|refine Zd ?_
       (refine Zc ?_ (s:=by intro wq ae;exact(HQS.out.2 wq (m7.then0 ae) (G)));rintro _ rfl;try simp only[zL]);refine TD.nil (fun w8 hr=> ?_);replace kd:=hr.q kd;replace kp10:=hr.q kp10;replace kp12:=hr.q kp12;have m8:=m7.then0 hr.mod;clear hr m7;cases hL:(lkp (G) E.N).isSome with
       |true=>
        have Ho:Hid (bP E.H E.N x.r=6):=Hi (by
         unfold bP;rw[Fk.out,←HZ.out.2.1,if_pos (show z2.r.con.rc∈E.H from hH),hL,if_pos rfl])
        clear hH hd hL;go_upto_region 19 with fail;have Lkd:=aA kd;have Lkp10:=aA kp10;refine ZP0 [0,0,1,0,3,5,0] ?_
        iterate 3 first|refine Zv ?_|refine Zd ?_
        refine Zu (UK z2.n) ?_;refine Zy (PX (z2.n,6)) fun p97 hp97=> ?_;refine Zi fun w9 hr=> ?_;replace kd:=hr.q kd;replace kp10:=hr.q kp10;obtain⟨gp97,kp97⟩:=hr.b p97;have m9:=m8.then0 hr.mod;clear hr;have qj:∃a' c' w',(Builtin.append_ #[52,52] 52 #[.slice a8 q c8,.slice (some ⟨p97,0,none⟩) 1 1]).run Tryz.prog w9= .ok (.slice a' (q+1) c') w'∧aE drc 2 97 w' w4.heap.size (.slice a' (q+1) c') ((D.take (i+1)).filterMap (cM E S))∧Mod (fun _=>False) w4 w':=by
         have h1:=wP (HQ.out.2.mod0 m9) (by rw[HQ.out.1];omega) (HM.out.trans m9) kp97;rw[HQ.out.1,HZ.out.1]at h1;rw[HY.out,Ho.out,if_neg (by decide)];exact h1
        obtain⟨a9,c9,wz,az,bn,Qp⟩:=qj;have Nm:Hid (((D.take (i+1)).filterMap (cM E S)).length=q+1∧aE drc 2 97 wz w4.heap.size (.slice a9 (q+1) c9) ((D.take (i+1)).filterMap (cM E S))):=Hi ⟨by
         rw[HY.out,Ho.out,if_neg (by decide),aZg,HQ.out.1];rfl,bn⟩
        have dd:=Hi Qp;clear bn Qp m9 m8 kp97;refine ZA az ?_;refine Ze ?_;refine TE.nil ?_;clear az;go_wp2_with fail;go_roundw
        case rel=>exact⟨i+1,q+1,a9,c9,by omega,by omega,rfl,by go_num,Nm,dd⟩
        case measure=>simp[intOf];omega
       |false=>
        have Ho:Hid (bP E.H E.N x.r=0):=Hi (by
         unfold bP;rw[Fk.out,←HZ.out.2.1,if_pos (show z2.r.con.rc∈E.H from hH),hL,if_neg (by simp)])
        have Nm:Hid (((D.take (i+1)).filterMap (cM E S)).length=q∧aE drc 2 97 w8 w4.heap.size (.slice a8 q c8) ((D.take (i+1)).filterMap (cM E S))):=Hi (by
         rw[HY.out,Ho.out,if_pos rfl,aYx];exact⟨HQ.out.1,HQ.out.2.mod0 m8⟩)
        have dd:=Hi (HM.out.trans m8);clear hH hd hL m8;go_wp2_with fail;go_roundw
        case rel=>exact⟨i+1,q,a8,c8,by omega,by omega,rfl,by go_num,Nm,dd⟩
        case measure=>simp[intOf];omega
      ·have hd:=Df hH;have Ho:Hid (bP E.H E.N x.r=5):=Hi (by
        unfold bP;rw[←HZ.out.2.1,if_neg (show¬z2.r.con.rc∈E.H from hH)])
       clear hH;go_upto_region 17 with fail;have Lkd:=aA kd;have Lkp10:=aA kp10;refine ZP0 [0,0,1,0,3,5,0] ?_
       iterate 3 first|refine Zv ?_|refine Zd ?_
       refine Zu (UJ z2.n) ?_;refine Zy (PX (z2.n,5)) fun p85 hp85=> ?_;refine Zi fun w9 hr=> ?_;replace kd:=hr.q kd;replace kp10:=hr.q kp10;obtain⟨gp85,kp85⟩:=hr.b p85;have m9:=m7.then0 hr.mod;clear hr;have qj:∃a' c' w',(Builtin.append_ #[52,52] 52 #[.slice a8 q c8,.slice (some ⟨p85,0,none⟩) 1 1]).run Tryz.prog w9= .ok (.slice a' (q+1) c') w'∧aE drc 2 97 w' w4.heap.size (.slice a' (q+1) c') ((D.take (i+1)).filterMap (cM E S))∧Mod (fun _=>False) w4 w':=by
        have h1:=wP (HQ.out.2.mod0 m9) (by rw[HQ.out.1];omega) (HM.out.trans m9) kp85;rw[HQ.out.1,HZ.out.1]at h1;rw[HY.out,Ho.out,if_neg (by decide)];exact h1
       obtain⟨a9,c9,wz,az,bn,Qp⟩:=qj;have Nm:Hid (((D.take (i+1)).filterMap (cM E S)).length=q+1∧aE drc 2 97 wz w4.heap.size (.slice a9 (q+1) c9) ((D.take (i+1)).filterMap (cM E S))):=Hi ⟨by
        rw[HY.out,Ho.out,if_neg (by decide),aZg,HQ.out.1];rfl,bn⟩
       have dd:=Hi Qp;clear bn Qp m9 m7 kp85;refine ZA az ?_;refine Ze ?_;refine TE.nil ?_;clear az;go_wp2_with fail;go_roundw
       case rel=>exact⟨i+1,q+1,a9,c9,by omega,by omega,rfl,by go_num,Nm,dd⟩
       case measure=>simp[intOf];omega
    ·obtain rfl:nd=i:=by omega
     have Lj:D.take nd=D:=aY6 (by rw[←H7.out.2,aZs];exact aZq _);have Js:=HQ.out;rw[Lj]at Js;obtain⟨yy,Bk⟩:=Js;obtain⟨_,c8',e8,h8,hb8,_⟩:=Bk.at P7;rw[yy]at e8;injection e8 with e8 _ e9
     subst e8 e9;have mw:Mod (fun _=>False) w3 wr:=M4.out.trans HM.out;have hSw:=HS.out.1.mod0 (dparts.good X d E (B8 n S [])) mw;have hTw:∀a,T a→a<wr.heap.size:=fun a ha=>aZd (HS.out.2.1 a ha).1 mw.size;have h0:¬T 0:=fun h=>by
      obtain⟨C,U,fr,t1,_⟩:=tq.out;have h1:=aA t1;have h2:=HS.out.2.2 0 h;omega
     have HP:Hid (Calls Tryz.prog 10 #[ptrV d] wr fun e w'=>∃v,e= .returned v∧∃t u,v= .tuple #[u,.int .i64 0]∧cX E (B8 n S D) t∧OK (endP E.n t) u w'∧Goes (OE d E {endP E.n t with S:=wZ (endP E.n t)}) T wr w'):=
      Hi ((JK (s:=B8 n S D) ⟨X,HE.out.2.1 D,hSw⟩ hTw h0 (tq.out.mod0 (M3.out.trans mw)) HD.out.2.2.1 rfl).mono (fun e w' ⟨t,u,h1,h2,h3,h4⟩=>⟨_,h2,t,u,rfl,h1,h3,h4⟩))
     have H8:=Hi (Ai h8 (Ai yy (Ai (show∀b o,a8=some ⟨b,o,none⟩→¬T b from fun b o e ht=>by
      have h1:=(hb8 _ e).1;have h2:=(HS.out.2.1 b ht).1;have h3:=M4.out.size;have h4:w4.heap.size≤b:=h1;omega) mw)))
     replace kp2:=HM.out.at0 kp2;clear Lj yy Bk h8 hb8 mw hSw hTw h0 kd hi Wt hlt HQ;go_upto_region 20 with fail;refine region_seq 8 rfl ?_;simp only[List.range,List.range.loop];refine Zq ?_;(refine kE (by simp only[zK];rfl) (by rfl) ?y70 (HP.out) (fun vn wp hR=> ?n70);(case y70=>(go_simp;(try(first|with_reducible rfl|(constructor<;>with_reducible rfl))))))
     (obtain⟨t,u,rfl,hRo,⟨ga,da,aa,G,rfl,Lm,Dj,Vf,hda,haa⟩,hGo⟩:=hR)
     (try simp only[zL])
     iterate 3 refine Zq ?_
     (refine x5 (by simp only[zK];rfl) (by rfl) rfl FZ (fun p15 wn gp15 kp15 mp15=> ?n74);try simp only[zL]);refine ZT ?_;refine ZQ kp15 fun wn kp15 mS=> ?_;refine Zq ?_;refine oI ?_;obtain⟨wa,hwa⟩:∃wa,wn=wa:=⟨_,rfl⟩;rw[hwa]at kp15 mS⊢;clear hwa;have ma:Mod (fun _=>False) wp wa:=mp15.then mS (fun x hx e=>by omega);obtain⟨Mf,_,hK,hDd⟩:=hRo.law HD.out.2.2.1;have Dh:=Mf.atEnd hK hDd;have uu:(endP E.n t).dr=D.filterMap (cM E S):=Dh.drops;have Ir:(endP E.n t).dr.length=q:=by rw[uu];exact H8.out.2.1
     rw[uu]at hda;rw[Ir]at kp15;obtain⟨T9,⟨X9,hX9,mo⟩,hmg,Fx⟩:=hGo;have hsw:=mo.mod0 (dparts.good X9 d E _) ma;obtain⟨Ts,h1,_⟩:=hsw;have Gb:CeL d (iE X9.D) 69 (Ts 0) wa:=h1 0 _ rfl;have hb9:BT X9.D.b (wZ (endP E.n t)) (Ts 1) wa:=h1 1 _ rfl;obtain⟨cz,hcz⟩:∃cz,(wZ (endP E.n t)).countP Option.isSome=cz:=⟨_,rfl⟩;have hcq:cz+q=nd:=by
      have e1:=Dh.lw.cn;have e2:=G3 (endP E.n t).sd (endP E.n t).S;have e3:=OB HD.out.2.2.2 0;have e4:=HD.out.1.length_eq;have e5:=H7.out.2;rw[aZs]at e5;rw[←hcz,List.countP_eq_length_filter];unfold wZ;rw[Ir]at e1;show _=nd;have e1:((endP E.n t).S.filter Option.isSome).length+q=(S.filter Option.isSome).length:=e1;omega
     have Yl:Hid (∀wq,Mod (fun _=>False) wa wq→Calls Tryz.prog 12 #[ptrV d,.agg (oY (.slice sa n sc) r0 i0 b0 f0 (u64v l1) (u64v l2) (u64v l3) (u64v fw) ihold (.slice oa on oc))] wq fun e w'=>e= .returned (.bool true)∧Mod (fun _=>False) wq w'):=Hi (fun wq hm=>
      Whole_c (n:=n) (hm.at0 Gb.2) (hX9.fv.trans (by rw[HE.out.1.2.2.2])) (hX9.cv.trans (by rw[HE.out.1.2.2.2])) sa sc r0 i0 b0 f0 (u64v l1) (u64v l2) (u64v l3) (u64v fw) ihold (.slice oa on oc))
     have Lb:Hid (∀wq,Mod (fun _=>False) wa wq→Calls Tryz.prog 18 #[ptrV X9.D.b] wq fun e w'=>e= .returned (.int .i64 (cz:Int))∧Mod (fun _=>False) wq w'):=Hi (fun wq hm=>by
      have h:=PU ((BT.good X9.D.b _).cl _ _ _ hb9 (hm.mono fun _ _ h=>h.elim)).bh;rw[hcz]at h;exact h)
     have HDD:Hid (aS drc 2 wa da (D.filterMap (cM E S))∧aS drc 2 wa a8 (D.filterMap (cM E S))):=Hi ⟨hda.mod0 ma,(H8.out.1.mod hmg (fun b o e ht=>H8.out.2.2.1 b o e ht)).mod0 ma⟩;replace kp2:=ma.at0 (hmg.at kp2 HNP.out);have kd:=Gb.2;have Um:Hid (Mod (fun _=>False) w wa):=Hi (((M3.out.trans H8.out.2.2.2).then hmg (fun a hl ha=>by
      have h2:=HS.out.2.2 a ha;omega)).trans ma)
     unfold iE at kd;have He:IntKind.i64.wrap ((nd:Int)-(q:Int))=(cz:Int):=by
      rw[IntKind.wrap_i64];omega
     have hqq:((q:Int) !=(q:Int))=false:=by simp
     have HCZ:=Hi hcq;have HLQ:=Hi H8.out.2.1;clear Mf hK hDd Dh uu Ir hda hX9 mo hmg Fx h1 Gb hb9 hcz hcq ma mp15 mS Lm Dj Vf haa hRo H8 HP;unfold oY at Yl;go_upto_region 21 with fail;go_wp2_with fail;go_at_call 12;refine(Yl.out wa (Mod.refl _ _)).mono ?_;rintro e wb ⟨rfl,mb⟩;replace kp15:=mb.at0 kp15;replace kd:=mb.at0 kd;have MB:=Hi mb;clear mb Yl kp2;go_wp2_with fail;go_loopw [17] (fun s17 ws=>∃j:Nat,j≤q∧s17= .int .i64 (j:Int)∧Hid (Mod (fun _=>False) wb ws)) (fun s17 _=>q-(intOf s17).toNat)
     case atStart=>exact⟨0,aYf _,rfl,Hi (Mod.refl _ _)⟩
     case round=>
      obtain⟨j,hj,rfl,Lc⟩:=hrel;have Rw:q≤60:=by have:=HCZ.out;omega
      by_cases tx:j<q
      ·obtain⟨x,hx⟩:∃x,(D.filterMap (cM E S))[j]? =some x:=⟨_,aZb (by rw[HLQ.out];exact tx)⟩;have mj:=MB.out.trans Lc.out;obtain⟨gA,oA,CA,UA,frA,rfl,kA,heA,hleA⟩:=(HDD.out.1.mod0 mj).block hx;obtain⟨gB,oB,CB,UB,frB,rfl,kB,heB,hleB⟩:=(HDD.out.2.mod0 mj).block hx;replace kp15:=Lc.out.at0 kp15;clear hx mj;go_upto_region 26 with fail;have Lkp15:=aA kp15;have LkA:=aA kA;have LkB:=aA kB;refine ZP [0,1,0,0,1,0,0,0,1,0] ?_
       iterate 10 first|refine Zv ?_|refine Zd ?_
       refine TD.nil (fun wd hr=> ?_);replace kp15:=hr.q kp15;replace kA:=hr.q kA;replace kB:=hr.q kB;have Un:=Hi (Lc.out.then0 hr.mod);clear hr;go_wp2_with fail;go_roundw
       case rel=>exact⟨j+1,by omega,by go_num,Un⟩
       case measure=>simp[intOf];omega
      ·obtain rfl:q=j:=by omega
       replace kd:=Lc.out.at0 kd;go_upto_region 28 with fail;go_wp2_with fail;go_at_call 18;refine(Lb.out wr (MB.out.trans Lc.out)).mono ?_;rintro e we ⟨rfl,me⟩;have ME:=Hi (Um.out.trans (MB.out.trans (Lc.out.trans me)));clear me;have ur:((cz:Int)==(cz:Int))=true:=beq_self_eq_true _;go_wp2_with fail;go_at_call 9;refine(lives_c _ (tq.out.mod0 ME.out)).mono ?_;rintro e wy ⟨rfl,my⟩;go_wp2_with fail;go_ret;exact⟨rfl,ME.out.trans my⟩
theorem DX (x:TP) (a:Wb) (l:List pQ) (c:Nat) (w:We) (hx:LL w x) (hl:aS yO 83 w a l) (ak:∀y∈l,tQ w y) (hz:l.length*288≤reachBytes) (_:∀y,a=some y→y.block<w.heap.size∨l=[]) (_:l.length≤maxLen) (gq:dP w):
  Calls Tryz.prog 5 #[.agg (UT x),.slice a l.length c] w fun e w'=>e= .returned (.bool true)∧Mod (fun _=>False) w w':=
 DW x a l c w hx hl ak (by
                  have h3:reachBytes=140737488351232:=by decide
                  omega) gq
end
end Go.Proofs.YtblbegbjlaokjaaGreatDoor