/- The lemmas of the proof, part XO10: how the program and its data lie in memory, and what its functions do. -/
import Derived.Test.YtblbegbjlaokjaaGreatDoorXS9
set_option linter.unusedSimpArgs false
set_option linter.unusedVariables false
set_option linter.unusedSectionVars false

set_option maxRecDepth 20000
set_option maxHeartbeats 3200000
namespace Go.Proofs.YtblbegbjlaokjaaGreatDoor
open Go.RowKit
section
open Go.ChangeShapes Go.WideShapes Go.ChangeAt Go.RowKit
section
variable {H:Type} {enc:TypeId×Value→H}
theorem pA {w:World} {base:Nat} {sp:Nat→Bool} {held:Bool} {fuel:Nat} {cs:List Value} {x:DataW H×List MemPlace} {t:TypeId} {n:Nat} (hT:Tryz.prog.underlying t=some (.array n 5)) (hc:Tryz.prog.cellsOf t=n) (h:DataW.trod enc Tryz.prog w base sp held fuel t cs=some x):
  ∃l:List UInt8,l.length=n∧cs=l.map bc:=by
 obtain⟨xs,m,rfl,rfl,hl,hx,hi⟩:=DataW.trod_array hT h;have hl:cs.length=n:=hl.trans hc;have hx:xs.length=n:=hx;have hget:∀i,i<n→∃u:UInt8,cs[i]? =some (bc u):=fun i h32=>by
  have hq:=hi i h32;rw[show Tryz.prog.cellsOf 5=1 by kernel_rfl,aYp,aZb (by omega)]at hq;obtain⟨n,hn,_,hw⟩:=DataW.trod_int Tryz.underlying5 hq;have hb:=bounds_u8 hw;refine⟨UInt8.ofNat n.toNat,?_⟩;rw[TY hn];unfold bc
  have:((UInt8.ofNat n.toNat).toNat:Int)=n:=by
   rw[UInt8.toNat_ofNat'];omega
  rw[this]
 let f:Value→UInt8:=fun v=>match v with
  | .int _ n=>UInt8.ofNat n.toNat
  |_=>0
 refine⟨cs.map f,by simp[hl],?_⟩;apply aXm;intro i;simp only[aX0,aZv];by_cases h32:i<n
 ·obtain⟨n,hn⟩:=hget i h32;rw[hn]
  have:bc (f (bc n))=bc n:=by
   show bc (UInt8.ofNat ((n.toNat:Int).toNat))=bc n;rw[aWm,UInt8.ofNat_toNat]
  simp[this]
 ·rw[aY1 (by omega)];rfl
theorem nE:cM enc Tryz.prog 107 kc (fun _ _=>True):=fun w base sp held fuel cs x h _=>by
 obtain⟨l,hl,rfl⟩:=pA Tryz.underlying107 (by kernel_rfl) h;exact⟨⟨l,hl⟩,rfl,trivial⟩
theorem yJ:cM enc Tryz.prog 35 kc (fun _ _=>True):=fun w base sp held fuel cs x h _=>by
 obtain⟨l,hl,rfl⟩:=pA Tryz.underlying35 (by kernel_rfl) h;exact⟨⟨l,hl⟩,rfl,trivial⟩
theorem DL:cM enc Tryz.prog 92 sgc (fun _ _=>True):=fun w base sp held fuel cs x h _=>by
 obtain⟨l,hl,rfl⟩:=pA Tryz.underlying92 (by kernel_rfl) h;exact⟨⟨l,hl⟩,rfl,trivial⟩
theorem jW:cM enc Tryz.prog 5 uc (fun _ _=>True):=fun w base sp held fuel cs x h hfit=>by
 obtain⟨n,rfl,_,hw⟩:=DataW.trod_int Tryz.underlying5 h;obtain⟨y,rfl⟩:=NM (bounds_u8 hw);exact⟨y,rfl,trivial⟩
def NL (x:UInt64):Array Value:= #[u64v x]
theorem dZ:cM enc Tryz.prog 23 NL (fun _ _=>True):=fun w base sp held fuel cs x h hfit=>by
 obtain⟨n,rfl,_,hw⟩:=DataW.trod_int Tryz.underlying23 h;obtain⟨y,rfl⟩:=Q2 (bounds_u64 hw);exact⟨y,rfl,trivial⟩
def XZ (x:Int64):Array Value:= #[.int .i64 x.toInt]
theorem fK:cM enc Tryz.prog 3 XZ (fun _ _=>True):=fun w base sp held fuel cs x h hfit=>by
 obtain⟨n,rfl,_,hw⟩:=DataW.trod_int Tryz.underlying3 h;obtain⟨y,rfl⟩:=O3 (bounds_i64 hw);exact⟨y,rfl,trivial⟩
def V3 (x:Bool):Array Value:= #[.bool x]
theorem kO:cM enc Tryz.prog 4 V3 (fun _ _=>True):=fun w base sp held fuel cs x h hfit=>by
 obtain⟨b,rfl,_⟩:=DataW.trod_bool Tryz.underlying4 h;exact⟨b,rfl,trivial⟩
theorem aJ {α:Type} {T t:TypeId} {fs:Array Field} {f:α→Array Value} {Ok:World→α→Prop} (j off n:Nat) (hT:Tryz.prog.underlying T=some (.struct fs)) (hfl:(fs[j]?).map (fun f=>(f.type,f.offset))=some (t,off)) (hn:Tryz.prog.cellsOf t=n) (hR:cM enc Tryz.prog t f Ok)
  {w:World} {base:Nat} {sp:Nat→Bool} {held:Bool} {fuel:Nat} {cs:List Value} {x:DataW H×List MemPlace} (h:DataW.trod enc Tryz.prog w base sp held fuel T cs=some x) (hfit:yF Tryz.prog T x.1):∃a:α,(cs.drop off).take n=(f a).toList∧Ok w a:=by
 obtain⟨xs,m,rfl,rfl,hl,hx,hi⟩:=DataW.trod_struct hT h;cases hf:fs[j]? with
 |none=>rw[hf]at hfl;cases hfl
 |some fl=>
  rw[hf]at hfl;simp only[aYj,aYm,Prod.mk.injEq]at hfl;obtain⟨rfl,rfl⟩:=hfl;have hj:j<xs.length:=by rw[hx];exact(aZf.1 hf).1
  have h1:=hi j fl hf;rw[aZb hj,hn]at h1;have h2:yF Tryz.prog fl.type (xs[j].1):=yG (i:=j) (d:=xs[j].1) (fl:=fl) hT hfit hf (by rw[aZv,aZb hj];rfl);obtain⟨a,ha,hok⟩:=hR _ _ _ _ _ _ _ h1 h2;exact⟨a,by rw[←ha],hok⟩
theorem aZ (cs:List Value) (off n:Nat):cs.drop off=(cs.drop off).take n++cs.drop (off+n):=by rw[←List.drop_drop,aY9]
theorem gM {cs:List Value} {n:Nat} (h:cs.length=n):cs.drop n=[]:=List.drop_of_length_le (by omega)
theorem gO {T:TypeId} {fs:Array Field} {n:Nat} (hT:Tryz.prog.underlying T=some (.struct fs)) (hn:Tryz.prog.cellsOf T=n) {w:World} {base:Nat} {sp:Nat→Bool} {held:Bool} {fuel:Nat} {cs:List Value} {x:DataW H×List MemPlace} (h:DataW.trod enc Tryz.prog w base sp held fuel T cs=some x):cs.length=n:=by
 obtain⟨xs,m,rfl,rfl,hl,_⟩:=DataW.trod_struct hT h;exact hl.trans hn
abbrev rI:World→Sl UInt8→Prop:=jF uc 1 1 (fun _ _=>True)
theorem iI:cM enc Tryz.prog 29 (BK (α:=UInt8)) rI:=
 cY Tryz.underlying29 (by kernel_rfl) (by kernel_rfl) (by omega) jW 0
theorem yT:cM enc Tryz.prog 33 (BK (α:=aQ)) (jF kc 32 32 (fun _ _=>True)):=
 cY Tryz.underlying33 (by kernel_rfl) (by kernel_rfl) (by omega) nE iC
def WZ:Sg:=⟨List.replicate 64 0,rfl⟩
theorem y7:cM enc Tryz.prog 30 (BK (α:=Sg)) (jF sgc 64 64 (fun _ _=>True)):=
 cY Tryz.underlying30 (by kernel_rfl) (by kernel_rfl) (by omega) DL WZ
def NS (w:World) (x:oC):Prop:=rI w x.a∧rI w x.d
def NV (w:World) (x:oM):Prop:=rI w x.w∧rI w x.r
theorem F7:cM enc Tryz.prog 106 inr NS:=fun w base sp held fuel cs x h hfit=>by
 obtain⟨a0,h0,ka0⟩:=aJ 0 0 1 Tryz.underlying106 rfl (by kernel_rfl) jW h hfit;obtain⟨a1,h1,ka1⟩:=aJ 1 1 1 Tryz.underlying106 rfl (by kernel_rfl) iI h hfit;obtain⟨a2,h2,ka2⟩:=aJ 2 2 1 Tryz.underlying106 rfl (by kernel_rfl) iI h hfit;have hl:=gO (n:=3) Tryz.underlying106 (by kernel_rfl) h;refine⟨⟨a0,a1,a2⟩,?_,ka1,ka2⟩;apply aZ1.1;show cs=_;have e:=aZ cs 0 1;rw[aZ cs (0+1) 1,aZ cs (0+1+1) 1,h0,h1,h2,gM (n:=0+1+1+1) hl]at e;exact e
theorem CT:cM enc Tryz.prog 36 (BK (α:=oC)) (jF inr 3 56 NS):=
 cY Tryz.underlying36 (by kernel_rfl) (by kernel_rfl) (by omega) F7 ⟨0,⟨none,[],0⟩,⟨none,[],0⟩⟩
theorem GF:cM enc Tryz.prog 109 lor NV:=fun w base sp held fuel cs x h hfit=>by
 obtain⟨a0,h0,ka0⟩:=aJ 0 0 32 Tryz.underlying109 rfl (by kernel_rfl) nE h hfit;obtain⟨a1,h1,ka1⟩:=aJ 1 32 1 Tryz.underlying109 rfl (by kernel_rfl) iI h hfit;obtain⟨a2,h2,ka2⟩:=aJ 2 33 1 Tryz.underlying109 rfl (by kernel_rfl) iI h hfit;have hl:=gO (n:=34) Tryz.underlying109 (by kernel_rfl) h;refine⟨⟨a0,a1,a2⟩,?_,ka1,ka2⟩;apply aZ1.1;show cs=_;have e:=aZ cs 0 32;rw[aZ cs (0+32) 1,aZ cs (0+32+1) 1,h0,h1,h2,gM (n:=0+32+1+1) hl]at e;refine e.trans ?_;simp[lor,kx,BK,Sl.v]
theorem C6:cM enc Tryz.prog 37 (BK (α:=oM)) (jF lor 34 80 NV):=
 cY Tryz.underlying37 (by kernel_rfl) (by kernel_rfl) (by omega) GF ⟨iC,⟨none,[],0⟩,⟨none,[],0⟩⟩
theorem y0:cM enc Tryz.prog 178 rcr (fun _ _=>True):=fun w base sp held fuel cs x h hfit=>by
 obtain⟨a0,h0,ka0⟩:=aJ 0 0 32 Tryz.underlying178 rfl (by kernel_rfl) nE h hfit;obtain⟨a1,h1,ka1⟩:=aJ 1 32 1 Tryz.underlying178 rfl (by kernel_rfl) kO h hfit;obtain⟨a2,h2,ka2⟩:=aJ 2 33 1 Tryz.underlying178 rfl (by kernel_rfl) kO h hfit;have hl:=gO (n:=34) Tryz.underlying178 (by kernel_rfl) h;refine⟨⟨a0,a1,a2⟩,?_,trivial⟩;apply aZ1.1;show cs=_;have e:=aZ cs 0 32;rw[aZ cs (0+32) 1,aZ cs (0+32+1) 1,h0,h1,h2,gM (n:=0+32+1+1) hl]at e;refine e.trans ?_;simp[rcr,rc,kx,V3]
theorem wY:cM enc Tryz.prog 42 (BK (α:=aT)) (jF rcr 34 34 (fun _ _=>True)):=
 cY Tryz.underlying42 (by kernel_rfl) (by kernel_rfl) (by omega) y0 ⟨iC,false,false⟩
def SE (x:UInt8×UInt8×UInt8):Array Value:= #[zJ x.1,zJ x.2.1,zJ x.2.2]
theorem yK:cM enc Tryz.prog 32 SE (fun _ _=>True):=fun w base sp held fuel cs x h hfit=>by
 obtain⟨a0,h0,ka0⟩:=aJ 0 0 1 Tryz.underlying32 rfl (by kernel_rfl) jW h hfit;obtain⟨a1,h1,ka1⟩:=aJ 1 1 1 Tryz.underlying32 rfl (by kernel_rfl) jW h hfit;obtain⟨a2,h2,ka2⟩:=aJ 2 2 1 Tryz.underlying32 rfl (by kernel_rfl) jW h hfit;have hl:=gO (n:=3) Tryz.underlying32 (by kernel_rfl) h;refine⟨⟨a0,a1,a2⟩,?_,trivial⟩;apply aZ1.1;show cs=_;have e:=aZ cs 0 1;rw[aZ cs (0+1) 1,aZ cs (0+1+1) 1,h0,h1,h2,gM (n:=0+1+1+1) hl]at e;exact e
def W6 (x:cS):Array Value:=mx ((cX x).drop 1) x.rc ((eQ x).take 2)
def MK (w:World) (x:cS):Prop:=jF kc 32 32 (fun _ _=>True) w x.ks∧jF inr 3 56 NS w x.ins∧jF lor 34 80 NV w x.lks
def WV (x:cS):Array Value:=mx ((cX x).drop 2) x.rc ((eQ x).take 2)
theorem C8:cM enc Tryz.prog 39 WV MK:=fun w base sp held fuel cs x h hfit=>by
 obtain⟨a0,h0,ka0⟩:=aJ 0 0 1 Tryz.underlying39 rfl (by kernel_rfl) kO h hfit;obtain⟨a1,h1,ka1⟩:=aJ 1 1 3 Tryz.underlying39 rfl (by kernel_rfl) yK h hfit;obtain⟨a2,h2,ka2⟩:=aJ 2 4 1 Tryz.underlying39 rfl (by kernel_rfl) yT h hfit;obtain⟨a3,h3,ka3⟩:=aJ 3 5 32 Tryz.underlying39 rfl (by kernel_rfl) yJ h hfit;obtain⟨a4,h4,ka4⟩:=aJ 4 37 1 Tryz.underlying39 rfl (by kernel_rfl) CT h hfit;obtain⟨a5,h5,ka5⟩:=aJ 5 38 1 Tryz.underlying39 rfl (by kernel_rfl) C6 h hfit;have hl:=gO (n:=39) Tryz.underlying39 (by kernel_rfl) h;refine⟨{rd0 with v0:=a0,h0:=a1.1,h1:=a1.2.1,h2:=a1.2.2,ks:=a2,rc:=a3,ins:=a4,lks:=a5},?_,ka2,ka4,ka5⟩;apply aZ1.1;show cs=_;have e:=aZ cs 0 1;rw[aZ cs (0+1) 3,aZ cs (0+1+3) 1,aZ cs (0+1+3+1) 32,aZ cs (0+1+3+1+32) 1,aZ cs (0+1+3+1+32+1) 1,h0,h1,h2,h3,h4,h5,gM (n:=0+1+3+1+32+1+1) hl]at e;refine e.trans ?_;simp[WV,mx,cX,eQ,V3,SE,BK,Sl.v,kc]
def RO (w:World) (x:cS):Prop:=jF sgc 64 64 (fun _ _=>True) w x.sg∧MK w x
theorem IZ:cM enc Tryz.prog 41 W6 RO:=fun w base sp held fuel cs x h hfit=>by
 obtain⟨a0,h0,ka0⟩:=aJ 0 0 1 Tryz.underlying41 rfl (by kernel_rfl) y7 h hfit;obtain⟨a1,h1,ka1⟩:=aJ 1 1 39 Tryz.underlying41 rfl (by kernel_rfl) C8 h hfit;have hl:=gO (n:=40) Tryz.underlying41 (by kernel_rfl) h;refine⟨{a1 with sg:=a0},?_,ka0,ka1⟩;apply aZ1.1;show cs=_;have e:=aZ cs 0 1;rw[aZ cs (0+1) 39,h0,h1,gM (n:=0+1+39) hl]at e;refine e.trans ?_;simp[W6,WV,mx,cX,eQ,BK,Sl.v]
def XH (x:UInt64×UInt64×Int64):Array Value:= #[u64v x.1,u64v x.2.1,.int .i64 x.2.2.toInt]
theorem CD:cM enc Tryz.prog 44 XH (fun _ _=>True):=fun w base sp held fuel cs x h hfit=>by
 obtain⟨a0,h0,ka0⟩:=aJ 0 0 1 Tryz.underlying44 rfl (by kernel_rfl) dZ h hfit;obtain⟨a1,h1,ka1⟩:=aJ 1 1 1 Tryz.underlying44 rfl (by kernel_rfl) dZ h hfit;obtain⟨a2,h2,ka2⟩:=aJ 2 2 1 Tryz.underlying44 rfl (by kernel_rfl) fK h hfit;have hl:=gO (n:=3) Tryz.underlying44 (by kernel_rfl) h;refine⟨⟨a0,a1,a2⟩,?_,trivial⟩;apply aZ1.1;show cs=_;have e:=aZ cs 0 1;rw[aZ cs (0+1) 1,aZ cs (0+1+1) 1,h0,h1,h2,gM (n:=0+1+1+1) hl]at e;exact e
def NY (w:World) (x:cS):Prop:=rI w x.b∧RO w x∧jF rcr 34 34 (fun _ _=>True) w x.ro
theorem G4:cM enc Tryz.prog 46 bT NY:=fun w base sp held fuel cs x h hfit=>by
 obtain⟨a0,h0,ka0⟩:=aJ 0 0 1 Tryz.underlying46 rfl (by kernel_rfl) iI h hfit;obtain⟨a1,h1,ka1⟩:=aJ 1 1 40 Tryz.underlying46 rfl (by kernel_rfl) IZ h hfit;obtain⟨a2,h2,ka2⟩:=aJ 2 41 1 Tryz.underlying46 rfl (by kernel_rfl) wY h hfit;obtain⟨a3,h3,ka3⟩:=aJ 3 42 3 Tryz.underlying46 rfl (by kernel_rfl) CD h hfit;obtain⟨a4,h4,ka4⟩:=aJ 4 45 1 Tryz.underlying46 rfl (by kernel_rfl) dZ h hfit;obtain⟨a5,h5,ka5⟩:=aJ 5 46 1 Tryz.underlying46 rfl (by kernel_rfl) dZ h hfit;obtain⟨a6,h6,ka6⟩:=aJ 6 47 1 Tryz.underlying46 rfl (by kernel_rfl) dZ h hfit;have hl:=gO (n:=48) Tryz.underlying46 (by kernel_rfl) h;refine⟨{a1 with b:=a0,ro:=a2,un:=a3.1,pr:=a3.2.1,bad:=a3.2.2,fee:=a4,cost:=a5,prio:=a6},?_,ka0,ka1,ka2⟩;apply aZ1.1;show cs=_;have e:=aZ cs 0 1;rw[aZ cs (0+1) 40,aZ cs (0+1+40) 1,aZ cs (0+1+40+1) 3,aZ cs (0+1+40+1+3) 1,aZ cs (0+1+40+1+3+1) 1,aZ cs (0+1+40+1+3+1+1) 1,h0,h1,h2,h3,h4,h5,h6,gM (n:=0+1+40+1+3+1+1+1) hl]at e;refine e.trans ?_;simp[bT,W6,mx,cX,eQ,BK,Sl.v,XH,NL]
theorem zI {P:Program} {w:World} {base:Nat} {sp:Nat→Bool} {held:Bool} {fuel:Nat} {t:TypeId} {cs:List Value} {x:DataW H×List MemPlace} {k:FloatKind} (ht:P.underlying t=some (.float k)) (h:DataW.trod enc P w base sp held fuel t cs=some x):∃b:Nat,cs=[.float k b]:=by
 cases fuel with
 |zero=>simp[DataW.trod]at h
 |succ n=>
  unfold DataW.trod at h;rw[ht]at h;split at h<;>simp_all
theorem FP:cM enc Tryz.prog 129 pQ (fun _ _=>True):=fun w base sp held fuel cs x h hfit=>by
 obtain⟨b,rfl⟩:=zI Tryz.underlying129 h;exact⟨b,rfl,trivial⟩
theorem CO:cM enc Tryz.prog 22 (BK (α:=Nat)) (jF pQ 1 8 (fun _ _=>True)):=
 cY Tryz.underlying22 (by kernel_rfl) (by kernel_rfl) (by omega) FP 0
theorem ES:cM enc Tryz.prog 4 zY (fun _ _=>True):=fun w base sp held fuel cs x h hfit=>by
 obtain⟨b,hb,_⟩:=DataW.trod_bool Tryz.underlying4 h;exact⟨b,by rw[hb];rfl,trivial⟩
theorem CB:cM enc Tryz.prog 26 (BK (α:=Bool)) (jF zY 1 1 (fun _ _=>True)):=
 cY Tryz.underlying26 (by kernel_rfl) (by kernel_rfl) (by omega) ES false
structure UR where
 sp:Sl Nat
 room:Int64
 win:Int64
 bat:Int64
 fli:Int64
 l1:UInt64
 l2:UInt64
 l3:UInt64
 fw:UInt64
 hold:Int64
 own:Sl Bool
def UW (x:UR):Array Value:=sZ x.sp.v x.room.toInt x.win.toInt x.bat.toInt x.fli.toInt (u64v x.l1) (u64v x.l2) (u64v x.l3) (u64v x.fw) x.hold.toInt x.own.v
def NP (w:World) (x:UR):Prop:=jF pQ 1 8 (fun _ _=>True) w x.sp∧jF zY 1 1 (fun _ _=>True) w x.own
def WS (x:UInt64×UInt64×UInt64):Array Value:= #[u64v x.1,u64v x.2.1,u64v x.2.2]
theorem CZ:cM enc Tryz.prog 25 WS (fun _ _=>True):=fun w base sp held fuel cs x h hfit=>by
 obtain⟨a0,h0,ka0⟩:=aJ 0 0 1 Tryz.underlying25 rfl (by kernel_rfl) dZ h hfit;obtain⟨a1,h1,ka1⟩:=aJ 1 1 1 Tryz.underlying25 rfl (by kernel_rfl) dZ h hfit;obtain⟨a2,h2,ka2⟩:=aJ 2 2 1 Tryz.underlying25 rfl (by kernel_rfl) dZ h hfit;have hl:=gO (n:=3) Tryz.underlying25 (by kernel_rfl) h;refine⟨⟨a0,a1,a2⟩,?_,trivial⟩;apply aZ1.1;show cs=_;have e:=aZ cs 0 1;rw[aZ cs (0+1) 1,aZ cs (0+1+1) 1,h0,h1,h2,gM (n:=0+1+1+1) hl]at e;exact e
theorem EX:cM enc Tryz.prog 28 UW NP:=fun w base sp held fuel cs x h hfit=>by
 obtain⟨a0,h0,ka0⟩:=aJ 0 0 1 Tryz.underlying28 rfl (by kernel_rfl) CO h hfit;obtain⟨a1,h1,ka1⟩:=aJ 1 1 1 Tryz.underlying28 rfl (by kernel_rfl) fK h hfit;obtain⟨a2,h2,ka2⟩:=aJ 2 2 1 Tryz.underlying28 rfl (by kernel_rfl) fK h hfit;obtain⟨a3,h3,ka3⟩:=aJ 3 3 1 Tryz.underlying28 rfl (by kernel_rfl) fK h hfit;obtain⟨a4,h4,ka4⟩:=aJ 4 4 1 Tryz.underlying28 rfl (by kernel_rfl) fK h hfit;obtain⟨a5,h5,ka5⟩:=aJ 5 5 3 Tryz.underlying28 rfl (by kernel_rfl) CZ h hfit;obtain⟨a6,h6,ka6⟩:=aJ 6 8 1 Tryz.underlying28 rfl (by kernel_rfl) dZ h hfit;obtain⟨a7,h7,ka7⟩:=aJ 7 9 1 Tryz.underlying28 rfl (by kernel_rfl) fK h hfit;obtain⟨a8,h8,ka8⟩:=aJ 8 10 1 Tryz.underlying28 rfl (by kernel_rfl) CB h hfit;have hl:=gO (n:=11) Tryz.underlying28 (by kernel_rfl) h;refine⟨⟨a0,a1,a2,a3,a4,a5.1,a5.2.1,a5.2.2,a6,a7,a8⟩,?_,ka0,ka8⟩;apply aZ1.1;show cs=_;have e:=aZ cs 0 1;rw[aZ cs (0+1) 1,aZ cs (0+1+1) 1,aZ cs (0+1+1+1) 1,aZ cs (0+1+1+1+1) 1,aZ cs (0+1+1+1+1+1) 3,aZ cs (0+1+1+1+1+1+3) 1,aZ cs (0+1+1+1+1+1+3+1) 1,aZ cs (0+1+1+1+1+1+3+1+1) 1,h0,h1,h2,h3,h4,h5,h6,h7,h8,gM (n:=0+1+1+1+1+1+3+1+1+1) hl]at e;exact e
theorem NY.ok {w:World} {x:cS} (h:NY w x):gL w x:=
 ⟨h.1.1,h.2.1.1.1,h.2.1.2.1.1,h.2.1.2.2.1.1,fun y hy=>⟨(h.2.1.2.2.1.2.1 y hy).1.1,(h.2.1.2.2.1.2.1 y hy).2.1⟩,h.2.1.2.2.2.1,fun y hy=>⟨(h.2.1.2.2.2.2.1 y hy).1.1,(h.2.1.2.2.2.2.1 y hy).2.1⟩,h.2.2.1⟩
theorem jF.le47 {α:Type} {f:α→Array Value} {n B:Nat} {Ok:World→α→Prop} {w:World} {s:Sl α} (h:jF f n B Ok w s) (hB:1≤B):s.l.length≤140737488355328:=by
 have h1:=h.2.2.1;have h2:s.l.length*1≤s.l.length*B:=Nat.mul_le_mul_left _ hB;have h3:reachBytes=140737488351232:=by decide
 omega
theorem NY.le {w:World} {x:cS} (h:NY w x):JQ x:=
 ⟨h.1.le47 (by decide),h.2.2.le47 (by decide),h.2.1.1.le47 (by decide),h.2.1.2.1.le47 (by decide),h.2.1.2.2.1.le47 (by decide),h.2.1.2.2.2.le47 (by decide),fun y hy=>⟨(h.2.1.2.2.1.2.1 y hy).1.le47 (by decide),(h.2.1.2.2.1.2.1 y hy).2.le47 (by decide)⟩,fun y hy=>⟨(h.2.1.2.2.2.2.1 y hy).1.le47 (by decide),(h.2.1.2.2.2.2.1 y hy).2.le47 (by decide)⟩⟩
end
end
section
open Go.ChangeMaps (setBlock)
attribute [local go_sem↓] eS eP eR
attribute [local go_sem] aH aC dC aN aK aP aF aO cR bY kc_size bB Value.cells
attribute [local go_sem↓] jX iD jV
attribute [local go_sem] bF dE dW fM
attribute [local go_sem↓] r9 BM uY jL uQ
theorem IA (x:cS):(bT x).extract 7 39=kc x.rc:=GM (cX x) _ _
attribute [local go_sem] IA
def VN (q:Nat) (L:List aQ) (_:Value):aL:=sO q L
theorem FZ (q:Nat) (L:List aQ) (v:Value):aI (VN q L v):=sO.good q L
theorem X3 {T:Nat→Prop} {w:World} {q:Nat} {L:List aQ} (h:sO q L T w) (k:aQ):Calls Tryz.prog 13 #[ptrV q,.agg (kc k)] w fun e w'=>∃v,e= .returned v∧Mod T w w'∧VN q (gF L k) v (Grow T w w') w':=
 (AZ q L k w h.1).mono fun e w' h2=>by
  obtain⟨⟨v,rfl⟩,h3,h4⟩:=h2;exact⟨v,rfl,h4.mono (fun a _ ha=>by rw[ha];exact h.2),h3,.inl h.2⟩
theorem J4 {n:Nat} {room win bat fli hold:Int} {on:Nat} (h:cfB n room win bat fli hold on=true):(1≤n∧n≤64)∧∃r i b f:Nat,room=r∧win=i∧bat=b∧fli=f∧r≤4096∧1≤r:=by
 unfold cfB xM at h;simp only[aZy,decide_eq_true_eq]at h;exact⟨by omega,room.toNat,win.toNat,bat.toNat,fli.toNat,by omega,by omega,by omega,by omega,by omega,by omega⟩
theorem vS:∀l:List UInt64,cellsOf nc l=l.map u64v
 |[]=>rfl
 |a::r=>by
  show(nc a).toList++cellsOf nc r=_;rw[vS r];rfl
theorem V5 (w:World):(Instr.buildSlice 67 1 #[(0,.int .u64 1)]).run Tryz.prog w= .ok (.slice (some ⟨w.heap.size,0,none⟩) 1 1) (w.alloc (.cells #[.int .u64 1] 23)):=by kernel_rfl
theorem ME {r0:Nat} (h:1≤r0) {y:It} (hp:y.pl=0):f9 0 ((List.replicate r0 none).set 0 (some y))=[⟨y.rk,idn 0⟩]:=by
 obtain⟨m,rfl⟩:∃m,r0=m+1:=⟨r0-1,by omega⟩;show nodeOf 0 (some y)++f9 1 (List.replicate m none)=_;rw[qS,aYx];show(if y.pl=0 then [(⟨y.rk,idn 0⟩:Nd)]else [])=_;rw[if_pos hp]
theorem MA (x:Nd):u4 [x]:=List.pairwise_singleton _ _
theorem dQ {w:World} {d:Nat} {C:Array Value} {E:TypeId} (kd:w.heap[d]? =some (.cells C E (0,0))) (o:Nat) (v:Value):
  (w.setCell ⟨d,o,none⟩ v).heap[d]? =some (.cells (C.setIfInBounds o v) E (0,0))∧Mod (fun i=>i=d) w (w.setCell ⟨d,o,none⟩ v):=by
 have e:w.setCell ⟨d,o,none⟩ v=setBlock w d (.cells (C.setIfInBounds o v) E (0,0)):=by
  unfold World.setCell setBlock;congr 1;apply aY8;intro i;rw[aX9,aZ2];split
  ·rename_i h;subst h;rw[kd,if_pos (aA kd)];rfl
  ·rfl
 have hl:=aA kd;rw[e];exact⟨aD w _ hl,(Mod.refl _ _).setBlock _ (fun _=>rfl)⟩
theorem mD {b d cb:Nat} {S:List (Option It)} {w w9 wa:World} (h:∃W,BT b S W w9∧¬W d∧¬W cb∧w.heap.size≤d∧w.heap.size≤cb∧Mod (fun _=>False) w w9) (ms:Mod (fun i=>i=d∨i=cb) w9 wa):∃W,BT b S W wa∧Mod (fun _=>False) w wa:=by
 obtain⟨W,h1,h2,h3,h4,h5,h6⟩:=h;refine⟨W,(BT.good b S).cl _ _ _ h1 (ms.mono fun i _ hi=> ?_),h6.then ms fun i hw hi=> ?_⟩
 ·rcases hi with rfl|rfl
  ·exact h2
  ·exact h3
 ·rcases hi with e|e<;>(rw[e]at hw;omega)
theorem DY (w:World) (sa:Option Addr) (spd:List Nat) (sc:Nat) (hsp:aS pQ 1 w sa spd) (room win bat fli:Int) (l1 l2 l3 fw:UInt64) (hold:Int) (oa:Option Addr) (own:List Bool) (oc:Nat) (how:aS zY 1 w oa own) (x:cS) (hx:gL w x) (hle:JQ x) (hin:aS inr 3 w x.ins.a x.ins.l) (hlo:aS lor 34 w x.lks.a x.lks.l) (htw:dS w) (part:UInt8):
  Calls Tryz.prog 3 #[.agg (sZ (.slice sa spd.length sc) room win bat fli (u64v l1) (u64v l2) (u64v l3) (u64v fw) hold (.slice oa own.length oc)),.agg (bT x),.int .u8 (part.toNat:Int)] w fun e w'=>e= .returned (.bool true)∧Mod (fun _=>False) w w':=by
 have HTW:=Hi htw;have HX:=Hi (Ai hx (Ai hle (Ai hin hlo)));have HC:=Hi (Ai hsp how);clear htw hx hle hin hlo hsp how;obtain⟨n,hn⟩:∃n,spd.length=n:=⟨_,rfl⟩;obtain⟨on,hon⟩:∃on,own.length=on:=⟨_,rfl⟩;have HN:=Hi (Ai hn hon);rw[hn,hon];clear hn hon;have hg0:=fun wq=>CQ sa n sc room win bat fli (u64v l1) (u64v l2) (u64v l3) (u64v fw) hold oa on oc none [] 0 wq (.inl rfl) (fun x hx=>by cases hx) (by simp);have hwn:=BR;unfold sZ at hg0⊢;have HG:=Hi hg0;clear hg0 hwn;go_enter Tryz.func3,Tryz.ntmps3;go_upto_region 0 with fail;refine ZP0 [3,3,0] ?_;refine Zb fun p3 hp3=> ?_;refine Zb fun p4 hp4=> ?_;obtain⟨ne_p4_p3,hp4⟩:=Bx.set_none hp4;refine Zv ?_;refine TD.nil (fun w1 hr=> ?_);obtain⟨gp3,kp3⟩:=hr.b p3 (by first|exact Bx.set_same _ _ _|(simp only[Bx.set_ne _ (Ne.symm ne_p4_p3),Bx.set_ne _ ne_p4_p3,Bx.set_same];rfl));obtain⟨gp4,kp4⟩:=hr.b p4 (by first|exact Bx.set_same _ _ _|(simp only[Bx.set_ne _ (Ne.symm ne_p4_p3),Bx.set_ne _ ne_p4_p3,Bx.set_same];rfl));have M1:=Hi hr.mod;clear hr;go_upto_region 1 with fail;go_wp2_with fail;go_at_call 7;refine(HG.out _).mono ?_;rintro e w2 ⟨b2,rfl,hb2,m2⟩;replace kp3:=m2.at0 kp3;replace kp4:=m2.at0 kp4;have M2:=Hi (M1.out.then0 m2);clear m2;cases b2 with
 |true=>
  go_wp2_with fail;go_at_call 9;refine(lives_c _ (HTW.out.mod0 M2.out)).mono ?_;rintro e w3 ⟨rfl,mz⟩;go_wp2_with fail;go_ret;exact⟨rfl,M2.out.trans mz⟩
 |false=>
  have HB2:=Hi (hb2 rfl);clear hb2;go_wp2_with fail;go_at_call 8;have hin:=HX.out.2.2.1.mod0 M2.out;have hlo:=HX.out.2.2.2.mod0 M2.out;refine(great15_c x _ hin hlo HX.out.2.1).mono ?_;clear hin hlo;rintro e w3 ⟨b3,rfl,hb3,m3⟩;replace kp3:=m3.at0 kp3;replace kp4:=m3.at0 kp4;have M3:=Hi (M2.out.then0 m3);clear m3;cases b3 with
  |true=>
   go_wp2_with fail;go_at_call 9;refine(lives_c _ (HTW.out.mod0 M3.out)).mono ?_;rintro e w4 ⟨rfl,mz⟩;go_wp2_with fail;go_ret;exact⟨rfl,M3.out.trans mz⟩
  |false=>
   have HB3:=Hi (hb3 rfl);clear hb3;have HP:=Hi ((AV (w:=w3) (v:= .pointer none) (r:=2) (fun wq _=>BR wq) (by decide)).mono (R':=fun e w'=>∃v,e= .returned v∧v= .tuple #[.agg #[.slice none 0 0,.slice none 0 0,.slice none 0 0],.int .i64 2]∧Mod (fun _=>False) w3 w') (fun e w' h=>⟨_,h.1,rfl,h.2⟩));go_upto_region 4 with fail;refine region_seq 8 rfl ?_;simp only[List.range,List.range.loop];refine Zq ?_;(refine iG (by simp only[zK];rfl) (by rfl) ?y5 (HP.out) (fun vn w4 hR=> ?n5);(case y5=>(go_simp;(try(first|with_reducible rfl|(constructor<;>with_reducible rfl))))))
   (obtain⟨rfl,m4⟩:=hR)
   (try simp only[zL])
   iterate 3 refine Zq ?_
   (refine qK (by simp only[zK];rfl) (by rfl) rfl vI (fun p8 wn gp8 kp8 mp8=> ?n9);try simp only[zL]);refine ZT ?_;refine ZQ kp8 fun wn kp8 mS=> ?_;refine Zq ?_;refine jT ?_;obtain⟨w5,hw5⟩:∃w5,wn=w5:=⟨_,rfl⟩;rw[hw5]at kp8 mS⊢;clear hw5;have m5:Mod (fun _=>False) w3 w5:=m4.trans (mp8.then mS (fun x hx e=>by omega));replace kp3:=m5.at0 kp3;replace kp4:=m5.at0 kp4;have M5:=Hi (M3.out.trans m5);clear m4 mp8 mS m5 kp8 HP;cases hcf:cfB n room win bat fli hold on with
   |false=>
    have hnw:=K8 w5 sa n sc room win bat fli (u64v l1) (u64v l2) (u64v l3) (u64v fw) hold oa on oc hcf;unfold sZ at hnw;have HNW:=Hi hnw;clear hnw hcf;go_upto_region 5 with fail;go_wp2_with fail;go_at_call 11;refine HNW.out.mono ?_;rintro e w6 ⟨rfl,m6⟩;have M6:=Hi (M5.out.trans m6);clear m6 HNW;go_wp2_with fail;go_at_call 9;refine(lives_c _ (HTW.out.mod0 M6.out)).mono ?_;rintro e w7 ⟨rfl,mz⟩;go_wp2_with fail;go_ret;exact⟨rfl,M6.out.trans mz⟩
   |true=>
    obtain⟨⟨hn1,hn2⟩,r0,i0,b0,f0,rfl,rfl,rfl,rfl,hr1,hr2⟩:=J4 hcf;obtain⟨hsp,how⟩:=HC.out;have hnw:=GO w5 sa spd sc (hsp.mod0 M5.out) r0 i0 b0 f0 l1 l2 l3 fw hold oa own oc (how.mod0 M5.out) (by have:=HB2.out.1.2;have:=HN.out.2;omega) (by rw[HN.out.1,HN.out.2];exact hcf);rw[HN.out.1,HN.out.2]at hnw;unfold sZ at hnw;have HNW:=Hi hnw;have HCF:=Hi (Ai hcf (Ai hr1 hr2));clear hnw hcf hr1 hr2 hsp how;go_upto_region 5 with fail;go_wp2_with fail;go_at_call 11;refine HNW.out.mono ?_;clear HNW;rintro e w6 ⟨d,rfl,⟨T,hD,hT⟩,m6⟩;have M6:=Hi (M5.out.trans m6);have lt3:=aA kp3;have lt4:=aA kp4;have HPT:Hid (¬T p3∧¬T p4):=Hi ⟨fun h=>by have h1:=(hT p3 h).1;omega,fun h=>by have h1:=(hT p4 h).1;omega⟩;replace kp3:=m6.at0 kp3;replace kp4:=m6.at0 kp4;clear lt3 lt4;have HT:=Hi (fun a (ha:T a)=>aYb M5.out.size (hT a ha).1);have HLT:=Hi (fun a (ha:T a)=>(hT a ha).2);obtain⟨X,hX,hS⟩:=hD;obtain⟨Td,⟨td,kd⟩,sd⟩:=hS.get (i:=0) rfl;have HDT:=Hi (sd d td);have HW:=Hi (Whole_c (n:=n) kd hX.fv hX.cv sa sc r0 i0 b0 f0 (u64v l1) (u64v l2) (u64v l3) (u64v fw) hold (.slice oa on oc));have HS:=Hi (Ai hX hS);clear hT hX hS sd td m6 kd;go_upto_region 8 with fail;go_wp2_with fail;go_at_call 12;refine HW.out.mono ?_;rintro e w7 ⟨rfl,m7⟩;replace kp3:=m7.at0 kp3;replace kp4:=m7.at0 kp4;have M7:=Hi (M6.out.then0 m7);have hX:=HS.out.1;have hS7:=HS.out.2.mod0 (dparts.good X d _ _) m7;have HLT7:Hid (∀a,T a→a<w7.heap.size):=Hi (fun a ha=>aZd (HLT.out a ha) m7.size);obtain⟨Ts,h1,h2,h3⟩:=hS7;have hd0:CeL d (iR X.D) 69 (Ts 0) w7:=h1 0 _ rfl;have hq0:sO X.D.q [] (Ts 2) w7:=h1 2 _ rfl;have kd:=hd0.2;obtain⟨W,hW⟩:∃W,Ts 2=W:=⟨_,rfl⟩;rw[hW]at hq0;have nWd:¬W d:=by rw[←hW];exact h3 0 2 d (by decide) hd0.1
    have nW4:¬W p4:=fun h=>HPT.out.2 (h2 2 p4 (by rw[hW];exact h));have HQ:=Hi hq0;have HWL:Hid (∀i,W i→i<w7.heap.size):=Hi (fun i hi=>HLT7.out i (h2 2 i (by rw[hW];exact hi)));have HH:=Hi (Ai hX (Ai h1 (Ai h2 (Ai h3 hW))));unfold iR at kd;clear hX h1 h2 h3 hW hd0 hq0 m7 HS HLT HW;go_upto_region 10 with fail;go_upto_region 11 with fail;have Lkd:=aA kd;have Lkp4:=aA kp4;refine cJ (T0:=W) (K:=sO X.D.q []) (κ:=fun i=>[0,0,0,0,0,0,0,0,6].getD i 0) (υ:=fun _=>[]) [0,1,2,3,4,5,6,7,8] (by kernel_rfl) (by kernel_rfl) (sO.good X.D.q []).cl (HQ.out) (HWL.out) ?_;have gK:=sO.good X.D.q []
    iterate 3 refine Zg ?_
    (refine Zk ?_ (hy:=by intro wq hSq;have kdq:=hSq.atn kd;have kp4q:=hSq.atn kp4;go_simp;try with_reducible rfl))
    iterate 3 refine Zg ?_
    (refine Zk ?_ (hy:=by intro wq hSq;have kdq:=hSq.atn kd;have kp4q:=hSq.atn kp4;go_simp;try with_reducible rfl));(refine TG.callK (f:= ?f20) (args:= ?r20) (VN X.D.q (gF [] x.rc)) (FZ X.D.q (gF [] x.rc)) (by simp only[zK];rfl) rfl (by rfl) (fun w1=> ?y20) (fun T wq kq ltq hSq ub=> ?hsp20) ?n20;(case y20=>(go_simp;(first|with_reducible rfl|(constructor<;>with_reducible rfl))));(case hsp20=>(have kdq:=hSq.atn kd;have kp4q:=hSq.atn kp4;exact X3 kq x.rc));rintro v20 ⟨wI,TI,hI⟩;replace gK:=(FZ X.D.q (gF [] x.rc)) v20;(skip);(try clear hI TI wI);try simp only[zL]);refine TG.nil (fun w8 ⟨TR,hr⟩=> ?_);replace kd:=hr.mod.atn kd;replace kp4:=hr.mod.atn kp4;clear gK;obtain⟨k1,hk1⟩:∃k1,gF [] x.rc=k1:=⟨_,rfl⟩;rw[hk1]at hr;have HS8:Hid (∃T8,bQ (dparts X d ⟨i0,b0,f0,n,spd,k1,[]⟩ (paN r0 n)) T8 w8∧(∀a,T8 a→a<w8.heap.size)∧(∀a,T8 a→w.heap.size≤a)∧Mod (fun _=>False) w w8):=Hi (by
     obtain⟨hX,h1,h2,h3,hW⟩:=HH.out;have g:=bQ.step (dparts.good X d ⟨i0,b0,f0,n,spd,[],[]⟩ (paN r0 n)) HLT7.out (i:=2) (by simp[dparts]) h1 h2 h3 (K':=sO X.D.q k1) (Ts:=Ts) (by
      rw[hW];exact⟨TR,hr.k,hr.mod,fun a ha=>by
       rcases aYt a w7.heap.size with h|h
       ·exact .inl (hr.old a h ha)
       ·exact .inr ⟨h,hr.lt a ha⟩⟩)
     have m8:=M7.out.then g.2 (fun a hl ha=>by have:=HT.out a ha;omega);refine⟨_,g.1,b9 HLT7.out g.2 (fun a h=>h),fun a ha=> ?_,m8⟩;rcases ha with h|h
     ·exact HT.out a h
     ·exact aYb M7.out.size h.1)
    have HX2:=Hi HH.out.1;clear hr kd nWd nW4 HQ HWL HH HLT7 HT;obtain⟨T8,hS8,hlt8,hup8,m8⟩:=HS8.out;have h08:¬T8 0:=fun h=>by
     obtain⟨C,U,fr,t1,_⟩:=HTW.out;have:=aA t1;have:=hup8 0 h;omega
    obtain⟨S2,hS2⟩:∃S2,((paN r0 n).S.set 0 (some ⟨1,x.con,0,false⟩))=S2:=⟨_,rfl⟩;have HA:Hid (Calls Tryz.prog 14 #[ptrV X.D.b,u64v 1,.agg (bT x)] w8 fun e w'=>(∃v,e= .returned v)∧Goes (bQ (dparts X d ⟨i0,b0,f0,n,spd,k1,[]⟩ {paN r0 n with S:=S2})) T8 w8 w'):=Hi (by
     refine bQ.callX (R:=fun e _=>∃v,e= .returned v) (dparts.good X d _ _) hlt8 hS8 (i:=1) (K:=BT X.D.b (paN r0 n).S) (K':=BT X.D.b S2) rfl (fun T3 hsub ht hb=> ?_);have hfr:gA (paN r0 n).S 0:=⟨by have:=HCF.out.2.2;show(List.replicate r0 none)[0]? =_;rw[aY3,if_pos (by omega)],fun i hi=>by omega⟩;refine(XE hb (HTW.out.mod0 m8) hfr (HX.out.1.mod0 m8) HB3.out.1 1).mono ?_;rintro e w' ⟨v,rfl,hm,hv⟩;rw[hS2]at hv;exact⟨⟨v,rfl⟩,_,hv.2,hm,fun a h=>h⟩)
    have HS2:=Hi hS2;have HB8:=Hi (Ai hlt8 (Ai hup8 m8));clear hS8 hlt8 hup8 h08 m8 hS2 HS8;go_upto_region 12 with fail;go_wp2_with fail;go_at_call 14;refine HA.out.mono ?_;rintro e w9 ⟨⟨v9,rfl⟩,hgo⟩;have HV:Hid (∃W,BT X.D.b S2 W w9∧¬W d∧¬W X.cb∧d≠X.cb∧w9.heap[d]? =some (.cells (iR X.D) 69 (0,0))∧aE nc 1 23 w9 0 (.slice (some ⟨X.cb,0,none⟩) n n) (List.replicate n 0)∧w.heap.size≤d∧w.heap.size≤X.cb∧Mod (fun _=>False) w w9):=Hi (by
     obtain⟨T9,hS9,m9,hT9⟩:=hgo;obtain⟨hlt8,hup8,m8⟩:=HB8.out;have hlt9:=b9 hlt8 m9 hT9;have hup9:∀a,T9 a→w.heap.size≤a:=fun a ha=>by
      rcases hT9 a ha with h|h
      ·exact hup8 a h
      ·exact aYb m8.size h.1
     obtain⟨Ts,h1,h2,h3⟩:=hS9;have hd0:CeL d (iR X.D) 69 (Ts 0) w9:=h1 0 _ rfl;have hc0:CeL X.cb ((paN r0 n).co.map u64v).toArray 23 (Ts 7) w9:=h1 7 _ rfl;refine⟨Ts 1,h1 1 _ rfl,h3 0 1 d (by decide) hd0.1,h3 7 1 X.cb (by decide) hc0.1,fun e=>h3 0 7 d (by decide) hd0.1 (by rw[e];exact hc0.1),hd0.2,?_,hup9 _ (h2 0 _ hd0.1),hup9 _ (h2 7 _ hc0.1),m8.then m9 (fun a hl ha=>by have:=hup8 a ha;omega)⟩;have hn2':n≤64:=hn2;have hlen:(List.replicate n (0:UInt64)).length=n:=aZ9;have hcl:cellsOf nc (List.replicate n (0:UInt64))=(List.replicate n (0:UInt64)).map u64v:=vS _;refine⟨?_,.inr ⟨X.cb,n,_,?_,aYf _,hc0.2,?_,?_,?_,?_⟩⟩
     ·rw[hcl,aZs,hlen,aYp]
     ·rw[hlen]
     ·rw[hlen];exact aZq _
     ·exact aYb hn2' (by decide)
     ·show((List.replicate n (0:UInt64)).map u64v).toArray.size=_;rw[aYs,aZs,hlen,aYp]
     ·show((List.replicate n (0:UInt64)).map u64v).take _=_;rw[hcl,aY6 (by rw[aZs,hlen,aYp];exact aZq _)])
    clear hgo HA HB8;go_upto_region 13 with fail;go_upto_region 14 with fail;obtain⟨ci,hci⟩:∃ci:Int,(part.toNat:Int) % 9=ci:=⟨_,rfl⟩;have hcib:0≤ci∧ci<9:=by omega
    have HCI:=Hi hci;clear hci;obtain⟨W,hBT,nWd,nWc,hdc,kd,hcs,hdl,hcl,m9⟩:=HV.out;obtain⟨hold',oa',on',oc',e1,e2,e3⟩:=HX2.out.cf;unfold iR at kd;rw[HX2.out.fv,HX2.out.cv,HX2.out.sv,HX2.out.win,HX2.out.bat,HX2.out.fli,e1,e2]at kd;dsimp only at kd;have HC3:=Hi e3;have HB9:Hid (∃W,BT X.D.b S2 W w9∧¬W d∧¬W X.cb∧w.heap.size≤d∧w.heap.size≤X.cb∧Mod (fun _=>False) w w9):=Hi ⟨W,hBT,nWd,nWc,hdl,hcl,m9⟩;have HCS:=Hi (Ai hdc hcs);clear e1 e2 e3 hBT nWd nWc hdc hcs hdl hcl m9 HV
    go_upto_block 0 with fail
    go_cut [13]from 64 to 117 (fun s13 wx=>∃r:Int,s13= .int .i64 r∧r≠0∧Hid (∀wq,Mod (fun _=>False) wx wq→Calls Tryz.prog 29 #[ptrV d] wq fun e w'=>e= .returned (.int .i64 r)∧Mod (fun _=>False) wq w')∧Hid (∃W,BT X.D.b S2 W wx∧Mod (fun _=>False) w wx))
    case first=>
     rw[HCI.out];rcases(by omega:ci=0∨ci=1∨ci=2∨ci=3∨ci=4∨ci=5∨ci=6∨ci=7∨ci=8)with rfl|rfl|rfl|rfl|rfl|rfl|rfl|rfl|rfl
     ·
      go_wp2_with fail;go_meet;obtain⟨k2,ms⟩:=dQ kd 11 (.pointer none);exact⟨2,rfl,by decide,Hi (fun wq hm=>(eO (b:=none) (t:=some X.D.t) (ln:=some X.D.ln) (q:=some X.D.q) (sn2:=some X.D.sn) (hm.at0 k2)).mono (fun e w' h=>⟨h.1,h.2⟩)),Hi (mD HB9.out (ms.mono fun _ _ h=> .inl h))⟩
     ·
      go_wp2_with fail;go_meet;obtain⟨k2,ms⟩:=dQ kd 12 (.pointer none);exact⟨2,rfl,by decide,Hi (fun wq hm=>(eO (b:=some X.D.b) (t:=none) (ln:=some X.D.ln) (q:=some X.D.q) (sn2:=some X.D.sn) (hm.at0 k2)).mono (fun e w' h=>⟨h.1,h.2⟩)),Hi (mD HB9.out (ms.mono fun _ _ h=> .inl h))⟩
     ·
      go_wp2_with fail;go_meet;obtain⟨k2,ms⟩:=dQ kd 13 (.pointer none);exact⟨2,rfl,by decide,Hi (fun wq hm=>(eO (b:=some X.D.b) (t:=some X.D.t) (ln:=none) (q:=some X.D.q) (sn2:=some X.D.sn) (hm.at0 k2)).mono (fun e w' h=>⟨h.1,h.2⟩)),Hi (mD HB9.out (ms.mono fun _ _ h=> .inl h))⟩
     ·
      go_wp2_with fail;go_meet;obtain⟨k2,ms⟩:=dQ kd 14 (.pointer none);exact⟨2,rfl,by decide,Hi (fun wq hm=>(eO (b:=some X.D.b) (t:=some X.D.t) (ln:=some X.D.ln) (q:=none) (sn2:=some X.D.sn) (hm.at0 k2)).mono (fun e w' h=>⟨h.1,h.2⟩)),Hi (mD HB9.out (ms.mono fun _ _ h=> .inl h))⟩
     ·
      go_wp2_with fail;go_meet;obtain⟨k2,ms⟩:=dQ kd 15 (.pointer none);exact⟨2,rfl,by decide,Hi (fun wq hm=>(eO (b:=some X.D.b) (t:=some X.D.t) (ln:=some X.D.ln) (q:=some X.D.q) (sn2:=none) (hm.at0 k2)).mono (fun e w' h=>⟨h.1,h.2⟩)),Hi (mD HB9.out (ms.mono fun _ _ h=> .inl h))⟩
     ·
      go_wp2_with fail;go_meet;obtain⟨k2,ms⟩:=dQ kd 16 (.slice none 0 0);exact⟨2,rfl,by decide,Hi (fun wq hm=>(eO (b:=some X.D.b) (t:=some X.D.t) (ln:=some X.D.ln) (q:=some X.D.q) (sn2:=some X.D.sn) (hm.at0 k2)).mono (fun e w' h=>⟨h.1.trans (by rw[if_neg (by simp[whB];omega)]),h.2⟩)),Hi (mD HB9.out (ms.mono fun _ _ h=> .inl h))⟩
     ·
      go_upto_region 30 with fail;have Lkd:=aA kd;refine ZP0 [0,0,0,0,1,3,5,0,0,6] ?_
      iterate 5 first|refine Zv ?_|refine Zd ?_
      refine Zy V5 fun p107 hp107=> ?_;refine Zi fun wa hr=> ?_;replace kd:=hr.q kd;obtain⟨gp107,kp107⟩:=hr.b p107;have m1:=hr.mod;clear hr;have happ:∃a6 c6 w6,(Builtin.append_ #[67,67] 67 #[.slice (some ⟨X.cb,0,none⟩) n n,.slice (some ⟨p107,0,none⟩) 1 1]).run Tryz.prog wa= .ok (.slice a6 (n+1) c6) w6∧Mod (fun i=>i=X.cb) wa w6:=by
       obtain⟨v6,w6,hap,h2,h3,h4⟩:=aE.append UD (HCS.out.2.mod0 m1) (q:=[1]) (c:=1) (aS.one kp107 1 rfl rfl) (by rw[aZ9];simp;omega) (by decide) (aYf _) 67;obtain⟨a6,c6,e6,_⟩:=h2.at UD;rw[aZg,aZ9]at e6;subst e6;exact⟨a6,c6,w6,hap,h3.mono fun i _ hi=>by cases hi;rfl⟩
      obtain⟨a6,c6,w6,hap,m6⟩:=happ;have m6':=Hi (Ai m1 m6);replace kd:=m6.at kd (fun e=>HCS.out.1 e);clear m1 m6 kp107;refine ZA hap ?_;refine Ze ?_;refine Ze ?_;refine Zz ?_;refine ZS ?_;refine ZN kd fun wn kd mS=> ?_;(try simp only[Array.setIfInBounds,zL]at kd);obtain⟨m1,m6⟩:=m6'.out;go_wp2_with fail;go_meet;exact⟨2,rfl,by decide,Hi (fun wq hm=>(eO (b:=some X.D.b) (t:=some X.D.t) (ln:=some X.D.ln) (q:=some X.D.q) (sn2:=some X.D.sn) (hm.at0 kd)).mono (fun e w' h=>⟨h.1.trans (by rw[if_neg (by simp[whB])]),h.2⟩)),Hi (mD HB9.out (((m1.mono fun _ _ h=>h.elim).trans (m6.mono fun _ _ h=> .inr h)).trans (mS.mono fun _ _ h=> .inl h)))⟩
     ·
      go_wp2_with fail;go_meet;obtain⟨k2,ms⟩:=dQ kd 2 (.int .i64 0);exact⟨1,rfl,by decide,Hi (fun wq hm=>(eO (win:=0) (b:=some X.D.b) (t:=some X.D.t) (ln:=some X.D.ln) (q:=some X.D.q) (sn2:=some X.D.sn) (hm.at0 k2)).mono (fun e w' h=>⟨h.1.trans (by rw[if_pos (by simp[whB]),if_neg (by simp[cfB,xM])]),h.2⟩)),Hi (mD HB9.out (ms.mono fun _ _ h=> .inl h))⟩
     ·
      go_wp2_with fail;go_meet;obtain⟨k2,ms⟩:=dQ kd 10 (.slice none 0 0);exact⟨1,rfl,by decide,Hi (fun wq hm=>(eO (oa:=none) (on:=0) (oc:=0) (b:=some X.D.b) (t:=some X.D.t) (ln:=some X.D.ln) (q:=some X.D.q) (sn2:=some X.D.sn) (hm.at0 k2)).mono (fun e w' h=>⟨h.1.trans (by rw[if_pos (by simp[whB]),if_neg (by simp[cfB,xM])]),h.2⟩)),Hi (mD HB9.out (ms.mono fun _ _ h=> .inl h))⟩
    case rest=>
     clear kd HC3 HB9 HCS hcib HCI;obtain⟨r,rfl,hr0,HWH,HBW⟩:=hcut;have HP:=Hi ((AV (w:=wc) (v:=ptrV d) (r:=r) HWH.out hr0).mono (R':=fun e w'=>∃v,e= .returned v∧v= .tuple #[.agg #[.slice none 0 0,.slice none 0 0,.slice none 0 0],.int .i64 r]∧Mod (fun _=>False) wc w') (fun e w' h=>⟨_,h.1,rfl,h.2⟩));have hrr:(r==r)=true:=beq_self_eq_true r;clear HWH hr0;go_upto_region 34 with fail;refine region_seq 8 rfl ?_;simp only[List.range,List.range.loop];refine Zq ?_;(refine iG (by simp only[zK];rfl) (by rfl) ?y33 (HP.out) (fun vn wp hR=> ?n33);(case y33=>(go_simp;(try(first|with_reducible rfl|(constructor<;>with_reducible rfl))))))
     (obtain⟨rfl,m4⟩:=hR)
     (try simp only[zL])
     iterate 3 refine Zq ?_
     (refine qK (by simp only[zK];rfl) (by rfl) rfl vI (fun p14 wn gp14 kp14 mp14=> ?n37);try simp only[zL]);refine ZT ?_;refine ZQ kp14 fun wn kp14 mS=> ?_;refine Zq ?_;refine jT ?_;obtain⟨wa,hwa⟩:∃wa,wn=wa:=⟨_,rfl⟩;rw[hwa]at kp14 mS⊢;clear hwa;have ma:Mod (fun _=>False) wc wa:=m4.trans (mp14.then mS (fun x hx e=>by omega));have HE:Hid (dS wa∧Mod (fun _=>False) w wa∧∃W,BT X.D.b S2 W wa):=Hi (by
      obtain⟨W,h1,h2⟩:=HBW.out;exact⟨HTW.out.mod0 (h2.trans ma),h2.trans ma,W,(BT.good _ _).cl _ _ _ h1 (ma.mono fun _ _ h=>h.elim)⟩)
     clear m4 mp14 mS HP ma HBW;go_upto_region 35 with fail;go_wp2_with fail;go_at_call 15;obtain⟨htw,mw,W,hB⟩:=HE.out;obtain⟨nd,hw1⟩:∃nd,f9 0 S2=[nd]:=by
      rw[←HS2.out];exact⟨_,ME HCF.out.2.2 rfl⟩
     refine(J1 hB.bh (D:=f9 0 S2) (List.Perm.refl _) (by rw[hw1];exact MA _)).mono ?_;rintro e wz ⟨v,rfl,hv,mz⟩;rw[hw1]at hv;obtain⟨a,c,rfl,_⟩:=hv.at fZ;have hl1:((List.map Nd.id [nd]).length:Int)=1:=rfl;have HTW2:=Hi (Ai (htw.mod0 mz) (mw.trans mz));clear hv hw1 hB htw mz mw;go_wp2_with fail;go_at_call 9;refine(lives_c _ HTW2.out.1).mono ?_;rintro e wy ⟨rfl,my⟩;go_wp2_with fail;go_ret;exact⟨rfl,HTW2.out.2.trans my⟩
end
theorem DZ (x:UR) (r:cS) (p:UInt8) (w:World) (hx:NP w x) (hr:NY w r) (ht:dS w):
  Calls Tryz.prog 3 #[.agg (UW x),.agg (bT r),.int .u8 (p.toNat:Int)] w fun e w'=>e= .returned (.bool true)∧Mod (fun _=>False) w w':=
 DY w x.sp.a x.sp.l x.sp.c hx.1.1 x.room.toInt x.win.toInt x.bat.toInt x.fli.toInt x.l1 x.l2 x.l3 x.fw x.hold.toInt x.own.a x.own.l x.own.c hx.2.1 r hr.ok hr.le hr.ok.ins hr.ok.lks ht p
end Go.Proofs.YtblbegbjlaokjaaGreatDoor