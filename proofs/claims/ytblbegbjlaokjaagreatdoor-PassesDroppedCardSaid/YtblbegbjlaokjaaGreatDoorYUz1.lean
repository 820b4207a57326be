/- The statement 'PassesDropped', proved: just those are dropped of whose hash there is none among the latest, or whose first signature was recorded, in rank order; they are in the buffer no more. For every input; the table of math/bits as the program's text lays it. -/
import Derived.Test.YtblbegbjlaokjaaGreatDoorYU10
import Derived.Test.YtblbegbjlaokjaaGreatDoorRows
import Derived.Test.YtblbegbjlaokjaaGreatDoorCards
import Derived.Test.YtblbegbjlaokjaaGreatDoorTie
import Derived.ShutString
import Derived.ChangeOld
import Derived.SevenTiedAt
set_option linter.unusedSimpArgs false
set_option linter.unusedVariables false
set_option linter.unusedSectionVars false
set_option maxRecDepth 100000
namespace Go.Proofs.YtblbegbjlaokjaaGreatDoor
open Go.ChangeShapes Go.WideShapes Go.ChangeAt Go.RowKit
theorem jC {P:Wl} {w:We} {r:Reach} {base:Nat} {t:Wh} {fs:Array Field} {v:Wg} (ht:P.underlying t=some (.struct fs)) (h:Value.okWide P w r base t v):∃cs,v= .agg cs:=by
 simp only[Value.okWide,ht]at h;obtain⟨cs,h1,_⟩:=h;exact⟨cs,h1⟩
theorem vC {P:Wl} {w:We} {r:Reach} {base:Nat} {t e:Wh} {n:Nat} {v:Wg} (ht:P.underlying t=some (.array n e)) (h:Value.okWide P w r base t v):∃cs,v= .agg cs:=by
 simp only[Value.okWide,ht]at h;obtain⟨cs,h1,_⟩:=h;exact⟨cs,h1⟩
theorem oD:ownKnob Tryz.prog.godebug=none:=by kernel_rfl
theorem j4 (os:Os) (started:os.Started) (H:Type) (enc:Wh×Wg→H):
  ReturnsInHanded {} Tryz.checked os 5 .any (fun w args=>(Rows.passesDroppedSpec.pre enc Tryz.prog Tryz.f5 [] false w args∧laidMetH Tryz.prog LD w)∧sizedMet enc Tryz.prog Tryz.f5 (OpenSpec.ofChange Rows.passesDroppedSpec) false w args) (Rows.passesDroppedSpec.post enc Tryz.prog Tryz.f5 false true false false):=by
 refine returnsInHanded_of_change_and (C:=Tryz.checked) (X:=fun w _=>laidMetH Tryz.prog LD w) (fun _ _ _ hh h=>h.of_heap hh) oD started (by kernel_rfl) Tryz.func5
  (ChangeSpec.witness_shaped (enc:=enc) (C:=Tryz.checked) (os:=os) (X:=fun w _=>laidMetH Tryz.prog LD w) false (World.doorLaid Tryz.prog 400 os) #[.agg (UT ⟨⟨none,[],0⟩,0,0,0,0,0,0,0,0,0,⟨none,[],0⟩⟩),.slice none 0 0] 8 rfl (World.shaped_of_RefB (by kernel_rfl) (by kernel_rfl)) (by kernel_rfl) (by kernel_rfl) (by kernel_rfl) (GX os _)) ?_
 intro W base args ds gs before Hb hW hcnd Bn hL _;have Kq:∀(j:Nat) t v,Tryz.f5.params[j]? =some t→args[j]? =some v→Value.okWide Tryz.prog W .any base t v:=Hb;have hW':=hW;obtain⟨p,q,hA0,hV,rfl,hfz,ct⟩:=hW;have hA:DataW.TrodAll enc Tryz.prog W 0 (fun _=>true) true Tryz.f5.params.toList args.toList ds p:=hA0;rw[Tryz.params5]at hA Kq;obtain⟨v0,vs0,d0,ds0,p0,q0,hargs,rfl,rfl,h0,r0⟩:=trodAll_cons hA;obtain⟨v1,vs1,d1,ds1,p1,q1,rfl,rfl,rfl,h1,r1⟩:=trodAll_cons r0;obtain⟨rfl,rfl,rfl⟩:=trodAll_nil r1;obtain rfl:args= #[v0,v1]:=by cases args;simp_all
 obtain⟨rfl,rfl⟩:=trodVars_none hV;obtain⟨cs0,rfl⟩:=jC Tryz.underlying28 (Kq 0 28 v0 rfl rfl);obtain⟨a1,len1,cap1,rfl⟩:=okWide_slice Tryz.underlying76 (Kq 1 76 v1 rfl rfl);have k0:=h0;have k1:=h1;have lt0:∀x∈p0,x.block<W.heap.size:=by obtain⟨m,hm⟩:=k0;exact DataW.trod_lt m _ _ _ hm
 have lt1:∀x∈p1,x.block<W.heap.size:=by obtain⟨m,hm⟩:=k1;exact DataW.trod_lt m _ _ _ hm
 obtain⟨x0,Wz,qo⟩:∃x:TP,cs0=UT x∧LL W x:=by
  obtain⟨fuel,hf⟩:=h0;obtain⟨x,hx,hk⟩:=GH _ _ _ _ _ _ _ hf (xC Bn (j:=0) rfl rfl);exact⟨x,by simpa[Value.cells] using hx,hk⟩
 subst Wz;obtain⟨l1,hl1_0,jj,qq,bj,dz,gy⟩:∃l:List pQ,len1=l.length∧aS yO 83 W a1 l∧(∀x∈l,tQ W x)∧l.length*288≤reachBytes∧(∀y,a1=some y→y.block<W.heap.size∨l=[])∧l.length≤maxLen:=by
  obtain⟨fuel,hf⟩:=h1;obtain⟨s,hs,h1,h2,h3,h4,h5⟩:=DE _ _ _ _ _ _ _ hf (xC Bn (j:=1) rfl rfl);have hs:[Value.slice a1 len1 cap1]=[.slice s.a s.l.length s.c]:=congrArg Array.toList hs;simp only[List.cons.injEq,Value.slice.injEq,and_true]at hs;obtain⟨rfl,rfl,rfl⟩:=hs;exact⟨s.l,rfl,h1,h2,h3,h4,h5⟩
 subst hl1_0;clear hA0 Hb;refine(DX x0 a1 l1 cap1 W qo jj qq bj dz gy (vT hL)).mono fun e W' ⟨he,hm⟩=> ?_;have bel:Below W.heap.size W W':=hm.below (aZq _) (fun _ _ h=>h);subst he;exact⟨_,rfl,_,_,_,[],_,[],hW',trodAll_mk1 (shut_bool Tryz.underlying4 _),(trodAll_cons_mk (Below.trod laid (by kernel_rfl) (of_decide_eq_true (by kernel_rfl)) k0 bel lt0) (trodAll_cons_mk (Below.trod laid (by kernel_rfl) (of_decide_eq_true (by kernel_rfl)) k1 bel lt1) trodAll_mk0)),rfl,bel.frame _,fun h=>by cases h⟩
theorem passesDropped_holds:Rows.PassesDroppedSaid:=
 OpenClaim.holds_of_wide 5 Tryz.f5 rfl rfl rfl rfl rfl rfl rfl ⟨rfl,rfl,rfl,rfl,rfl⟩ rfl rfl rfl rfl rfl (by kernel_rfl) Tryz.func5 (by kernel_rfl)
  (of_decide_eq_true (by kernel_rfl)) (by unfold Func.isWrapper;first|(rw[if_pos (by decide+kernel)];kernel_rfl)|(rw[if_neg (by decide+kernel)];exact⟨rfl,rfl⟩))
  (fun os started H enc _=>j4 os started H enc)
theorem passesDroppedCard_holds:Rows.PassesDroppedCardSaid:=
 Claim7.holds_tied_plain_at .later [] [.data] true (true, "2671179052e59197a4a014fc34334819269d61d59e3b77801efd4ce657873532") true
  passesDropped_holds (fun _ h=>by cases h) (by kernel_rfl) (fun _ h=>by cases h) passesDropped_row_tie rfl ⟨rfl,rfl⟩ (by kernel_rfl) rfl
  (fun f fn hf hfn=>by
   obtain rfl:f=5:=aZz ((show Tryz.prog.funcNamed "ferryhouse/ferryhouselaw26.PassesDropped" =some 5 by kernel_rfl).symm.trans hf)|>.symm;obtain rfl:fn=Tryz.f5:=(aZz (Tryz.func5.symm.trans hfn)).symm;exact⟨by kernel_rfl,fun j t ht=>by
    rw[Tryz.params5]at ht;have hm:t∈[28,76]:=by simpa using Array.mem_of_getElem? ht
    have bm:([28,76].all fun u=> !Tryz.prog.wantsStandIn u)=true:=by kernel_rfl
    exact(show Tryz.prog.wantsStandIn t=false by simpa using aYh.1 bm t hm)⟩)
  (by kernel_rfl)
#print axioms passesDroppedCard_holds
end Go.Proofs.YtblbegbjlaokjaaGreatDoor
