/- The statement 'PassesVoid', proved: a desk that is not there, one without a part, or of a config that may not be, makes no pass, and changes nothing. For every input; the table of math/bits as the program's text lays it. -/
import Derived.Test.YtblbegbjlaokjaaGreatDoorXS10
import Derived.Test.YtblbegbjlaokjaaGreatDoorRows
import Derived.Test.YtblbegbjlaokjaaGreatDoorCards
import Derived.Test.YtblbegbjlaokjaaGreatDoorTie
import Derived.SizedLaws
import Derived.WalkKit
import Derived.ProofKit
import Derived.OpenShut
import Derived.ShutString
import Derived.ChangeOld
import Derived.Below
import Derived.LaidMore
import Derived.Stop.Joined
import Derived.SevenTiedAt
set_option linter.unusedSimpArgs false
set_option linter.unusedVariables false
set_option linter.unusedSectionVars false
set_option maxRecDepth 100000
namespace Go.Proofs.YtblbegbjlaokjaaGreatDoor
open Go.ChangeShapes Go.WideShapes Go.ChangeAt Go.RowKit
theorem fE {P:Program} {w:World} {r:Reach} {base:Nat} {t:TypeId} {fs:Array Field} {v:Value} (ht:P.underlying t=some (.struct fs)) (h:Value.okWide P w r base t v):∃cs,v= .agg cs:=by
 simp only[Value.okWide,ht]at h;obtain⟨cs,h1,_⟩:=h;exact⟨cs,h1⟩
theorem xN {P:Program} {w:World} {r:Reach} {base:Nat} {t e:TypeId} {n:Nat} {v:Value} (ht:P.underlying t=some (.array n e)) (h:Value.okWide P w r base t v):∃cs,v= .agg cs:=by
 simp only[Value.okWide,ht]at h;obtain⟨cs,h1,_⟩:=h;exact⟨cs,h1⟩
theorem rE:ownKnob Tryz.prog.godebug=none:=by kernel_rfl
theorem lW (os:Os) (started:os.Started) (H:Type) (enc:TypeId×Value→H):
  ReturnsInHanded {} Tryz.checked os 3 .any (fun w args=>(Rows.passesVoidSpec.pre enc Tryz.prog Tryz.f3 [] false w args∧laidMetH Tryz.prog LD w)∧sizedMet enc Tryz.prog Tryz.f3 (OpenSpec.ofChange Rows.passesVoidSpec) false w args) (Rows.passesVoidSpec.post enc Tryz.prog Tryz.f3 false true false false):=by
 refine returnsInHanded_of_change_and (C:=Tryz.checked) (X:=fun w _=>laidMetH Tryz.prog LD w) (fun _ _ _ hh h=>h.of_heap hh) rE started (by kernel_rfl) Tryz.func3
  (ChangeSpec.witness_shaped (enc:=enc) (C:=Tryz.checked) (os:=os) (X:=fun w _=>laidMetH Tryz.prog LD w) false (World.doorLaid Tryz.prog 400 os) #[.agg (UW ⟨⟨none,[],0⟩,0,0,0,0,0,0,0,0,0,⟨none,[],0⟩⟩),.agg (bT rd0),.int .u8 0] 8 rfl (World.shaped_of_RefB (by kernel_rfl) (by kernel_rfl)) (by kernel_rfl) (by kernel_rfl) (by kernel_rfl) (FE os _)) ?_
 intro W base args ds gs before hval0 hW hcnd hsized hL _;have hval:∀(j:Nat) t v,Tryz.f3.params[j]? =some t→args[j]? =some v→Value.okWide Tryz.prog W .any base t v:=hval0;have hW':=hW;obtain⟨p,q,hA0,hV,rfl,hfz,hnd⟩:=hW;have hA:DataW.TrodAll enc Tryz.prog W 0 (fun _=>true) true Tryz.f3.params.toList args.toList ds p:=hA0;rw[Tryz.params3]at hA hval;obtain⟨v0,vs0,d0,ds0,p0,q0,hargs,rfl,rfl,h0,r0⟩:=trodAll_cons hA;obtain⟨v1,vs1,d1,ds1,p1,q1,rfl,rfl,rfl,h1,r1⟩:=trodAll_cons r0;obtain⟨v2,vs2,d2,ds2,p2,q2,rfl,rfl,rfl,h2,r2⟩:=trodAll_cons r1;obtain⟨rfl,rfl,rfl⟩:=trodAll_nil r2;obtain rfl:args= #[v0,v1,v2]:=by cases args;simp_all
 obtain⟨rfl,rfl⟩:=trodVars_none hV;obtain⟨cs0,rfl⟩:=fE Tryz.underlying28 (hval 0 28 v0 rfl rfl);obtain⟨cs1,rfl⟩:=fE Tryz.underlying46 (hval 1 46 v1 rfl rfl);obtain⟨n2,rfl,rfl,rfl,w2⟩:=open_int Tryz.underlying5 (hval 2 5 v2 rfl rfl) h2;have k0:=h0;have k1:=h1;have k2:=h2;have lt0:∀x∈p0,x.block<W.heap.size:=by obtain⟨m,hm⟩:=k0;exact DataW.trod_lt m _ _ _ hm
 have lt1:∀x∈p1,x.block<W.heap.size:=by obtain⟨m,hm⟩:=k1;exact DataW.trod_lt m _ _ _ hm
 obtain⟨x0,hx0,hk0⟩:∃x:UR,cs0=UW x∧NP W x:=by
  obtain⟨fuel,hf⟩:=h0;obtain⟨x,hx,hk⟩:=EX _ _ _ _ _ _ _ hf (vY hsized (j:=0) rfl rfl);exact⟨x,by simpa[Value.cells] using hx,hk⟩
 subst hx0;obtain⟨x1,hx1,hk1⟩:∃x:cS,cs1=bT x∧NY W x:=by
  obtain⟨fuel,hf⟩:=h1;obtain⟨x,hx,hk⟩:=G4 _ _ _ _ _ _ _ hf (vY hsized (j:=1) rfl rfl);exact⟨x,by simpa[Value.cells] using hx,hk⟩
 subst hx1;obtain⟨x2,rfl⟩:=NM (bounds_u8 w2);clear hA0 hval0;refine(DZ x0 x1 x2 W hk0 hk1 (uS hL)).mono fun e W' ⟨he,hm⟩=> ?_;have bel:Below W.heap.size W W':=hm.below (aZq _) (fun _ _ h=>h);subst he;exact⟨_,rfl,_,_,_,[],_,[],hW',trodAll_mk1 (shut_bool Tryz.underlying4 _),(trodAll_cons_mk (Below.trod laid (by kernel_rfl) (of_decide_eq_true (by kernel_rfl)) k0 bel lt0) (trodAll_cons_mk (Below.trod laid (by kernel_rfl) (of_decide_eq_true (by kernel_rfl)) k1 bel lt1) (trodAll_cons_mk (shut_int Tryz.underlying5 w2) trodAll_mk0))),rfl,bel.frame _,fun h=>by cases h⟩
theorem passesVoid_holds:Rows.PassesVoidSaid:=
 OpenClaim.holds_of_wide 3 Tryz.f3 rfl rfl rfl rfl rfl rfl rfl ⟨rfl,rfl,rfl,rfl,rfl⟩ rfl rfl rfl rfl rfl (by kernel_rfl) Tryz.func3 (by kernel_rfl)
  (of_decide_eq_true (by kernel_rfl)) (by unfold Func.isWrapper;first|(rw[if_pos (by decide+kernel)];kernel_rfl)|(rw[if_neg (by decide+kernel)];exact⟨rfl,rfl⟩))
  (fun os started H enc _=>lW os started H enc)
theorem passesVoidCard_holds:Rows.PassesVoidCardSaid:=
 Claim7.holds_tied_plain_at .later [] [.data] true (true, "2671179052e59197a4a014fc34334819269d61d59e3b77801efd4ce657873532") true
  passesVoid_holds (fun _ h=>by cases h) (by kernel_rfl) (fun _ h=>by cases h) passesVoid_row_tie rfl ⟨rfl,rfl⟩ (by kernel_rfl) rfl
  (fun f fn hf hfn=>by
   obtain rfl:f=3:=aZz ((show Tryz.prog.funcNamed "ferryhouse/ferryhouselaw26.PassesVoid" =some 3 by kernel_rfl).symm.trans hf)|>.symm;obtain rfl:fn=Tryz.f3:=(aZz (Tryz.func3.symm.trans hfn)).symm;exact⟨by kernel_rfl,fun j t ht=>by
    rw[Tryz.params3]at ht;have hm:t∈[28,46,5]:=by simpa using Array.mem_of_getElem? ht
    have hall:([28,46,5].all fun u=> !Tryz.prog.wantsStandIn u)=true:=by kernel_rfl
    exact(show Tryz.prog.wantsStandIn t=false by simpa using aYh.1 hall t hm)⟩)
  (by kernel_rfl)
#print axioms passesVoidCard_holds
end Go.Proofs.YtblbegbjlaokjaaGreatDoor
