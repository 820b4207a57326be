/- The statement 'ReadiesOf', proved: whatever bytes a packet has, and whatever tables there are, whether it is well formed, and all that is told of it, or what is wrong first, is the chapter's; bytes stay, nothing is shared. For every input; the two variables of budgets as the program's text lays them. -/
import Derived.Test.YtiaehkkkcaeaiaaGreatDoorXR11
import Derived.Test.YtiaehkkkcaeaiaaGreatDoorRows
import Derived.Test.YtiaehkkkcaeaiaaGreatDoorCards
import Derived.Test.YtiaehkkkcaeaiaaGreatDoorTie
import Derived.SizedLaws
import Derived.WalkKit
import Derived.ProofKit
import Derived.OpenShut
import Derived.ShutString
import Derived.ChangeOld
import Derived.Below
import Derived.LaidMore
import Derived.Stop.Joined
import Derived.SevenTiedAt
set_option linter.unusedSimpArgs false
set_option linter.unusedVariables false
set_option linter.unusedSectionVars false
set_option maxRecDepth 100000
namespace Go.Proofs.YtiaehkkkcaeaiaaGreatDoor
open Go.ChangeShapes Go.WideShapes Go.ChangeAt Go.RowKit
theorem ownReadiesOf:ownKnob Tryz.prog.godebug=none:=by kernel_rfl
theorem readiesOf_lifted (os:Os) (started:os.Started) (H:Type) (enc:TypeId×Value→H):
  ReturnsInHanded {} Tryz.checked os 4 .any (fun w args=>(Rows.readiesOfSpec.pre enc Tryz.prog Tryz.f4 [] false w args∧laidMetH Tryz.prog LD w)∧sizedMet enc Tryz.prog Tryz.f4 (OpenSpec.ofChange Rows.readiesOfSpec) false w args) (Rows.readiesOfSpec.post enc Tryz.prog Tryz.f4 false true false false):=by
 refine returnsInHanded_of_change_and (C:=Tryz.checked) (X:=fun w _=>laidMetH Tryz.prog LD w) (fun _ _ _ hh h=>h.of_heap hh) ownReadiesOf started (by kernel_rfl) Tryz.func4
  (ChangeSpec.witness_shaped (enc:=enc) (C:=Tryz.checked) (os:=os) (X:=fun w _=>laidMetH Tryz.prog LD w) false (World.doorLaid Tryz.prog 400 os) #[.slice none 0 0,.slice none 0 0] 8 rfl (World.shaped_of_RefB (by kernel_rfl) (by kernel_rfl)) (by kernel_rfl) (by kernel_rfl) (by kernel_rfl) (door_met os _)) ?_
 intro W base args ds gs before hval0 hW hcnd hsized hL _;have hval:∀(j:Nat) t v,Tryz.f4.params[j]? =some t→args[j]? =some v→Value.okWide Tryz.prog W .any base t v:=hval0;have hW':=hW;obtain⟨p,q,hA0,hV,rfl,hfz,hnd⟩:=hW;have hA:DataW.TrodAll enc Tryz.prog W 0 (fun _=>true) true Tryz.f4.params.toList args.toList ds p:=hA0;rw[Tryz.params4]at hA hval;obtain⟨v0,vs0,d0,ds0,p0,q0,hargs,rfl,rfl,h0,r0⟩:=trodAll_cons hA;obtain⟨v1,vs1,d1,ds1,p1,q1,rfl,rfl,rfl,h1,r1⟩:=trodAll_cons r0;obtain⟨rfl,rfl,rfl⟩:=trodAll_nil r1;obtain rfl:args= #[v0,v1]:=by cases args;simp_all
 obtain⟨rfl,rfl⟩:=trodVars_none hV;obtain⟨a0,len0,cap0,rfl⟩:=okWide_slice Tryz.underlying22 (hval 0 22 v0 rfl rfl);obtain⟨a1,len1,cap1,rfl⟩:=okWide_slice Tryz.underlying51 (hval 1 51 v1 rfl rfl);obtain⟨hn0,hc0,hin0⟩:=okWide_adr Tryz.underlying22 (hval 0 22 _ rfl rfl);have k0:=h0;have k1:=h1;have lt0:∀x∈p0,x.block<W.heap.size:=by obtain⟨m,hm⟩:=k0;exact DataW.trod_lt m _ _ _ hm
 have lt1:∀x∈p1,x.block<W.heap.size:=by obtain⟨m,hm⟩:=k1;exact DataW.trod_lt m _ _ _ hm
 obtain⟨l0,hl0_0,hl0⟩:∃l:List UInt8,len0=l.length∧SlAt uc 1 W a0 l:=by
  obtain⟨fuel,hf⟩:=h0;obtain⟨s,hs,h1,h2,h3,h4,h5⟩:=bysC_reads _ _ _ _ _ _ _ hf (fits_arg hsized (j:=0) rfl rfl);have hs:[Value.slice a0 len0 cap0]=[.slice s.a s.l.length s.c]:=congrArg Array.toList hs;simp only[List.cons.injEq,Value.slice.injEq,and_true]at hs;obtain⟨rfl,rfl,rfl⟩:=hs;exact⟨s.l,rfl,h1⟩
 subst hl0_0;obtain⟨l1,hl1_0,hl1,ho1,hz1,hb1,hx1⟩:∃l:List TbR,len1=l.length∧SlAt tbr 33 W a1 l∧(∀x∈l,TaOk W x)∧l.length*56≤reachBytes∧(∀y,a1=some y→y.block<W.heap.size∨l=[])∧l.length≤maxLen:=by
  obtain⟨fuel,hf⟩:=h1;obtain⟨s,hs,h1,h2,h3,h4,h5⟩:=tas_reads _ _ _ _ _ _ _ hf (fits_arg hsized (j:=1) rfl rfl);have hs:[Value.slice a1 len1 cap1]=[.slice s.a s.l.length s.c]:=congrArg Array.toList hs;simp only[List.cons.injEq,Value.slice.injEq,and_true]at hs;obtain⟨rfl,rfl,rfl⟩:=hs;exact⟨s.l,rfl,h1,h2,h3,h4,h5⟩
 subst hl1_0;clear hA0 hval0;refine((fun a0 l0 c0 a1 l1 c1 w h0 k1 k2 k3 h1 ho hz hb hx hB=>ofLaw_c a0 l0 c0 a1 l1 c1 w ⟨h0,k1,k2,k3⟩ h1 ho hB) a0 l0 cap0 a1 l1 cap1 W hl0 hc0 hn0 hin0 hl1 ho1 hz1 hb1 hx1 (tabW_of_laid hL)).mono fun e W' ⟨he,hm⟩=> ?_;have bel:Below W.heap.size W W':=hm.below (Nat.le_refl _) (fun _ _ h=>h);subst he;exact⟨_,rfl,_,_,_,[],_,[],hW',trodAll_mk1 (shut_bool Tryz.underlying4 _),(trodAll_cons_mk (Below.trod laid (by kernel_rfl) (of_decide_eq_true (by kernel_rfl)) k0 bel lt0) (trodAll_cons_mk (Below.trod laid (by kernel_rfl) (of_decide_eq_true (by kernel_rfl)) k1 bel lt1) trodAll_mk0)),rfl,bel.frame _,fun h=>by cases h⟩
theorem readiesOf_holds:Rows.ReadiesOfSaid:=
 OpenClaim.holds_of_wide 4 Tryz.f4 rfl rfl rfl rfl rfl rfl rfl ⟨rfl,rfl,rfl,rfl,rfl⟩ rfl rfl rfl rfl rfl (by kernel_rfl) Tryz.func4 (by kernel_rfl)
  (of_decide_eq_true (by kernel_rfl)) (by unfold Func.isWrapper;first|(rw[if_pos (by decide+kernel)];kernel_rfl)|(rw[if_neg (by decide+kernel)];exact⟨rfl,rfl⟩))
  (fun os started H enc _=>readiesOf_lifted os started H enc)
theorem readiesOfCard_holds:Rows.ReadiesOfCardSaid:=
 Claim7.holds_tied_plain_at .later [] [.data,.data] true (true, "bbcd8e7124cdc2a0cfcdb4469d09a8f7a7de5ed78a35b9507c20d08a7b415d79") true
  readiesOf_holds (fun _ h=>by cases h) (by kernel_rfl) (fun _ h=>by cases h) readiesOf_row_tie rfl ⟨rfl,rfl⟩ (by kernel_rfl) rfl
  (fun f fn hf hfn=>by
   obtain rfl:f=4:=Option.some.inj ((show Tryz.prog.funcNamed "ferryhouse/ferryhouselaw11.ReadiesOf" =some 4 by kernel_rfl).symm.trans hf)|>.symm;obtain rfl:fn=Tryz.f4:=(Option.some.inj (Tryz.func4.symm.trans hfn)).symm;exact⟨by kernel_rfl,fun j t ht=>by
    rw[Tryz.params4]at ht;have hm:t∈[22,51]:=by simpa using Array.mem_of_getElem? ht
    have hall:([22,51].all fun u=> !Tryz.prog.wantsStandIn u)=true:=by kernel_rfl
    exact(show Tryz.prog.wantsStandIn t=false by simpa using List.all_eq_true.1 hall t hm)⟩)
  (by kernel_rfl)
#print axioms readiesOfCard_holds
end Go.Proofs.YtiaehkkkcaeaiaaGreatDoor
