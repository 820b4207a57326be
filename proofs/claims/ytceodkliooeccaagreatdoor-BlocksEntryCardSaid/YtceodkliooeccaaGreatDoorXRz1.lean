/- The statement 'BlocksEntry', proved: the entries' bytes, decoded, one behind the other, are just the transactions that were recorded, in order, each as its packet's bytes. For every input; the two variables of budgets as the program's text lays them. -/
import Derived.Test.YtceodkliooeccaaGreatDoorXR9
import Derived.Test.YtceodkliooeccaaGreatDoorRows
import Derived.Test.YtceodkliooeccaaGreatDoorCards
import Derived.Test.YtceodkliooeccaaGreatDoorTie
import Derived.SizedLaws
import Derived.WalkKit
import Derived.ProofKit
import Derived.OpenShut
import Derived.ShutString
import Derived.ChangeOld
import Derived.Below
import Derived.LaidMore
import Derived.Stop.Joined
import Derived.SevenTiedAt
set_option linter.unusedSimpArgs false
set_option linter.unusedVariables false
set_option linter.unusedSectionVars false
set_option maxRecDepth 100000
namespace Go.Proofs.YtceodkliooeccaaGreatDoor
open Go.ChangeShapes Go.WideShapes Go.ChangeAt Go.RowKit
theorem okWide_stBlocksEntry {P:Program} {w:World} {r:Reach} {base:Nat} {t:TypeId} {fs:Array Field} {v:Value} (ht:P.underlying t=some (.struct fs)) (h:Value.okWide P w r base t v):∃cs,v= .agg cs:=by
 simp only[Value.okWide,ht]at h;obtain⟨cs,h1,_⟩:=h;exact⟨cs,h1⟩
theorem okWide_arBlocksEntry {P:Program} {w:World} {r:Reach} {base:Nat} {t e:TypeId} {n:Nat} {v:Value} (ht:P.underlying t=some (.array n e)) (h:Value.okWide P w r base t v):∃cs,v= .agg cs:=by
 simp only[Value.okWide,ht]at h;obtain⟨cs,h1,_⟩:=h;exact⟨cs,h1⟩
theorem ownBlocksEntry:ownKnob Tryz.prog.godebug=none:=by kernel_rfl
theorem blocksEntry_lifted (os:Os) (started:os.Started) (H:Type) (enc:TypeId×Value→H):
  ReturnsInHanded {} Tryz.checked os 3 .any (fun w args=>(Rows.blocksEntrySpec.pre enc Tryz.prog Tryz.f3 [] false w args∧laidMetH Tryz.prog LD w)∧sizedMet enc Tryz.prog Tryz.f3 (OpenSpec.ofChange Rows.blocksEntrySpec) false w args) (Rows.blocksEntrySpec.post enc Tryz.prog Tryz.f3 false true false false):=by
 refine returnsInHanded_of_change_and (C:=Tryz.checked) (X:=fun w _=>laidMetH Tryz.prog LD w) (fun _ _ _ hh h=>h.of_heap hh) ownBlocksEntry started (by kernel_rfl) Tryz.func3
  (ChangeSpec.witness_shaped (enc:=enc) (C:=Tryz.checked) (os:=os) (X:=fun w _=>laidMetH Tryz.prog LD w) false (World.doorLaid Tryz.prog 400 os) #[.agg (#[.slice none 0 0,.slice none 0 0,.slice none 0 0,.int .u64 0,.int .u64 0,.int .u64 0]),.slice none 0 0] 8 rfl (World.shaped_of_RefB (by kernel_rfl) (by kernel_rfl)) (by kernel_rfl) (by kernel_rfl) (by kernel_rfl) (door_met os _)) ?_
 intro W base args ds gs before hval0 hW hcnd hsized hL _;have hval:∀(j:Nat) t v,Tryz.f3.params[j]? =some t→args[j]? =some v→Value.okWide Tryz.prog W .any base t v:=hval0;have hW':=hW;obtain⟨p,q,hA0,hV,rfl,hfz,hnd⟩:=hW;have hA:DataW.TrodAll enc Tryz.prog W 0 (fun _=>true) true Tryz.f3.params.toList args.toList ds p:=hA0;rw[Tryz.params3]at hA hval;obtain⟨v0,vs0,d0,ds0,p0,q0,hargs,rfl,rfl,h0,r0⟩:=trodAll_cons hA;obtain⟨v1,vs1,d1,ds1,p1,q1,rfl,rfl,rfl,h1,r1⟩:=trodAll_cons r0;obtain⟨rfl,rfl,rfl⟩:=trodAll_nil r1;obtain rfl:args= #[v0,v1]:=by cases args;simp_all
 obtain⟨rfl,rfl⟩:=trodVars_none hV;obtain⟨cs0,rfl⟩:=okWide_stBlocksEntry Tryz.underlying29 (hval 0 29 v0 rfl rfl);obtain⟨a1,len1,cap1,rfl⟩:=okWide_slice Tryz.underlying30 (hval 1 30 v1 rfl rfl);have k0:=h0;have k1:=h1;have lt0:∀x∈p0,x.block<W.heap.size:=by obtain⟨m,hm⟩:=k0;exact DataW.trod_lt m _ _ _ hm
 have lt1:∀x∈p1,x.block<W.heap.size:=by obtain⟨m,hm⟩:=k1;exact DataW.trod_lt m _ _ _ hm
 obtain⟨x0,hx0,hk0⟩:∃x:GrR',cs0=grc x∧GrOk W x:=by
  obtain⟨fuel,hf⟩:=h0;obtain⟨x,hx,hk⟩:=gnd_reads _ _ _ _ _ _ _ hf (fits_arg hsized (j:=0) rfl rfl);exact⟨x,by simpa[Value.cells] using hx,hk⟩
 subst hx0;obtain⟨l1,hl1_0,hl1,ho1,hz1,hb1,hx1⟩:∃l:List (Sl (Sl UInt8)),len1=l.length∧SlAt slv 1 W a1 l∧(∀x∈l,PksRd W x)∧l.length*24≤reachBytes∧(∀y,a1=some y→y.block<W.heap.size∨l=[])∧l.length≤maxLen:=by
  obtain⟨fuel,hf⟩:=h1;obtain⟨s,hs,h1,h2,h3,h4,h5⟩:=pkss_reads _ _ _ _ _ _ _ hf (fits_arg hsized (j:=1) rfl rfl);have hs:[Value.slice a1 len1 cap1]=[.slice s.a s.l.length s.c]:=congrArg Array.toList hs;simp only[List.cons.injEq,Value.slice.injEq,and_true]at hs;obtain⟨rfl,rfl,rfl⟩:=hs;exact⟨s.l,rfl,h1,h2,h3,h4,h5⟩
 subst hl1_0;clear hA0 hval0;refine((fun g a l c w hk hl ho hz hb hx hB=>entryLaw_c g a l c w hk hl ho (Nat.le_trans (reach_small hz (by omega)) (by decide)) hB) x0 a1 l1 cap1 W hk0 hl1 ho1 hz1 hb1 hx1 (tabW_of_laid hL)).mono fun e W' ⟨he,hm⟩=> ?_;have bel:Below W.heap.size W W':=hm.below (Nat.le_refl _) (fun _ _ h=>h);subst he;exact⟨_,rfl,_,_,_,[],_,[],hW',trodAll_mk1 (shut_bool Tryz.underlying4 _),(trodAll_cons_mk (Below.trod laid (by kernel_rfl) (of_decide_eq_true (by kernel_rfl)) k0 bel lt0) (trodAll_cons_mk (Below.trod laid (by kernel_rfl) (of_decide_eq_true (by kernel_rfl)) k1 bel lt1) trodAll_mk0)),rfl,bel.frame _,fun h=>by cases h⟩
theorem blocksEntry_holds:Rows.BlocksEntrySaid:=
 OpenClaim.holds_of_wide 3 Tryz.f3 rfl rfl rfl rfl rfl rfl rfl ⟨rfl,rfl,rfl,rfl,rfl⟩ rfl rfl rfl rfl rfl (by kernel_rfl) Tryz.func3 (by kernel_rfl)
  (of_decide_eq_true (by kernel_rfl)) (by unfold Func.isWrapper;first|(rw[if_pos (by decide+kernel)];kernel_rfl)|(rw[if_neg (by decide+kernel)];exact⟨rfl,rfl⟩))
  (fun os started H enc _=>blocksEntry_lifted os started H enc)
theorem blocksEntryCard_holds:Rows.BlocksEntryCardSaid:=
 Claim7.holds_tied_plain_at .later [] [.data,.data] true (true, "bea8ed150854403b28a2c90a6e1a46dbf3f90e5c5109739d3c62036387193c00") true
  blocksEntry_holds (fun _ h=>by cases h) (by kernel_rfl) (fun _ h=>by cases h) blocksEntry_row_tie rfl ⟨rfl,rfl⟩ (by kernel_rfl) rfl
  (fun f fn hf hfn=>by
   obtain rfl:f=3:=Option.some.inj ((show Tryz.prog.funcNamed "ferryhouse/ferryhouselaw27.BlocksEntry" =some 3 by kernel_rfl).symm.trans hf)|>.symm;obtain rfl:fn=Tryz.f3:=(Option.some.inj (Tryz.func3.symm.trans hfn)).symm;exact⟨by kernel_rfl,fun j t ht=>by
    rw[Tryz.params3]at ht;have hm:t∈[29,30]:=by simpa using Array.mem_of_getElem? ht
    have hall:([29,30].all fun u=> !Tryz.prog.wantsStandIn u)=true:=by kernel_rfl
    exact(show Tryz.prog.wantsStandIn t=false by simpa using List.all_eq_true.1 hall t hm)⟩)
  (by kernel_rfl)
#print axioms blocksEntryCard_holds
end Go.Proofs.YtceodkliooeccaaGreatDoor
