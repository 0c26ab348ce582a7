import Derived.Test.YtjdohhididpomaaGreatDoorWg27
import Derived.Test.YtjdohhididpomaaGreatDoorCards
import Derived.Test.YtjdohhididpomaaGreatDoorTie
import Derived.Deep.DeepHandedRow
import Derived.Deep.DeepWitnessRowRef
set_option linter.unusedVariables false
set_option linter.unusedSimpArgs false
namespace Go.Proofs.YtjdohhididpomaaGreatDoor
open Go Go.RowKit Go.ChangeShapes Go.WideShapes Go.ChangeAt Vc Ut Lw
open Go.ChangeMaps (open_string)
theorem zzt:ownKnob Tryz.prog.godebug=none:=by kernel_rfl
theorem zzh{n:Int}(h:(Lit.int .i64 n).wf=true): -9223372036854775808<=n/\n<=9223372036854775807:=by
  simpa[Lit.wf,IntKind.min,IntKind.max,IntKind.signed,IntKind.bits]using h
theorem zzu{n:Int}(h:(Lit.int .u8 n).wf=true):0<=n/\n<=255:=by
  simpa[Lit.wf,IntKind.min,IntKind.max,IntKind.signed,IntKind.bits]using h
theorem ztQ{s:CallSpec}{f:FuncId}(hs:s.Ok Tryz.prog f){args:Array Value}{W:World}(g:s.G)(hg:s.args g=args)(hp:s.pre g W)(hr:∀x,s.res x= .bool true)(hpost:∀x W',s.post g W x W'->Ext W W'):
    Calls Tryz.prog f args W fun e W'=>e= .returned (.bool true)/\Below W.heap.size W W':=by
  rw[<-hg]
  exact(hs g W hp).mono fun e W' ⟨x,he,hx,_⟩=>⟨by rw[he,hr],hpost x W' hx⟩
set_option maxRecDepth 100000 in
theorem zdb(H:Type)(enc:TypeId×Value->H)(W:World)(base:Nat)(args:Array Value)(ds gs:List (DataW H))(before:List MemPlace)
    (hval:∀(j:Nat) t v,Tryz.f5.params[j]? =some t->args[j]? =some v->Value.okWide Tryz.prog W .any base t v)
    (hW:DataW.Whole enc Tryz.prog Tryz.f5.params.toList Rows.wireDiffsSpec.vars false W args.toList ds gs before) (hk:Rows.uptoSmall H (ds++gs)=true) (hL:laidMet Tryz.prog zgE W):
    Calls Tryz.prog 5 args W fun e W'=>∃v,e= .returned v/\Rows.wireDiffsSpec.post enc Tryz.prog Tryz.f5 false true false false W args v W':=by
  have hU:=zyN hL
  have hW':=hW
  obtain⟨p,q,hA0,hV,rfl,hfz,hnd⟩:=hW
  have hA:DataW.TrodAll enc Tryz.prog W 0 (fun _=>true) true Tryz.f5.params.toList args.toList ds p:=hA0
  have hpar:Tryz.f5.params= #[43,4]:=by kernel_rfl
  rw[hpar]at hA hval
  obtain⟨v0,vs0,d0,ds0,p0,q0,hargs,rfl,rfl,h0,r0⟩:=trodAll_cons hA
  obtain⟨v1,vs1,d1,ds1,p1,q1,rfl,rfl,rfl,h1,r1⟩:=trodAll_cons r0
  obtain⟨rfl,rfl,rfl⟩:=trodAll_nil r1
  obtain rfl:args= #[v0,v1]:=by cases args;simp_all
  have hb0:=Nat.le_trans (Bulk.part_le (d:=d0) (by simp)) (Bulk.small hk)
  obtain⟨ad0,c0,l0,rfl,hc0⟩:=Lg.grids_in (e:=24) (by kernel_rfl) (by kernel_rfl) (hval 0 43 v0 rfl rfl) h0 hb0
  obtain⟨o1,rfl,rfl,rfl⟩:=open_bool (by kernel_rfl) (hval 1 4 v1 rfl rfl) h1
  exact zp5 hW' rfl rfl (tb:=4) (by kernel_rfl) (by kernel_rfl) (by kernel_rfl) (by kernel_rfl) (ztQ ztD ⟨ad0,c0,l0,o1⟩ rfl ⟨hU,hc0⟩ (fun _=>rfl) (fun _ _ h=>h))
theorem zdy(os:Os){H:Type}(enc:TypeId×Value->H):
    (Rows.OpenSpec.upto Rows.wireDiffsSpec).preRow enc Tryz.prog Tryz.f5 Rows.wireDiffsUptoRow.domain false Rows.wireDiffsUptoRow.laid ((zft os).forCall (fun _ _=>0) ⟨#[], #[.slice none 0 0, .bool false],[]⟩).memory #[.slice none 0 0, .bool false]:=by
  have hw:(DataW.whole enc Tryz.prog ((zft os).forCall (fun _ _=>0) ⟨#[], #[.slice none 0 0, .bool false],[]⟩).memory Tryz.f5.params.toList Rows.wireDiffsSpec.vars false (#[.slice none 0 0, .bool false]:Array Value).toList 8).map (fun x=>(x.1,x.2.1))=
   some ([.nil, .lit (.bool false)],[]):=by kernel_rfl
  obtain⟨⟨x1,x2,x3⟩,hx,hx1⟩:=Option.map_eq_some_iff.1 hw
  simp only[Prod.mk.injEq]at hx1
  obtain⟨rfl,rfl⟩:=hx1
  exact OpenSpec.preRow_of_cond 8 hx (by kernel_rfl) (fun k hk=>by cases hk;kernel_rfl) (by kernel_rfl) (zxJ os _)
set_option maxRecDepth 100000 in
theorem zeh(os:Os)(started:os.Started)(H:Type)(enc:TypeId×Value->H)(F:Stop.Interp):
    ReturnsInHanded {} Tryz.checked os 5 .any ((Rows.OpenSpec.upto Rows.wireDiffsSpec).preRow enc Tryz.prog Tryz.f5 Rows.wireDiffsUptoRow.domain false Rows.wireDiffsUptoRow.laid) (((Rows.OpenSpec.upto Rows.wireDiffsSpec).at F).post enc Tryz.prog Tryz.f5 false true false false):=by
  refine returnsInHanded_of_row (C:=Tryz.checked) (s:=(Rows.OpenSpec.upto Rows.wireDiffsSpec)) zzt started (by kernel_rfl) Tryz.func5
    (witness_row_atRef (enc:=enc) (C:=Tryz.checked) false (zft os) #[.slice none 0 0, .bool false] rfl (by kernel_rfl) (by kernel_rfl) (by kernel_rfl) (zdy os enc)) ?_
  intro W base args ds gs before hval hW _ hcond _ hL _ _
  exact zdb H enc W base args ds gs before hval hW (hcond _ rfl) hL
theorem zfZ:Rows.WireDiffsUptoSaid:=
  OpenClaim.holds_of_cond 5 Tryz.f5 rfl rfl rfl rfl rfl rfl rfl ⟨rfl,rfl,rfl,rfl,rfl⟩ rfl rfl rfl rfl rfl (by kernel_rfl) Tryz.func5 (by kernel_rfl)
    (of_decide_eq_true (by kernel_rfl)) (by unfold Func.isWrapper;first|(rw[if_pos (by decide+kernel)];kernel_rfl)|(rw[if_neg (by decide+kernel)];exact⟨rfl,rfl⟩))
    (fun os started H enc _ F=>by rw[OpenClaim.pre_eq_preRow];exact zeh os started H enc F)
theorem zfg(f:FuncId)(fn:Func)(hf:Tryz.pinned.checked.prog.funcNamed "shuttle/shuttlelaw26.WireDiffs" =some f)(hfn:Tryz.pinned.checked.prog.funcs[f]? =some fn):
    false=Tryz.pinned.checked.prog.looks []/\∀(j:Nat) t,fn.params[j]? =some t->Tryz.pinned.checked.prog.wantsStandIn t=false:=by
  obtain rfl:f=5:=Option.some.inj ((show Tryz.prog.funcNamed "shuttle/shuttlelaw26.WireDiffs" =some 5 by kernel_rfl).symm.trans hf)|>.symm
  obtain rfl:fn=Tryz.f5:=(Option.some.inj (Tryz.func5.symm.trans hfn)).symm
  refine⟨by kernel_rfl,fun j t ht=> ?_⟩
  have hall:Tryz.f5.params.toList.all (fun t=> !Tryz.prog.wantsStandIn t)=true:=by kernel_rfl
  have hmem:t∈Tryz.f5.params.toList:=by simpa using Array.mem_of_getElem? ht
  have:=List.all_eq_true.1 hall t hmem
  exact(by simpa using this:Tryz.prog.wantsStandIn t=false)
theorem wireDiffs_holds:Rows.WireDiffsUptoCardSaid:=
  Claim7.holds_tied_plain_at .later [] _ _ _ _ zfZ (fun _ h=>by cases h) (by kernel_rfl) (fun _ h=>by cases h) wireDiffsUpto_row_tie rfl ⟨rfl,rfl⟩ (by kernel_rfl) rfl zfg (by kernel_rfl)
#print axioms wireDiffs_holds
end Go.Proofs.YtjdohhididpomaaGreatDoor
