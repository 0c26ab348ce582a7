import Derived.Test.YtjdohhididpomaaGreatDoorWf24
import Derived.Test.YtjdohhididpomaaGreatDoorWf25
import Derived.Test.YtjdohhididpomaaGreatDoorCards
import Derived.Test.YtjdohhididpomaaGreatDoorTie
import Derived.Deep.DeepHandedRow
import Derived.Deep.DeepWitnessRowRef
set_option linter.unusedVariables false
set_option linter.unusedSimpArgs false
namespace Go.Proofs.YtjdohhididpomaaGreatDoor
open Go Go.RowKit Go.ChangeShapes Go.WideShapes Go.ChangeAt Vc Ut Lw
open Go.ChangeMaps (open_string)
theorem zzb:ownKnob Tryz.prog.godebug=none:=by kernel_rfl
theorem zoh{n:Int}(h:(Lit.int .i64 n).wf=true): -9223372036854775808<=n/\n<=9223372036854775807:=by
  simpa[Lit.wf,IntKind.min,IntKind.max,IntKind.signed,IntKind.bits]using h
theorem zzc{n:Int}(h:(Lit.int .u8 n).wf=true):0<=n/\n<=255:=by
  simpa[Lit.wf,IntKind.min,IntKind.max,IntKind.signed,IntKind.bits]using h
theorem ztz{s:CallSpec}{f:FuncId}(hs:s.Ok Tryz.prog f){args:Array Value}{W:World}(g:s.G)(hg:s.args g=args)(hp:s.pre g W)(hr:∀x,s.res x= .bool true)(hpost:∀x W',s.post g W x W'->Ext W W'):
    Calls Tryz.prog f args W fun e W'=>e= .returned (.bool true)/\Below W.heap.size W W':=by
  rw[<-hg]
  exact(hs g W hp).mono fun e W' ⟨x,he,hx,_⟩=>⟨by rw[he,hr],hpost x W' hx⟩
set_option maxRecDepth 100000 in
theorem zcV(H:Type)(enc:TypeId×Value->H)(W:World)(base:Nat)(args:Array Value)(ds gs:List (DataW H))(before:List MemPlace)
    (hval:∀(j:Nat) t v,Tryz.f4.params[j]? =some t->args[j]? =some v->Value.okWide Tryz.prog W .any base t v)
    (hW:DataW.Whole enc Tryz.prog Tryz.f4.params.toList Rows.wireFeedsSpec.vars false W args.toList ds gs before) (hk:Rows.uptoSmall H (ds++gs)=true) (hL:laidMet Tryz.prog zgn W):
    Calls Tryz.prog 4 args W fun e W'=>∃v,e= .returned v/\Rows.wireFeedsSpec.post enc Tryz.prog Tryz.f4 false true false false W args v W':=by
  have hU:=zyt hL
  have hW':=hW
  obtain⟨p,q,hA0,hV,rfl,hfz,hnd⟩:=hW
  have hA:DataW.TrodAll enc Tryz.prog W 0 (fun _=>true) true Tryz.f4.params.toList args.toList ds p:=hA0
  have hpar:Tryz.f4.params= #[3,3,4,31,31]:=by kernel_rfl
  rw[hpar]at hA hval
  obtain⟨v0,vs0,d0,ds0,p0,q0,hargs,rfl,rfl,h0,r0⟩:=trodAll_cons hA
  obtain⟨v1,vs1,d1,ds1,p1,q1,rfl,rfl,rfl,h1,r1⟩:=trodAll_cons r0
  obtain⟨v2,vs2,d2,ds2,p2,q2,rfl,rfl,rfl,h2,r2⟩:=trodAll_cons r1
  obtain⟨v3,vs3,d3,ds3,p3,q3,rfl,rfl,rfl,h3,r3⟩:=trodAll_cons r2
  obtain⟨v4,vs4,d4,ds4,p4,q4,rfl,rfl,rfl,h4,r4⟩:=trodAll_cons r3
  obtain⟨rfl,rfl,rfl⟩:=trodAll_nil r4
  obtain rfl:args= #[v0,v1,v2,v3,v4]:=by cases args;simp_all
  obtain⟨i0,rfl,rfl,rfl,wi0⟩:=open_int (k:= .i64) (by kernel_rfl) (hval 0 3 v0 rfl rfl) h0
  have wj0:=zoh wi0
  obtain⟨i1,rfl,rfl,rfl,wi1⟩:=open_int (k:= .i64) (by kernel_rfl) (hval 1 3 v1 rfl rfl) h1
  have wj1:=zoh wi1
  obtain⟨o2,rfl,rfl,rfl⟩:=open_bool (by kernel_rfl) (hval 2 4 v2 rfl rfl) h2
  have hb3:=Nat.le_trans (Bulk.part_le (d:=d3) (by simp)) (Bulk.small hk)
  obtain⟨ad3,c3,l3,rfl,hc3,he3,hq3⟩:=zh0 (e:=40) (eb:=5) (by kernel_rfl) (by kernel_rfl) (by kernel_rfl) (by kernel_rfl) (by kernel_rfl) (hval 3 31 v3 rfl rfl) h3
  have hl3:=Nat.le_trans hq3 hb3
  have hb4:=Nat.le_trans (Bulk.part_le (d:=d4) (by simp)) (Bulk.small hk)
  obtain⟨ad4,c4,l4,rfl,hc4,he4,hq4⟩:=zh0 (e:=40) (eb:=5) (by kernel_rfl) (by kernel_rfl) (by kernel_rfl) (by kernel_rfl) (by kernel_rfl) (hval 4 31 v4 rfl rfl) h4
  have hl4:=Nat.le_trans hq4 hb4
  exact zpL hW' rfl rfl (tb:=4) (by kernel_rfl) (by kernel_rfl) (by kernel_rfl) (by kernel_rfl) (ztz zs9 ⟨i0,i1,o2,ad3,c3,l3,ad4,c4,l4⟩ rfl ⟨hU,⟨hc3,he3,hl3⟩,⟨hc4,he4,hl4⟩⟩ (fun _=>rfl) (fun _ _ h=>h))
theorem zdk(os:Os){H:Type}(enc:TypeId×Value->H):
    (Rows.OpenSpec.upto Rows.wireFeedsSpec).preRow enc Tryz.prog Tryz.f4 Rows.wireFeedsUptoRow.domain false Rows.wireFeedsUptoRow.laid ((zfh os).forCall (fun _ _=>0) ⟨#[], #[.int .i64 0, .int .i64 0, .bool false, .slice none 0 0, .slice none 0 0],[]⟩).memory #[.int .i64 0, .int .i64 0, .bool false, .slice none 0 0, .slice none 0 0]:=by
  have hw:(DataW.whole enc Tryz.prog ((zfh os).forCall (fun _ _=>0) ⟨#[], #[.int .i64 0, .int .i64 0, .bool false, .slice none 0 0, .slice none 0 0],[]⟩).memory Tryz.f4.params.toList Rows.wireFeedsSpec.vars false (#[.int .i64 0, .int .i64 0, .bool false, .slice none 0 0, .slice none 0 0]:Array Value).toList 8).map (fun x=>(x.1,x.2.1))=
   some ([.lit (.int .i64 0), .lit (.int .i64 0), .lit (.bool false), .nil, .nil],[]):=by kernel_rfl
  obtain⟨⟨x1,x2,x3⟩,hx,hx1⟩:=Option.map_eq_some_iff.1 hw
  simp only[Prod.mk.injEq]at hx1
  obtain⟨rfl,rfl⟩:=hx1
  exact OpenSpec.preRow_of_cond 8 hx (by kernel_rfl) (fun k hk=>by cases hk;kernel_rfl) (by kernel_rfl) (zxs os _)
set_option maxRecDepth 100000 in
theorem zd4(os:Os)(started:os.Started)(H:Type)(enc:TypeId×Value->H)(F:Stop.Interp):
    ReturnsInHanded {} Tryz.checked os 4 .any ((Rows.OpenSpec.upto Rows.wireFeedsSpec).preRow enc Tryz.prog Tryz.f4 Rows.wireFeedsUptoRow.domain false Rows.wireFeedsUptoRow.laid) (((Rows.OpenSpec.upto Rows.wireFeedsSpec).at F).post enc Tryz.prog Tryz.f4 false true false false):=by
  refine returnsInHanded_of_row (C:=Tryz.checked) (s:=(Rows.OpenSpec.upto Rows.wireFeedsSpec)) zzb started (by kernel_rfl) Tryz.func4
    (witness_row_atRef (enc:=enc) (C:=Tryz.checked) false (zfh os) #[.int .i64 0, .int .i64 0, .bool false, .slice none 0 0, .slice none 0 0] rfl (by kernel_rfl) (by kernel_rfl) (by kernel_rfl) (zdk os enc)) ?_
  intro W base args ds gs before hval hW _ hcond _ hL _ _
  exact zcV H enc W base args ds gs before hval hW (hcond _ rfl) hL
theorem zfL:Rows.WireFeedsUptoSaid:=
  OpenClaim.holds_of_cond 4 Tryz.f4 rfl rfl rfl rfl rfl rfl rfl ⟨rfl,rfl,rfl,rfl,rfl⟩ rfl rfl rfl rfl rfl (by kernel_rfl) Tryz.func4 (by kernel_rfl)
    (of_decide_eq_true (by kernel_rfl)) (by unfold Func.isWrapper;first|(rw[if_pos (by decide+kernel)];kernel_rfl)|(rw[if_neg (by decide+kernel)];exact⟨rfl,rfl⟩))
    (fun os started H enc _ F=>by rw[OpenClaim.pre_eq_preRow];exact zd4 os started H enc F)
theorem ze2(f:FuncId)(fn:Func)(hf:Tryz.pinned.checked.prog.funcNamed "shuttle/shuttlelaw26.WireFeeds" =some f)(hfn:Tryz.pinned.checked.prog.funcs[f]? =some fn):
    false=Tryz.pinned.checked.prog.looks []/\∀(j:Nat) t,fn.params[j]? =some t->Tryz.pinned.checked.prog.wantsStandIn t=false:=by
  obtain rfl:f=4:=Option.some.inj ((show Tryz.prog.funcNamed "shuttle/shuttlelaw26.WireFeeds" =some 4 by kernel_rfl).symm.trans hf)|>.symm
  obtain rfl:fn=Tryz.f4:=(Option.some.inj (Tryz.func4.symm.trans hfn)).symm
  refine⟨by kernel_rfl,fun j t ht=> ?_⟩
  have hall:Tryz.f4.params.toList.all (fun t=> !Tryz.prog.wantsStandIn t)=true:=by kernel_rfl
  have hmem:t∈Tryz.f4.params.toList:=by simpa using Array.mem_of_getElem? ht
  have:=List.all_eq_true.1 hall t hmem
  exact(by simpa using this:Tryz.prog.wantsStandIn t=false)
theorem wireFeeds_holds:Rows.WireFeedsUptoCardSaid:=
  Claim7.holds_tied_plain_at .later [] _ _ _ _ zfL (fun _ h=>by cases h) (by kernel_rfl) (fun _ h=>by cases h) wireFeedsUpto_row_tie rfl ⟨rfl,rfl⟩ (by kernel_rfl) rfl ze2 (by kernel_rfl)
#print axioms wireFeeds_holds
end Go.Proofs.YtjdohhididpomaaGreatDoor
