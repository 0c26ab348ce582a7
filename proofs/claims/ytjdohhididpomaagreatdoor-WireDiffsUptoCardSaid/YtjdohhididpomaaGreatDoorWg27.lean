/-
  Texts joined by program: WkYn, Lw, Bulk, Lg, U8, U9, Ua.
-/
import Derived.Test.YtjdohhididpomaaGreatDoorWg26
import Derived.Test.YtjdohhididpomaaGreatDoorRows
import Derived.Test.YtjdohhididpomaaGreatDoorWg03
import Derived.WalkKit
import Derived.ProofKit
import Derived.OpenShut
import Derived.JoinedCond
import Derived.SizedLaws
import Derived.Carry
import Derived.Test.YtjdohhididpomaaGreatDoorWg24
import Derived.Test.YtjdohhididpomaaGreatDoorWg10
import Derived.Deep.Slices
import Derived.ChangeSame
import Derived.Lib.LaidIn
import Derived.Lib.LaidU8
import Derived.Test.YtjdohhididpomaaGreatDoorWg11
import Derived.Lib.LaidTab
set_option linter.unusedVariables false
set_option linter.unusedSimpArgs false

namespace Go.Proofs.YtjdohhididpomaaGreatDoor
section
open Go Go.RowKit Vc Ut Tb Cl Orb
def zeE:GrE:=⟨none,0,⟨0,0,[],0,0⟩⟩
set_option maxRecDepth 8000 in
theorem ztD:zmM.Ok Tryz.prog 5:=by
  refine ztC ⟨zo8,zqB,zrX,zpH,zr1,zh9,zoP,zrG,zvK,zuI,zvW,trivial⟩ ?_
  rintro⟨ad,c,l,wd⟩ w ⟨hU,hgr⟩
  dsimp only at hgr⊢
  refine zb (fun _=>⟨(),rfl,hU,fun _ w' hx=>⟨(),rfl,hx⟩⟩) (fun h12=> ?_)
  have h12:l.length<=12:=by have:=of_decide_eq_false h12;omega
  have hmem:∀{i:Nat},i<l.length->l.getD i noE∈l:=fun h=>by rw[List.getD_eq_getElem?_getD,List.getElem?_eq_getElem h];exact List.getElem_mem h
  have inr:∀{i:Nat},i<l.length->InR .i64 ((i:Int)+1):=fun h=>zd (by omega) (by omega)
  refine⟨⟨0,rfl,Nat.zero_le _,Ext.refl w⟩,?_⟩
  rintro - i w1 ⟨hi,hx1⟩
  refine zb (fun hlt=> ?_) (fun _=> ?_)
  ·have hlt:i<l.length:=by have:=of_decide_eq_true hlt;omega
   obtain⟨hce,hbe, -⟩:=hgr.each _ (hmem hlt)
   refine⟨i,rfl,hlt,(hgr.cells.ext hx1).gr hlt fun b o hg=>⟨_,_,_,hg.2.2.1,zb (fun _=>⟨(),rfl,hU.ext hx1,fun _ w2 hx2=>⟨(),rfl,Ext.trans hx1 hx2⟩⟩) (fun _=>⟨i,rfl,hlt,(hgr.cells.ext hx1).gr hlt fun b1 o1 hg1=>⟨_,_,_,hg1.2.2.1,⟨(l.getD i noE).ad,(l.getD i noE).c,(l.getD i noE).g.cs⟩,rfl,⟨hce.ext hx1,by dsimp only;omega⟩,fun _ w2 hx2=>⟨inr hlt,i+1,rfl,⟨hlt,Ext.trans hx1 hx2⟩,by omega⟩⟩⟩)⟩⟩
  intro b0 w2 hn2
  have z2:=hn2.size
  have s1:=hx1.size
  have hx2:Ext w w2:=Ext.trans hx1 hn2.ext
  refine⟨⟨⟨0,none,zeE⟩,rfl,rfl,⟨Nat.zero_le _,h12,hx2,by show w.heap.size<=b0;omega,hn2.heap,CellsAt.nil _ _,Nat.zero_le _,fun t ht=>by cases ht⟩⟩,?_⟩
  rintro - ⟨i,o,was⟩ w3 I
  dsimp only at I⊢
  have I:DfI ⟨ad,c,l,wd⟩ w i o was w3 b0:=I
  clear z2 s1 hx2 hn2 hx1
  refine zb (fun hlt=> ?_) (fun _=>⟨(),rfl,hU.ext I.ext,fun _ w4 hx4=>⟨(),rfl,Ext.trans I.ext hx4⟩⟩)
  have hlt:i<l.length:=by have:=of_decide_eq_true hlt;omega
  have hem:=hmem hlt
  have hin:=inr hlt
  have hE:eAt ⟨ad,c,l,wd⟩ ((i:Int)).toNat=l.getD i noE:=rfl
  rw[hE]
  refine⟨i,rfl,hlt,(hgr.cells.ext I.ext).gr hlt fun b1 o1 hg=>hg.load ?_⟩
  generalize he:l.getD i noE=e at hem hg⊢
  obtain⟨hce,hbe,hse⟩:=hgr.each e hem
  intro b2 w4 hn4
  have z4:=hn4.size
  have I4:=I.next hn4.ext
  have hbx:zb3 w4 b2 e:=hn4.heap
  have h0lt:=zv I.box
  have hw0:=I.ext.size
  refine(Z4 hbx).load ⟨⟨e.ad,e.c,e.g,wd⟩,rfl,⟨(hU.ext I4.ext).ud,hce.ext I4.ext,by dsimp only;omega⟩,?_⟩
  rintro x2 w5 ⟨hxr,hx45⟩
  dsimp only at hxr
  have I5:=I4.next hx45
  have hbx5:zb3 w5 b2 e:=Ext.heap hx45 hbx
  have hb02:b2≠b0:=by omega
  have hwb2:w.heap.size<=b2:=by omega
  have n8:∀t,o=some t->¬zbJ t.A b2:=I.no (by omega)
  refine⟨zb (fun hr=> ?_) (fun hr=>⟨(o,was),rfl,⟨I5,fun h=>by rw[hxr]at hr;exact absurd (h.symm.trans hr) (by decide),hbx5,hwb2,hb02,n8⟩⟩),?_⟩
  ·have hr':zm e.g wd=true:=hxr.symm.trans hr
   obtain⟨r1,r2,r3,r4, -, -, -⟩:=ZY hr'
   obtain⟨W,hW⟩:∃W:Nat,e.g.w=(W:Int):=⟨e.g.w.toNat,by omega⟩
   obtain⟨H,hH⟩:∃H:Nat,e.g.h=(H:Int):=⟨e.g.h.toNat,by omega⟩
   have hWH:W<=1024/\H<=1024:=by omega
   have NEW:∀(A:GlP) (w6:World),(Ext w5 w6/\A.B=w5.heap.size/\RlIn w6 A (zaO W H wd) []/\RlRd w6 A ⟨#[]⟩)->∀w7,w7.heap[b0]? =some (.cells #[.int .i64 (-1), .int .i64 0, .slice none 0 0, .int .i64 0, .int .i64 0] 24)->Fr (fun q=>q=b0) w6 w7->
    ∃c2:Option DfA×GrE,Value.pointer (some ⟨A.p,0,none⟩)= .pointer (Qk c2.1)/\DfJ ⟨ad,c,l,wd⟩ w i c2.1 c2.2 e w7 b0 b2:=by
     rintro A w6 ⟨hx56,hB,hG,hR⟩ w7 hb7 hf7
     have hx6:=Ext.trans I5.ext hx56
     have s5:=I5.ext.size
     have l0:=zv I5.box
     have l2:=zv hbx5
     have k:RlAt w6 A (zaO W H wd) [] 0 ⟨#[]⟩:=⟨⟨hG,zsq hWH.1 hWH.2 wd,Nat.zero_le _,fun h=>(by cases h),Nat.zero_le _⟩,hR⟩
     have hlow:∀q,zbJ A q->w5.heap.size<=q:=fun q hq=>by have:=(k.lt q hq).1;omega
     have k':=k.base (B0:=w.heap.size) (by omega) (fun w'' h'=>hU.1 w'' (Below.trans hx6 h'))
     have n0:¬zbJ {A with B:=w.heap.size} b0:=fun hh=>by have:=hlow b0 hh;omega
     have n2:¬zbJ {A with B:=w.heap.size} b2:=fun hh=>by have:=hlow b2 hh;omega
     have k7:=k'.keep hf7 (fun q hq=>by subst hq;exact⟨I.hb,n0⟩)
     refine⟨(some ⟨{A with B:=w.heap.size},zaO W H wd,[],0⟩,noE),rfl,⟨⟨I.le,I.l12,zhn hf7 hx6 (fun q hq=>by have:=I.hb;omega),I.hb,hb7,CellsAt.nil _ _,Nat.zero_le _,fun t ht=> ?_⟩,fun _=>⟨_,rfl,hW.symm,hH.symm⟩,?_,hwb2,hb02,fun t ht=> ?_⟩⟩
     ·obtain rfl:=Option.some.inj ht
      exact⟨⟨rfl,k7.rk,k7.rd,Nat.zero_le _,rfl,rfl,n0⟩, .inl rfl⟩
     ·exact(hf7.block b2 (zv (Ext.heap hx56 hbx5)) hb02).trans (Ext.heap hx56 hbx5)
     ·obtain rfl:=Option.some.inj ht
      exact n2
   refine zb (fun _=> ?n1) (fun ho=>⟨_,(za I5.box 0).trans rfl,_,(za hbx5 0).trans rfl,zb (fun _=> ?n2) (fun h2=>⟨_,(za I5.box 1).trans rfl,_,(za hbx5 1).trans rfl,zb (fun _=> ?n3) (fun h3=> ?keep)⟩)⟩)
   case n1|n2|n3=>
     refine⟨_,(za hbx5 0).trans rfl,_,(za hbx5 1).trans rfl,(W,H,wd),by dsimp only;rw[hW,hH],⟨(hU.ext I5.ext).1,hWH.1,hWH.2⟩,?_⟩
     intro A w6 hA
     exact zsc (Ext.heap hA.1 I5.box) (fun w7 hb7 hf7=>NEW A w6 hA w7 hb7 hf7)
   case keep=>
     cases o with
     |none=>cases ho
     |some t=>
      have h2':was.g.w=e.g.w:=by simpa using h2
      have h3':was.g.h=e.g.h:=by simpa using h3
      have hs:qa (qQ t.g) was.g=true:=(I5.gl t rfl).2.resolve_left (fun h=>by omega)
      have s:=QS hs
      exact⟨(some t,was),rfl,⟨I5,fun _=>⟨t,rfl,(show(t.g.w:Int)=was.g.w from s.1).trans h2',(show(t.g.h:Int)=was.g.h from s.2.1).trans h3'⟩,hbx5,hwb2,hb02,n8⟩⟩
  clear I I4 I5 hbx hbx5 hn4 z4 hx45 h0lt hw0 n8
  rintro - ⟨o2,was2⟩ w6 J
  have J:DfJ ⟨ad,c,l,wd⟩ w i o2 was2 e w6 b0 b2:=J
  refine(Z4 J.is.box).load ?_
  intro b3 w7 hn7
  have z7:=hn7.size
  have J7:=J.next hn7.ext
  have hf7:zb3 w7 b3 was2:=hn7.heap
  have h0lt:=zv J.is.box
  have h2lt:=zv J.bx
  have hw6:=J.is.ext.size
  have no3:∀t,o2=some t->¬zbJ t.A b3:=J.is.no (by omega)
  have K7:DfK ⟨ad,c,l,wd⟩ w i o2 was2 e was2 w7 b0 b2 b3:=⟨J7, .inl rfl,hf7,J.is.cs,J.is.bk,by omega,⟨by omega,by omega⟩,no3⟩
  refine⟨⟨by omega,by decide,zb (fun _=>⟨_,(za K7.is.bx 1).trans rfl,?_⟩) (fun _=>⟨⟨o2,was2,was2⟩,rfl,K7⟩)⟩,?_⟩
  ·refine zsc hf7 (fun w8 hb8 hf8=> ?_)
   have J8:=J7.keep hf8 (fun q hq=>by subst hq;exact⟨K7.lt,K7.ne.1,K7.ne.2,no3⟩)
   exact⟨⟨o2,was2,⟨none,0,⟨-1,e.g.h,[],0,0⟩⟩⟩,rfl,⟨J8, .inr rfl,hb8,CellsAt.nil _ _,Nat.zero_le _,K7.lt,K7.ne,no3⟩⟩
  clear J J7 K7 hf7 hn7 z7 h0lt h2lt hw6 no3
  rintro - ⟨o3,was3,f⟩ w8 ⟨hp3,K⟩
  have hp3:Qk o2=Qk o3:=by injection hp3
  have K:DfK ⟨ad,c,l,wd⟩ w i o3 was3 e f w8 b0 b2 b3:=K
  have hx8:Ext w w8:=K.is.is.ext
  have hU8:=hU.ext hx8
  have iF:CellsAt w8 f.ad (zE f.g.cs)/\zi f.g.cs<=1048576:=⟨K.cs.ext hx8,by have:=K.bk;omega⟩
  have iE:CellsAt w8 e.ad (zE e.g.cs)/\zi e.g.cs<=1048576:=⟨hce.ext hx8,by omega⟩
  refine⟨?_,?_⟩
  ·have S:S3 (g3F ⟨ad,c,l,wd⟩ f e) w8 b3 b2 [] none none w8:=⟨Ext.refl _,K.bx,K.is.bx,iF,iE,(fun _ h=>by cases h),List.nodup_nil,(fun _ h=>by cases h),(fun _ h=>by cases h)⟩
   have FIN:∀{p q:Nat} {w2:World},(∃c4:RtX,Value.pointer (some ⟨p,0,none⟩)= .pointer (some ⟨c4.b7,0,none⟩)/\Value.pointer (some ⟨q,0,none⟩)= .pointer (some ⟨c4.b8,0,none⟩)/\RtF (g3F ⟨ad,c,l,wd⟩ f e) w8 c4 w2/\Value.pointer (some ⟨b3,0,none⟩)= .pointer (some ⟨c4.b3,0,none⟩)/\Value.pointer (some ⟨b2,0,none⟩)= .pointer (some ⟨c4.b4,0,none⟩))->
    ∃c7:DkX×RtX,Value.pointer (some ⟨p,0,none⟩)= .pointer (some ⟨c7.2.b7,0,none⟩)/\Value.pointer (some ⟨q,0,none⟩)= .pointer (some ⟨c7.2.b8,0,none⟩)/\Value.pointer (Qk o2)= .pointer (Qk c7.1.o)/\DfK ⟨ad,c,l,wd⟩ w i c7.1.o c7.1.was e c7.1.f w2 b0 b2 b3/\RtF (g3F ⟨ad,c,l,wd⟩ c7.1.f e) w8 c7.2 w2/\Value.pointer (some ⟨b3,0,none⟩)= .pointer (some ⟨c7.2.b3,0,none⟩)/\Value.pointer (some ⟨b2,0,none⟩)= .pointer (some ⟨c7.2.b4,0,none⟩):=
     fun⟨c4,q1,q2,R,q3,q4⟩=>⟨(⟨o3,was3,f⟩,c4),q1,q2,by rw[hp3],K.next R.ext,R,q3,q4⟩
   refine S.drew fun w9 S9=> ?_
   refine(Z4 S.b3).load ((Z4 S.b4).load ?_)
   clear S
   repeat' first
     |assumption
     |refine⟨by assumption,?_⟩
     |refine S3.new (by assumption) (fun z w' S'=> ?_)
     |refine S3.tw7 (by assumption) (fun a c w' S' hB=> ?_)
     |refine S3.tw8 (by assumption) (fun a c w' S' hB=> ?_)
     |refine zsc (S3.zero (by assumption) (by simp)) (fun w1 hb1 hf1=>zsc (S3.zero2 (by assumption) (by first|exact .inl rfl|exact .inr rfl) hf1) (fun w2 hb2 hf2=>FIN (S3.fin (by assumption) (by first|exact .inl rfl|exact .inr rfl) hb1 hf1 hb2 hf2)))
     |refine⟨?_,?_⟩
  clear iF K
  rintro - ⟨⟨o4,was4,f4⟩,x⟩ w9 ⟨hp4,K,R,hq3,hq4⟩
  have hp4:Qk o2=Qk o4:=by injection hp4
  dsimp only at K R hq3 hq4⊢
  have e3:b3=x.b3:=zsd hq3
  have e4:b2=x.b4:=zsd hq4
  have K:DfK ⟨ad,c,l,wd⟩ w i o4 was4 e f4 w9 b0 b2 b3:=K
  have iF:CellsAt w8 f4.ad (zE f4.g.cs)/\zi f4.g.cs<=1048576:=⟨K.cs.ext hx8,by have:=K.bk;omega⟩
  have P:RtP (g3F ⟨ad,c,l,wd⟩ f4 e) w8 x w9:=⟨R,hU8,iF,iE⟩
  clear hq3 hq4 R
  subst e3 e4
  have hU9:=hU.ext K.is.is.ext
  refine(Z4 P.r.b7).load ((Z4 P.r.b8).load ⟨⟨x.a7,x.c7,f4.g,x.a8,x.c8,e.g,wd⟩,rfl,⟨hU9.1,hU9.2,P.n7,P.n8,⟨iF.2,iE.2,hse⟩⟩,?_⟩)
  rintro⟨a10,n10,c10⟩ w10 hm
  dsimp only at hm⊢
  have P10:=P.next hm.ext
  have K10:=K.next hm.ext
  have hlen:n10=((Zb f4.g e.g wd).getD ⟨#[]⟩).size:=zp0 hm
  clear P K hU9
  refine⟨?_,?_⟩
  ·refine(Z4 P10.r.b7).load ((Z4 P10.r.b3).load ⟨⟨x.a7,x.c7,f4.ad,f4.c,f4.g⟩,rfl,⟨P10.r.t7,P10.r.l7,P10.n1⟩,fun _ w11 hx11=> ?_⟩)
   have P11:=P10.next hx11
   refine(Z4 P11.r.b8).load ((Z4 P11.r.b4).load ⟨⟨x.a8,x.c8,e.ad,e.c,e.g⟩,rfl,⟨P11.r.t8,P11.r.l8,P11.n2⟩,fun _ w12 hx12=> ?_⟩)
   have P12:=P11.next hx12
   refine(Z4 P12.r.b3).load ((Z4 P12.r.b4).load ⟨⟨f4.ad,f4.c,f4.g,e.ad,e.c,e.g,wd⟩,rfl,⟨(P12.u.ext P12.r.ext).ud,P12.n1,P12.n2⟩,?_⟩)
   rintro x6 w13 ⟨hx6,hx13⟩
   dsimp only at hx6
   have hle:=zwq (a:=f4.g) (b:=e.g) (wd:=wd) hse
   refine zb (fun h=> ?_) (fun _=>⟨(),Ext.trans hx11 (Ext.trans hx12 hx13)⟩)
   have h:=of_decide_eq_true h
   omega
  rintro - - w11 hx11
  have P11:=P10.next hx11
  have K11:=K10.next hx11
  have END:∀{w':World},Ext w11 w'->Zb f4.g e.g wd=none->zc ((n10:Int) !=0) (∃_:Unit,Value.bool false=Value.bool true/\Ext w w') (InR .i64 ((i:Int)+1)/\∃y:DfX,Value.int .i64 ((i:Int)+1)= .int .i64 (y.i:Int)/\Value.pointer (Qk o2)= .pointer (Qk y.o)/\DfI ⟨ad,c,l,wd⟩ w y.i y.o y.was w' b0/\l.length - y.i<l.length - i):=fun{w'} hx hn=>by
    rw[hn]at hlen
    have hlen:n10=0:=hlen
    subst hlen
    exact zb (fun h=>by cases h) (fun _=>⟨hin,⟨i+1,o4,was4⟩,rfl,by rw[hp4],(K11.is.is.next hx).up hlt,by dsimp only;omega⟩)
  refine⟨zb (fun hnr=>END (Ext.refl _) ?_) (fun hr=> ?_),?_⟩
  ·have hnr:zm e.g wd=false:=by rw[<-hxr];simpa using hnr
   unfold Zb
   rw[if_pos (.inl hnr)]
  ·have hr:x2=true:=by simpa using hr
   refine(Z4 P11.r.b3).load ⟨⟨f4.ad,f4.c,f4.g,wd⟩,rfl,⟨(P11.u.ext P11.r.ext).ud,P11.n1⟩,?_⟩
   rintro x4 w12 ⟨hx4,hx12⟩
   dsimp only at hx4
   refine zb (fun h4=> ?_) (fun _=>⟨(),hx12,by rw[hr]⟩)
   have P12:=P11.next hx12
   refine(Z4 P12.r.b3).load ((Z4 P12.r.b4).load ⟨⟨f4.ad,f4.c,f4.g,e.ad,e.c,e.g⟩,rfl,⟨P12.n1,P12.n2⟩,?_⟩)
   rintro x5 w13 ⟨hx5,hx13⟩
   dsimp only at hx5
   exact zb (fun h5=>END (Ext.trans hx12 hx13) (zqp (hx4.symm.trans h4) (hx5.symm.trans h5))) (fun _=>⟨(),Ext.trans hx12 hx13,by rw[hr]⟩)
  clear END
  rintro - - w12 ⟨hx12,hx2t⟩
  have hr:zm e.g wd=true:=hxr.symm.trans (by injection hx2t)
  have K12:=K11.next hx12
  have hx10_12:Ext w10 w12:=Ext.trans hx11 hx12
  clear K10 K11 P10 P11
  obtain⟨t,rfl,tw,th⟩:=K12.is.rt hr
  obtain⟨D, -⟩:=K12.is.is.gl t rfl
  have D:dfG w wd i b0 t w12:=D
  obtain⟨s,hs,v1,vs,v2,v3⟩:=zqo (a:=f4.g) (b:=e.g) (wd:=wd) D.rk.ok D.stt D.wd tw th hr hse (K12.kn rfl) (by omega)
  rw[hs]at hm hlen
  subst hlen
  have hpt:Qk o2=some ⟨t.A.p,0,none⟩:=hp4
  have mb:=D.mb
  have hfd:=zlB v1
  have hes:(⟨#[]⟩:ByteArray)++s=s:=ByteArray.empty_append
  have hlf:=zd3 ((⟨#[]⟩:ByteArray)++s)
  rw[hes,hfd.1]at hlf
  refine⟨⟨t.A,t.g,t.m,t.hl,⟨#[]⟩,a10,c10,s⟩,by rw[hpt],⟨D.rk,D.rd,hm.row.cells.ext hx10_12,by dsimp only;omega,by dsimp only;omega⟩,?_⟩
  rintro⟨A13,hl13⟩ w13 F
  dsimp only at F
  have k13:RlAt w13 A13 (zH t.g (ZF (⟨#[]⟩++s))) hl13 (t.m+(ZF (⟨#[]⟩++s)).length) (fdH (⟨#[]⟩++s)):=⟨F.is,F.rd⟩
  have hp13:A13.p=t.A.p:=F.p
  have hB13:A13.B=w.heap.size:=F.b.trans D.b
  have hx13:Ext w w13:=zgk F.st K12.is.is.ext (fun q hq=>by have:=(RlAt.lt (⟨D.rk,D.rd⟩:RlAt w12 t.A t.g t.hl t.m ⟨#[]⟩) q hq).1;have:=D.b;omega)
  have hb2_13:zb3 w13 x.b4 e:=(F.st.fr.block x.b4 (zv K12.is.bx) (K12.is.n8 t rfl)).trans K12.is.bx
  have hb0_13:zb3 w13 b0 was4:=(F.st.fr.block b0 (zv K12.is.is.box) D.n6).trans K12.is.is.box
  have hn0:¬zbJ A13 b0:=fun h=>(F.st.dom b0 h).2.elim D.n6 (fun h=>by have:=zv K12.is.is.box;omega)
  rw[hes,hfd.1,hfd.2]at k13
  have hwd13:(zH t.g (zo s)).wd=wd:=(znm (zo s) t.g).2.2.trans D.wd
  generalize hG2:zH t.g (zo s)=G2 at k13 v2 v3 hwd13
  have hpt13:Qk o2=some ⟨A13.p,0,none⟩:=by rw[hpt,hp13]
  have hsam:Zx G2.cs e.g.cs=true:=(QS v2).2.2.2.2
  have hbG:zi G2.cs<=67108864:=by have:=(zkz hsam).1;omega
  refine⟨?_,?_⟩
  ·intro w14 hd14
   have k14:=k13.ext hd14.ext
   refine(Z4 hb2_13).load ⟨⟨A13,G2,hl13⟩,by rw[hpt13],⟨k14.rk.gl,k14.rk.ok.fit (by omega)⟩,?_⟩
   rintro⟨⟨a15,c15⟩,gr⟩ w15 ⟨hgr15,hm15⟩
   dsimp only at hgr15 hm15
   subst hgr15
   have hx15:Ext w13 w15:=Ext.trans hd14.ext hm15.ext
   refine⟨hm15.ext,⟨a15,c15,qQ G2,e.ad,e.c,e.g⟩,rfl,⟨⟨hm15.row.cells,hbG⟩,⟨hce.ext (Ext.trans hx13 hx15),by dsimp only;omega⟩⟩,?_⟩
   rintro x6 w16 ⟨h6,hx16⟩
   dsimp only at h6
   rw[v2]at h6
   subst h6
   exact zb (fun h=>by cases h) (fun _=>⟨(),Ext.trans hx15 hx16⟩)
  rintro - - w14 hx14
  refine(Z4 (Ext.heap hx14 hb2_13)).load ?_
  refine zsc (Ext.heap hx14 hb0_13) (fun w15 hb15 hf15=> ?_)
  have k15:=(k13.ext hx14).keep hf15 (fun q hq=>by subst hq;exact⟨by rw[hB13];exact K12.is.is.hb,hn0⟩)
  refine⟨hin,⟨i+1,some ⟨A13,G2,hl13,t.m+(zo s).length⟩,e⟩,rfl,by rw[hpt13];rfl,⟨hlt,h12,zhn hf15 (Ext.trans hx13 hx14) (fun q hq=>by have:=K12.is.is.hb;omega),K12.is.is.hb,hb15,hce,hbe,fun t' ht'=> ?_⟩,by dsimp only;omega⟩
  obtain rfl:=Option.some.inj ht'
  exact⟨⟨hB13,k15.rk,k15.rd,by dsimp only;omega,v3,hwd13,hn0⟩, .inr v2⟩
end

section
namespace Lw
open Go Go.RowKit Go.ChangeShapes Go.WideShapes Go.ChangeAt Vc
section
variable {H : Type} {enc : TypeId × Value → H} {P : Program}
theorem zcY(hl:laidOutB P=true){W W':World}(hx:Below W.heap.size W W'){sp:Nat->Bool}:∀{ts:List TypeId} {vs:List Value} {ds:List (DataW H)} {p:List MemPlace},
    ts.all (fun t=>P.readableRec t&&decide (t<P.types.size))=true->DataW.TrodAll enc P W 0 (fun _=>true) true ts vs ds p->(∀x∈p,x.block<W.heap.size)->(∀x∈p,sp x.block=true)->DataW.TrodAll enc P W' 0 sp true ts vs ds p
  |[],vs,ds,p,_,h,_,_=>by
   obtain⟨rfl,rfl,rfl⟩:=trodAll_nil h
   exact trodAll_mk0
  |t::ts,vs,ds,p,hp,h,hlt,hs=>by
   obtain⟨v,vs',d,ds',a,b,rfl,rfl,rfl,h1,h2⟩:=trodAll_cons h
   simp only[List.all_cons,Bool.and_eq_true,decide_eq_true_eq]at hp
   have h3:=WideElems.Trod_stays (sp':=sp) hl hp.1.1 hp.1.2 h1 (fun x hx'=>hx.same (hlt x (by simp[hx']))) (fun x hx'=>hs x (by simp[hx']))
   exact⟨a,b,h3,zcY hl hx (by simpa using hp.2) h2 (fun x hx'=>hlt x (by simp[hx'])) (fun x hx'=>hs x (by simp[hx'])),rfl⟩
theorem zse{f:Func}{s:ChangeSpec}{apart fresh handsOn again:Bool}{W W':World}{args:Array Value}{ds gs:List (DataW H)}{before:List MemPlace}{tb:TypeId}(hW:DataW.Whole enc P f.params.toList s.vars apart W args.toList ds gs before)(hvars:s.vars=[])
    (hfn:s.fn H ds={results:=[.lit (.bool true)],args:=ds}) (hres:f.resultTypes= #[tb]) (htb:P.underlying tb=some .bool) (hl:laidOutB P=true) (hp:f.params.toList.all (fun t=>P.readableRec t&&decide (t<P.types.size))=true) (hx:Below W.heap.size W W'):
    s.post enc P f apart fresh handsOn again W args (.bool true) W':=by
  have hW0:=hW
  obtain⟨pa,pv,hA,hV,rfl,hz,hn⟩:=hW
  rw[hvars]at hV
  obtain⟨rfl,rfl⟩:=trodVars_none hV
  simp only[List.append_nil]at hW0 hz hn
  have hlt:∀x∈pa,x.block<W.heap.size:=fun x hx=>by simpa using hW0.lt x hx
  have hr:∀(b:Nat) (sp:Nat->Bool) (hd:Bool),DataW.TrodAll enc P W' b sp hd f.resultTypes.toList ((Value.bool true).resultList f.resultTypes.size) (s.fn H (ds++[])).results []:=by
    intro b sp hd
    rw[List.append_nil,hfn,hres]
    exact trodAll_cons_mk (shut_bool htb _) trodAll_mk0
  have ha:∀sp:Nat->Bool,(∀p∈pa,sp p.block=true)->DataW.TrodAll enc P W' 0 sp true f.params.toList args.toList (s.fn H (ds++[])).args pa:=by
    intro sp hs
    rw[List.append_nil,hfn]
    exact zcY hl hx hp hA hlt hs
  have hv:∀sp:Nat->Bool,DataW.TrodVars enc P W' sp s.vars (s.fn H (ds++[])).vars []:=by
    intro sp
    rw[List.append_nil,hfn,hvars]
    rfl
  refine⟨ds,[],pa,[],pa,[],hW0,hr _ _ _,ha _ (fun p hp=>by simpa using hlt p hp),hv _,World.keptBut_mono (fun p hp=>⟨hp, .inr (.inl hp)⟩) (hx.frame _),fun _=> ?_⟩
  refine⟨ok_one hres rfl (okWide_bool_mk htb _),_,_,([]++pa)++[],⟨[]++pa,[],trodAll_append (ha _ (fun _ _=>rfl)) (hr _ _ _),hv _,rfl,?_,?_⟩,?_⟩
  ·intro b off hp
   have hp':MemPlace.cell b off∈pa:=by simpa using hp
   rw[hx.frozen (hlt _ hp')]
   exact hz b off hp'
  ·intro ha'
   have:=hn ha'
   simpa using this
  ·intro p hp _
   simpa using hp
theorem zp5{f:FuncId}{fn:Func}{s:ChangeSpec}{apart fresh handsOn again:Bool}{W:World}{args:Array Value}{ds gs:List (DataW H)}{before:List MemPlace}{tb:TypeId}(hW:DataW.Whole enc P fn.params.toList s.vars apart W args.toList ds gs before)(hvars:s.vars=[])
    (hfn:s.fn H ds={results:=[.lit (.bool true)],args:=ds}) (hres:fn.resultTypes= #[tb]) (htb:P.underlying tb=some .bool) (hl:laidOutB P=true) (hp:fn.params.toList.all (fun t=>P.readableRec t&&decide (t<P.types.size))=true)
    (h:Calls P f args W fun e W'=>e= .returned (.bool true)/\Below W.heap.size W W'):
    Calls P f args W fun e W'=>∃v,e= .returned v/\s.post enc P fn apart fresh handsOn again W args v W':=
  h.mono fun e W' ⟨he,hx⟩=>⟨_,he,zse hW hvars hfn hres htb hl hp hx⟩
end
end Lw
end

section
namespace Bulk
open Go
theorem one_le{H:Type}(d:DataW H):1<=Rows.uptoBulk d:=by
  cases d with
  |lit l=>cases l<;>simp[Rows.uptoBulk]
  |_=>simp only[Rows.uptoBulk];omega
theorem part_le{H:Type}{d:DataW H}{l:List (DataW H)}(h:d∈l):Rows.uptoBulk d<=Rows.uptoBulkAll l:=by
  induction l with
  |nil=>cases h
  |cons x r ih=>
   simp only[Rows.uptoBulkAll]
   rcases List.mem_cons.1 h with rfl|h
   ·omega
   ·have:=ih h;omega
theorem small{H:Type}{l:List (DataW H)}(hk:Rows.uptoSmall H l=true):Rows.uptoBulkAll l<=1048576:=of_decide_eq_true hk
end Bulk
end

section
namespace Lg
open Go Go.RowKit Go.ChangeShapes Go.WideShapes Go.ChangeAt Vc Lw
theorem ze4{α:Type}{R:Nat->α->Prop}:∀(n:Nat),(∀i,i<n->∃q,R i q)->∃l:List α,l.length=n/\∀i q,l[i]? =some q->R i q
  |0,_=>⟨[],rfl,by simp⟩
  |n+1,h=>by
   obtain⟨l,h1,h2⟩:=ze4 n (fun i hi=>h i (by omega))
   obtain⟨q,hq⟩:=h n (by omega)
   refine⟨l++[q],by simp[h1],fun i x hx=> ?_⟩
   by_cases hi:i<n
   ·rw[List.getElem?_append_left (by omega)]at hx;exact h2 i x hx
   ·rw[List.getElem?_append_right (by omega),h1]at hx
    have hz:i - n=0:=by
      cases hk:i - n with
      |zero=>rfl
      |succ k=>rw[hk]at hx;simp at hx
    rw[hz]at hx
    simp only[List.getElem?_cons_zero,Option.some.injEq]at hx
    subst hx
    rw[show i=n from by omega];exact hq
def QZ(P:Program)(t:TypeId)(k:Nat):Bool:=match P.underlying t,k with
  |some .string,0=>true
  |some (.int .i8),1=>true
  |some (.int .i64),2=>true
  |some .bool,3=>true
  |some (.int .u16),4=>true
  |_,_=>false
def zbj(kd:TypeId->Nat->Bool)(P:Program)(e:TypeId)(ks:List Nat):Bool:=match P.underlying e with
  |some (.struct fs)=>fs.size==ks.length&&(List.range ks.length).all fun i=>match fs[i]?,ks[i]? with
   |some f,some k=>f.offset==i&&(P.cellsOf f.type==1&&kd f.type k)
   |_,_=>false
  |_=>false
def zjR(P:Program)(t:TypeId):Bool:=match P.underlying t with
  |some (.slice e)=>P.cellsOf e==6&&zbj (QZ P) P e [0,1,2,2,3,4]
  |_=>false
def zx6(P:Program)(t:TypeId)(k:Nat):Bool:=if k=5 then zjR P t else QZ P t k
def zjQ(P:Program)(e:TypeId):Bool:=P.cellsOf e==5&&zbj (zx6 P) P e [2,2,5,2,2]
theorem zsi{kd:TypeId->Nat->Bool}{P:Program}{e:TypeId}{ks:List Nat}(h:zbj kd P e ks=true):∃fs,P.underlying e=some (.struct fs)/\fs.size=ks.length/\∀(i:Nat) (k:Nat),ks[i]? =some k->∃f,fs[i]? =some f/\f.offset=i/\P.cellsOf f.type=1/\kd f.type k=true:=by
  unfold zbj at h
  split at h
  case h_2=>cases h
  rename_i fs hu
  simp only[Bool.and_eq_true,beq_iff_eq]at h
  refine⟨fs,hu,h.1,fun i k hk=> ?_⟩
  have hi:i<ks.length:=(List.getElem?_eq_some_iff.1 hk).1
  have:=List.all_eq_true.1 h.2 i (List.mem_range.2 hi)
  rw[hk]at this
  split at this
  ·rename_i f k' h1 h2
   cases h2
   simp only[Bool.and_eq_true,beq_iff_eq]at this
   exact⟨f,h1,this.1,this.2.1,this.2.2⟩
  ·cases this
section
variable {H : Type} {enc : TypeId × Value → H} {P : Program} {W : World} {base : Nat}
theorem zpn{W:World}{b o:Nat}{sp:Option Nat}{v:Value}(h:W.cell? ⟨b,o,sp⟩=some v):sp=none:=by
  cases sp with
  |none=>rfl
  |some q=>
   simp only[World.cell?]at h
   split at h<;>simp at h
theorem zqt{α:Type}(f:Nat->DataW H)(g:α->Nat):∀(l:List α),(∀i (x:α),l[i]? =some x->g x<=Rows.uptoBulk (f i))->(l.map g).sum<=Rows.uptoBulkAll ((List.range l.length).map f):=by
  intro l
  induction l generalizing f with
  |nil=>intro _;exact Nat.zero_le _
  |cons x l ih=>
   intro h
   have h1:=ih (fun i=>f (i+1)) (fun i y hy=>h (i+1) y (by simpa using hy))
   have h0:=h 0 x rfl
   rw[List.length_cons,List.range_succ_eq_map,List.map_cons,List.map_cons,List.map_map,List.sum_cons]
   show g x+_<=Rows.uptoBulk (f 0)+Rows.uptoBulkAll ((List.range l.length).map (f∘Nat.succ))
   exact Nat.add_le_add h0 h1
theorem zpe{b0:Nat}{t e:TypeId}{v:Value}(ht:P.underlying t=some (.slice e))(hval:Value.okWide P W .any b0 t v):∀(a:Option Addr) (n c:Nat),v.cells.toList=[.slice a n c]->v= .slice a n c:=by
  intro a n c hu
  cases v<;>simp_all[Value.cells]
  rename_i cs
  simp only[Value.okWide,ht]at hval
  simp[Cell.okWide,Cell.ok,ht]at hval
theorem rows_in{α:Type}{f:α->List Value}{s:Nat}{Good:α->Prop}{g:α->Nat}{fuel:Nat}{t e:TypeId}{vs:List Value}{x:DataW H×List MemPlace}(ht:P.underlying t=some (.slice e))(ce:P.cellsOf e=s)(hs:0<s)(hf:∀q,(f q).length=s)
    (elem:∀n cs y,DataW.trod enc P W base (fun _=>true) true n e cs=some y->∃q,cs=f q/\Good q/\g q<=Rows.uptoBulk y.1)
    (h:DataW.trod enc P W base (fun _=>true) true fuel t vs=some x):∃(ad:Option Addr) (c:Nat) (l:List α),vs=[.slice ad l.length c]/\CellsAt W ad (l.flatMap f)/\(∀q∈l,Good q)/\(l.map g).sum<=Rows.uptoBulk x.1:=by
  rcases Go.Deep.open_slice ht h with⟨h1,h2⟩|⟨a,len,cap,m,n,D,Pl,h1,h2,h3,h4,h5,h6,h7⟩
  ·exact⟨none,0,[],h1,CellsAt.nil _ _,fun q hq=>(by cases hq),Nat.zero_le _⟩
  ·simp only[if_true]at h5
   obtain⟨l,hl,hR⟩:=ze4 (R:=fun i (q:α)=>(∀j,j<s->W.cell? (a.add (i*s+j))=(f q)[j]?)/\Good q/\g q<=Rows.uptoBulk (D i)) len (fun i hi=>by
     obtain⟨cs',k1,k2⟩:=h7 i (by omega)
     rw[ce]at k1
     obtain⟨_,_,hcell⟩:=World.cells?_some k1
     obtain⟨q,e1,e2,e3⟩:=elem _ _ _ k2
     subst e1
     exact⟨q,fun j hj=>by rw[<-Go.Deep.add_add];exact hcell j hj,e2,e3⟩)
   refine⟨some a,cap,l,by rw[h1,hl],?_,fun x hx=> ?_,?_⟩
   ·by_cases hz:len=0
    ·left
     have:l=[]:=List.eq_nil_of_length_eq_zero (by omega)
     rw[this];rfl
    ·have hq0:l[0]? =some (l[0]'(by omega)):=List.getElem?_eq_getElem (by omega)
     have h0:=(hR 0 _ hq0).1 0 hs
     obtain⟨b,o,sp⟩:=a
     have hsome:∃v,(f (l[0]'(by omega)))[0]? =some v:=⟨_,List.getElem?_eq_getElem (by rw[hf];exact hs)⟩
     obtain⟨v,hv⟩:=hsome
     rw[hv]at h0
     have hsp:sp=none:=zpn (b:=b) (o:=o+(0*s+0)) (by rw[<-h0];congr 1;unfold Addr.add;simp)
     subst hsp
     refine .inr ⟨b,o,rfl,fun j u hj=> ?_⟩
     have hj1:=(List.getElem?_eq_some_iff.1 hj).1
     rw[ziw hf,hl]at hj1
     have hdm:=Nat.div_add_mod j s
     have hlt:j / s<l.length:=by rw[hl];exact Nat.div_lt_of_lt_mul (by rw[Nat.mul_comm];exact hj1)
     have hq:l[j / s]? =some (l[j / s]'hlt):=List.getElem?_eq_getElem hlt
     have hat:=zcL (j:=j%s) hf hq (Nat.mod_lt _ hs)
     have he:j / s*s+j%s=j:=by rw[Nat.mul_comm];exact hdm
     rw[he,hj]at hat
     have:=(hR _ _ hq).1 (j%s) (Nat.mod_lt _ hs)
     rw[he,<-hat,add_lit]at this
     exact this
   ·obtain⟨i,hi⟩:=List.mem_iff_getElem?.1 hx
    exact(hR i x hi).2.1
   ·rw[h6]
    simp only[Rows.uptoBulk]
    have:=zqt D g l (fun i x hx=>(hR i x hx).2.2)
    rw[hl]at this
    omega
theorem zkZ{kd:TypeId->Nat->Bool}{e:TypeId}{ks:List Nat}{fuel:Nat}{cs:List Value}{y:DataW H×List MemPlace}(hp:zbj kd P e ks=true)(hc:P.cellsOf e=ks.length)(h:DataW.trod enc P W base (fun _=>true) true fuel e cs=some y):
    ∃(xs:List (DataW H×List MemPlace)),y.1= .agg (xs.map (·.1))/\cs.length=ks.length/\xs.length=ks.length/\
     ∀(i:Nat) k v x,ks[i]? =some k->cs[i]? =some v->xs[i]? =some x->∃n f,kd f k=true/\DataW.trod enc P W base (fun _=>true) true n f [v]=some x:=by
  obtain⟨fs,hu,hn,hf⟩:=zsi hp
  obtain⟨xs,n,_,h1,h2,h3,h4⟩:=DataW.trod_struct hu h
  refine⟨xs,by rw[h1],by omega,by omega,fun i k v x hk hv hx=> ?_⟩
  obtain⟨f,g1,g2,g3,g4⟩:=hf i k hk
  have:=h4 i f g1
  rw[g2,g3,hx]at this
  have hil:=(List.getElem?_eq_some_iff.1 hv).1
  rw[List.drop_eq_getElem_cons hil,show(cs[i]::cs.drop (i+1)).take 1=[cs[i]]from rfl]at this
  rw[List.getElem?_eq_getElem hil]at hv
  cases hv
  exact⟨n,f.type,g4,this⟩
theorem zx8{t:TypeId}(h:QZ P t 0=true):P.underlying t=some .string:=by unfold QZ at h;split at h<;>simp_all
theorem zy6{t:TypeId}(h:QZ P t 1=true):P.underlying t=some (.int .i8):=by unfold QZ at h;split at h<;>simp_all
theorem zeI{t:TypeId}(h:QZ P t 2=true):P.underlying t=some (.int .i64):=by unfold QZ at h;split at h<;>simp_all
theorem zvX{t:TypeId}(h:QZ P t 3=true):P.underlying t=some .bool:=by unfold QZ at h;split at h<;>simp_all
theorem zx7{t:TypeId}(h:QZ P t 4=true):P.underlying t=some (.int .u16):=by unfold QZ at h;split at h<;>simp_all
theorem zqr{e:TypeId}{fuel:Nat}{cs:List Value}{y:DataW H×List MemPlace}(hp:zbj (QZ P) P e [0,1,2,2,3,4]=true)(hc:P.cellsOf e=6)(h:DataW.trod enc P W base (fun _=>true) true fuel e cs=some y):
    ∃q:Ce,cs=ceV q/\q.st<65536/\2+q.t.size<=Rows.uptoBulk y.1:=by
  obtain⟨xs,h1,h2,h3,h4⟩:=zkZ hp hc h
  match cs,h2,xs,h3 with
  |[v0,v1,v2,v3,v4,v5],_,[x0,x1,x2,x3,x4,x5],_=>
   obtain⟨n0,f0,k0,r0⟩:=h4 0 _ _ _ rfl rfl rfl
   obtain⟨n1,f1,k1,r1⟩:=h4 1 _ _ _ rfl rfl rfl
   obtain⟨n2,f2,k2,r2⟩:=h4 2 _ _ _ rfl rfl rfl
   obtain⟨n3,f3,k3,r3⟩:=h4 3 _ _ _ rfl rfl rfl
   obtain⟨n4,f4,k4,r4⟩:=h4 4 _ _ _ rfl rfl rfl
   obtain⟨n5,f5,k5,r5⟩:=h4 5 _ _ _ rfl rfl rfl
   obtain⟨s,e0,d0, -⟩:=DataW.trod_string (zx8 k0) r0
   obtain⟨p,e1, -, -⟩:=DataW.trod_int (zy6 k1) r1
   obtain⟨a,e2, -, -⟩:=DataW.trod_int (zeI k2) r2
   obtain⟨nn,e3, -, -⟩:=DataW.trod_int (zeI k3) r3
   obtain⟨r,e4, -⟩:=DataW.trod_bool (zvX k4) r4
   obtain⟨st,e5, -,w5⟩:=DataW.trod_int (zx7 k5) r5
   injection e0 with e0 _;injection e1 with e1 _;injection e2 with e2 _;injection e3 with e3 _;injection e4 with e4 _;injection e5 with e5 _
   subst e0 e1 e2 e3 e4 e5
   have hw:0<=st/\st<65536:=by
     simp only[Lit.wf,IntKind.min,IntKind.max,IntKind.signed,IntKind.bits,Bool.and_eq_true]at w5
     revert w5
     simp
     omega
   refine⟨⟨s,p,a,nn,r,st.toNat⟩,?_,by show st.toNat<65536;omega,?_⟩
   ·show _=[_,_,_,_,_,Value.int .u16 ((st.toNat:Nat):Int)]
    rw[Int.toNat_of_nonneg hw.1]
   ·have hs:s.data.toList.length=s.size:=Array.length_toList
    rw[h1]
    simp only[List.map_cons,List.map_nil,Rows.uptoBulk,Rows.uptoBulkAll,d0]
    show 2+s.size<=_
    omega
theorem bulk_len(l:List Ce):(l.map fun c=>2+c.t.size).sum=zi l+l.length:=by
  induction l with
  |nil=>rfl
  |cons c l ih=>
   unfold zi at ih⊢
   simp only[List.map_cons,List.sum_cons,List.length_cons,ih]
   omega
theorem zqf{e:TypeId}{fuel:Nat}{cs:List Value}{y:DataW H×List MemPlace}(hg:zjQ P e=true)(h:DataW.trod enc P W base (fun _=>true) true fuel e cs=some y):
    ∃E:GrE,cs=grV E/\(CellsAt W E.ad (zE E.g.cs)/\∀c∈E.g.cs,c.st<65536)/\zi E.g.cs+E.g.cs.length<=Rows.uptoBulk y.1:=by
  unfold zjQ at hg
  simp only[Bool.and_eq_true,beq_iff_eq]at hg
  obtain⟨xs,h1,h2,h3,h4⟩:=zkZ hg.2 hg.1 h
  match cs,h2,xs,h3 with
  |[v0,v1,v2,v3,v4],_,[x0,x1,x2,x3,x4],_=>
   obtain⟨n0,f0,k0,r0⟩:=h4 0 _ _ _ rfl rfl rfl
   obtain⟨n1,f1,k1,r1⟩:=h4 1 _ _ _ rfl rfl rfl
   obtain⟨n2,f2,k2,r2⟩:=h4 2 _ _ _ rfl rfl rfl
   obtain⟨n3,f3,k3,r3⟩:=h4 3 _ _ _ rfl rfl rfl
   obtain⟨n4,f4,k4,r4⟩:=h4 4 _ _ _ rfl rfl rfl
   obtain⟨a0,e0, -, -⟩:=DataW.trod_int (zeI k0) r0
   obtain⟨a1,e1, -, -⟩:=DataW.trod_int (zeI k1) r1
   obtain⟨a3,e3, -, -⟩:=DataW.trod_int (zeI k3) r3
   obtain⟨a4,e4, -, -⟩:=DataW.trod_int (zeI k4) r4
   have k2:zjR P f2=true:=k2
   unfold zjR at k2
   split at k2
   case h_2=>cases k2
   rename_i ec hu
   simp only[Bool.and_eq_true,beq_iff_eq]at k2
   obtain⟨ad,c,l,e2,g1,g2,g3⟩:=rows_in (f:=ceV) (s:=6) (Good:=fun q:Ce=>q.st<65536) (g:=fun q:Ce=>2+q.t.size) hu k2.1 (by decide) (fun _=>rfl) (fun n cs y hy=>zqr k2.2 k2.1 hy) r2
   rw[bulk_len]at g3
   injection e0 with e0 _;injection e1 with e1 _;injection e2 with e2 _;injection e3 with e3 _;injection e4 with e4 _
   subst e0 e1 e2 e3 e4
   refine⟨⟨ad,c,⟨a0,a1,l,a3,a4⟩⟩,rfl,⟨g1,g2⟩,?_⟩
   rw[h1]
   simp only[List.map_cons,List.map_nil,Rows.uptoBulk,Rows.uptoBulkAll]
   show zi l+l.length<=_
   omega
theorem zvL{α:Type}{g:α->Nat}{l:List α}{x:α}(h:x∈l):g x<=(l.map g).sum:=by
  induction l with
  |nil=>cases h
  |cons y l ih=>
   rw[List.map_cons,List.sum_cons]
   rcases List.mem_cons.1 h with rfl|h
   ·omega
   ·have:=ih h;omega
theorem grids_in{b0:Nat}{t e:TypeId}{v:Value}{d:DataW H}{p:List MemPlace}(ht:P.underlying t=some (.slice e))(hg:zjQ P e=true)
    (hval:Value.okWide P W .any b0 t v) (h:DataW.Trod enc P W base (fun _=>true) true t v d p) (hb:Rows.uptoBulk d<=1048576):
    ∃(ad:Option Addr) (c:Nat) (l:List GrE),v= .slice ad l.length c/\grsIn W ad l:=by
  obtain⟨fuel,hf⟩:=h
  have ce:P.cellsOf e=5:=by
    unfold zjQ at hg
    simp only[Bool.and_eq_true,beq_iff_eq]at hg
    exact hg.1
  obtain⟨ad,c,l,e1,g1,g2,g3⟩:=rows_in (f:=grV) (s:=5) (Good:=fun E:GrE=>CellsAt W E.ad (zE E.g.cs)/\∀c∈E.g.cs,c.st<65536) (g:=fun E:GrE=>zi E.g.cs+E.g.cs.length) ht ce (by decide) (fun _=>rfl) (fun n cs y hy=>zqf hg hy) hf
  refine⟨ad,c,l,zpe ht hval _ _ _ e1,⟨g1,fun E hE=>⟨(g2 E hE).1,?_,(g2 E hE).2⟩⟩⟩
  have:=zvL (g:=fun E:GrE=>zi E.g.cs+E.g.cs.length) hE
  dsimp only at this g3
  omega
end
end Lg
end

section
open Go Go.Shelf Go.RowKit Go.Lib
theorem ztr:Rows.laid_unicode_utf8_first=Lib.firstData:=by kernel_rfl
theorem zqX:(Rows.laid_unicode_utf8_acceptRanges:DataW Unit)=Lib.acceptData:=by kernel_rfl
noncomputable def zp6 (os:Os):World:=
  let w0:=World.holding Tryz.prog os ⟨#[], #[],[]⟩
  let put (h:Array Obj) (g:Nat) (cs:Array Value):Array Obj:=h.modify g fun
    | .cells _ t frozen=> .cells cs t frozen
    |o=>o
  let h1:=put w0.heap 0 (Lib.firstTab.map fun z=>Value.int .u8 z).toArray
  let h2:=put h1 1 ((List.range 16).flatMap fun i=>[Value.int .u8 (Lib.accLo i),Value.int .u8 (Lib.accHi i)]).toArray
  {w0 with heap:=h2}
end

section
open Go Go.Shelf Go.RowKit Go.Lib
def zgE:List (String×DataW Unit):=[("math/bits.deBruijn32tab",Rows.laid_math_bits_deBruijn32tab),("math/bits.deBruijn64tab",Rows.laid_math_bits_deBruijn64tab),("internal/strconv.uint64pow10",Rows.laid_internal_strconv_uint64pow10),("unicode/utf8.acceptRanges",Rows.laid_unicode_utf8_acceptRanges),("unicode/utf8.first",Rows.laid_unicode_utf8_first)]
set_option maxRecDepth 100000 in
theorem zzb{W:World}(h:VarReads Tryz.prog W "math/bits.deBruijn64tab" Rows.laid_math_bits_deBruijn64tab):DB W:=by
  obtain⟨g,t,cs,fuel,p,hg,hty,hvar,hd⟩:=h
  obtain rfl:=Option.some.inj ((show Tryz.prog.globalNamed "math/bits.deBruijn64tab" =some 5 by kernel_rfl).symm.trans hg)
  obtain rfl:=Option.some.inj ((show(Tryz.prog.globals[5]?).map (·.type)=some 192 by kernel_rfl).symm.trans hty)
  obtain⟨fuel',d,q,hdi,he⟩:=array_elem (n:=64) (e:=5) (by kernel_rfl) hd 15 (by decide)
  obtain⟨z,hz,hx,_⟩:=DataW.trod_int (k:= .u8) (by kernel_rfl) he
  have hd4:d= .lit (.int .u8 4):=by
    have:(some d:Option (DataW Unit))=some (.lit (.int .u8 4)):=hdi.symm.trans (by kernel_rfl)
    exact Option.some.inj this
  have hz4:z=4:=by
    have:=congrArg (fun x=>x.1) hx
    rw[hd4]at this
    injection this with h1
    injection h1 with _ h2
    exact h2.symm
  subst hz4
  show W.cell? _=_
  rw[World.var?_cell hg hvar 15,<-Array.getElem?_toList]
  have:=congrArg (·[0]?) hz
  rw[show Tryz.prog.cellsOf 5=1 from by kernel_rfl]at this
  simpa[List.getElem?_take,List.getElem?_drop]using this
theorem zyO{W:World}(hL:laidMet Tryz.prog zgE W):U8 W/\DB W:=by
  have h3:=Lib.laidMet.reads hL (n:= "unicode/utf8.first") (d:=Lib.firstData) (by rw[<-ztr];exact .tail _ (.tail _ (.tail _ (.tail _ (.head _)))))
  have h4:=Lib.laidMet.reads hL (n:= "unicode/utf8.acceptRanges") (d:=Lib.acceptData) (by rw[<-zqX];exact .tail _ (.tail _ (.tail _ (.head _))))
  have h5:=Lib.laidMet.reads hL (n:= "math/bits.deBruijn64tab") (d:=Rows.laid_math_bits_deBruijn64tab) (.tail _ (.head _))
  exact⟨utf8Tabs_of_reads Tryz.lays260 ⟨by kernel_rfl,by kernel_rfl,by kernel_rfl,by kernel_rfl,by kernel_rfl,by kernel_rfl,by kernel_rfl⟩ h3 h4,zzb h5⟩
def ztm:DataW Unit->List Value
  | .agg l=>l.filterMap fun
    | .lit (.int k n)=>some (.int k n)
    |_=>none
  |_=>[]
noncomputable def zft (os:Os):World:=
  let w0:=zp6 os
  let put (h:Array Obj) (g:Nat) (cs:Array Value):Array Obj:=h.modify g fun
    | .cells _ t frozen=> .cells cs t frozen
    |o=>o
  let h1:=put w0.heap 4 (ztm Rows.laid_math_bits_deBruijn32tab).toArray
  let h2:=put h1 5 (ztm Rows.laid_math_bits_deBruijn64tab).toArray
  let h3:=put h2 2 (ztm Rows.laid_internal_strconv_uint64pow10).toArray
  {w0 with heap:=h3}
theorem zxJ(os:Os)(args:Array Value):laidMet Tryz.prog zgE ((zft os).forCall (fun _ _=>0) ⟨#[],args,[]⟩).memory:=
  (LaidIn.of_run (l:=zgE) [4,5,2,1,0] 8 (by kernel_rfl) (by kernel_rfl) (by kernel_rfl) (by kernel_rfl)).met
end

section
open Go Go.Shelf Go.RowKit Go.Lib
theorem zxR:(Rows.laid_internal_strconv_uint64pow10:DataW Unit)=Lib.tabData .u64 Lib.pow10Tab:=by kernel_rfl
set_option maxRecDepth 100000 in
theorem zxD{W:World}(h:VarReads Tryz.prog W "internal/strconv.uint64pow10" Rows.laid_internal_strconv_uint64pow10):Lib.TabIs Tryz.prog W "internal/strconv.uint64pow10" .u64 Lib.pow10Tab:=by
  obtain⟨g,t,cs,fuel,p,hg,hty,hvar,hd⟩:=h
  obtain rfl:=Option.some.inj ((show Tryz.prog.globalNamed "internal/strconv.uint64pow10" =some 2 by kernel_rfl).symm.trans hg)
  obtain rfl:=Option.some.inj ((show(Tryz.prog.globals[2]?).map (·.type)=some 183 by kernel_rfl).symm.trans hty)
  rw[zxR]at hd
  have:=Lib.cells_of_tab (n:=20) (e:=143) (k:= .u64) (zs:=Lib.pow10Tab) (by kernel_rfl) (by kernel_rfl) (by kernel_rfl) (by kernel_rfl) hd
  unfold Lib.TabIs
  rw[hvar,<-this]
theorem zyN{W:World}(hL:laidMet Tryz.prog zgE W):UP W:=by
  have hud:UD W:=zyO hL
  have h6:=Lib.laidMet.reads hL (n:= "internal/strconv.uint64pow10") (d:=Rows.laid_internal_strconv_uint64pow10) (.tail _ (.tail _ (.head _)))
  exact⟨fun w' h'=>UD.ext hud h',Lib.tabBelow_of_tabIs (zxD h6)⟩
end
end Go.Proofs.YtjdohhididpomaaGreatDoor
