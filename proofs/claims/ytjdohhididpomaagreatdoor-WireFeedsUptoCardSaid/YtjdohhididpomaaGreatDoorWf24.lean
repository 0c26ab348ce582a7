/-
  Texts joined by program: WkYf, WkYi, SpXy, WkYk, VgXy, WkYj, WkYm, Lw.
-/
import Derived.Test.YtjdohhididpomaaGreatDoorWf23
import Derived.Test.YtjdohhididpomaaGreatDoorWf16
import Derived.Test.YtjdohhididpomaaGreatDoorWf18
import Derived.Test.YtjdohhididpomaaGreatDoorWf22
import Derived.Test.YtjdohhididpomaaGreatDoorProg
import Derived.KernelRfl
import Derived.Test.YtjdohhididpomaaGreatDoorRows
import Derived.Test.YtjdohhididpomaaGreatDoorWf03
import Derived.WalkKit
import Derived.ProofKit
import Derived.OpenShut
import Derived.JoinedCond
import Derived.SizedLaws
import Derived.Carry
set_option linter.unusedVariables false
set_option linter.unusedSimpArgs false

namespace Go.Proofs.YtjdohhididpomaaGreatDoor
section
open Go Go.RowKit Vc Ut Tb Cl Orb
theorem zrB{w:World}{e:TypeId}{s n c q:Nat}{a:Option Addr}{vs:List Value}(h:Row w e s a n vs c)(hq:zV a=some q):a=some ⟨q,0,none⟩/\∃cur,w.heap[q]? =some (.cells cur e):=by
  rcases h.2 with⟨rfl,_,_⟩|⟨g,cur,rfl,hg,_⟩
  ·cases hq
  ·cases hq;exact⟨rfl,cur,hg⟩
theorem zmy{w:World}{e:TypeId}{s n c q:Nat}{a:Option Addr}{vs:List Value}(h:Row w e s a n vs c)(hq:zV a=some q):q<w.heap.size:=by
  obtain⟨-,cur,hg⟩:=zrB h hq
  exact zE hg
theorem znT{w:World}{e:TypeId}{s n c b:Nat}{a:Option Addr}{vs:List Value}{cs:Array Value}{t:TypeId}{m:Nat×Nat}(h:Row w e s a n vs c)(hb:w.heap[b]? =some (.cells cs t m))(hne:t≠e):zV a≠some b:=fun hq=>by
  obtain⟨-,cur,hg⟩:=zrB h hq
  rw[hb]at hg
  injection hg with hg
  injection hg with _ h2 _
  exact hne h2
set_option maxRecDepth 8000 in
theorem zke:zgq.Ok Tryz.prog 17:=by
  refine zrj ⟨zrN,zlb,zrm,trivial⟩ ?_
  rintro⟨A1,A2,g,hl,m⟩ w ⟨hG,hR,hok,hm,hbk⟩
  dsimp only at hG hR hok hm hbk⊢
  have hfit:=hok.fit hm
  have glx:∀{w':World},Ext w w'->GlIn w' A1 g:=fun hx=>hG.fr (S:=fun _=>False) (Fr.of_ext hx) (fun _ h=>h.elim)
  refine⟨⟨A2,g,hl⟩,rfl,⟨hR,hfit⟩,?_⟩
  rintro⟨⟨a1,c1⟩,gr⟩ w1 ⟨hgr,hm1⟩
  dsimp only at hgr hm1;subst hgr
  intro b w2 hn2
  have z2:=hn2.size
  have hx2:Ext w w2:=Ext.trans hm1.ext hn2.ext
  refine⟨⟨A1,g⟩,rfl,⟨glx hx2,hfit⟩,?_⟩
  rintro⟨⟨a3,c3⟩,gr⟩ w3 ⟨hgr,hm3⟩
  dsimp only at hgr hm3;subst hgr
  have hx3:=Ext.trans hx2 hm3.ext
  refine⟨⟨A1,g⟩,rfl,⟨glx hx3,hfit⟩,?_⟩
  rintro⟨⟨a4,c4⟩,gr⟩ w4 ⟨hgr,hm4⟩
  dsimp only at hgr hm4;subst hgr
  intro b1 w5 hn5 b2 w6 hn6
  have z5:=hn5.size;have z6:=hn6.size
  have s3:=hm3.ext.size;have s4:=hm4.ext.size
  have hx4:=Ext.trans hx3 hm4.ext
  have hx6:Ext w w6:=Ext.trans hx4 (Ext.trans hn5.ext hn6.ext)
  have hx36:Ext w3 w6:=Ext.trans hm4.ext (Ext.trans hn5.ext hn6.ext)
  have hx46:Ext w4 w6:=Ext.trans hn5.ext hn6.ext
  refine zyG (Ext.heap hn6.ext hn5.heap) (fun w7 hb7 hf7=> ?_)
  have hne:b2≠b1:=by omega
  refine zyG ((hf7.block b2 (zE hn6.heap) hne).trans hn6.heap) (fun w8 hb8 hf8=> ?_)
  have hb1_8:w8.heap[b1]? =_:=(hf8.block b1 (zE hb7) (Ne.symm hne)).trans hb7
  have out:∀{w0:World},Ext w0 w6->w0.heap.size<=b1->Ext w0 w8:=fun hx hs=>zez hf8 (zez hf7 hx (fun q hq=>by omega)) (fun q hq=>by omega)
  have hx28:Ext w2 w8:=out (Ext.trans hm3.ext hx36) (by omega)
  have hx38:Ext w3 w8:=out hx36 (by omega)
  have hx48:Ext w4 w8:=out hx46 (by omega)
  have hx8:Ext w w8:=out hx6 (by have:=hx2.size;omega)
  have hgc:(zR g).cs=g.cs:=rfl
  have k0:zqc w8 b ⟨a1,c1,zR g⟩:=Ext.heap hx28 hn2.heap
  have k1:zqc w8 b1 ⟨a3,c3,zR g⟩:=hb1_8
  have k2:zqc w8 b2 ⟨a4,c4,zR g⟩:=hb8
  have d0:CellsAt w8 a1 (qn g.cs):=hm1.row.cells.ext (Ext.trans hn2.ext hx28)
  have d1:CellsAt w8 a3 (qn g.cs):=hm3.row.cells.ext hx38
  have d2:CellsAt w8 a4 (qn g.cs):=hm4.row.cells.ext hx48
  have same:qw (zR g) (zR g)=true:=zhQ _
  refine⟨?_,?_⟩
  ·refine(zdi k1).load ((zdi k0).load ⟨⟨a3,c3,zR g,a1,c1,zR g⟩,rfl,⟨⟨d1,hbk⟩,⟨d0,hbk⟩⟩,?_⟩)
   rintro x9 w9 ⟨h9,hx9⟩
   dsimp only at h9;rw[same]at h9;subst h9
   refine zb (fun h=>by cases h) (fun _=> ?_)
   refine(zdi (Ext.heap hx9 k2)).load ((zdi (Ext.heap hx9 k0)).load ⟨⟨a4,c4,zR g,a1,c1,zR g⟩,rfl,⟨⟨d2.ext hx9,hbk⟩,⟨d0.ext hx9,hbk⟩⟩,?_⟩)
   rintro x10 w10 ⟨h10,hx10⟩
   dsimp only at h10;rw[same]at h10;subst h10
   exact zb (fun h=>by cases h) (fun _=>⟨(),Ext.trans hx9 hx10⟩)
  rintro - - w9 hx89
  have hx9:=Ext.trans hx8 hx89
  refine⟨_,_,_,(za (Ext.heap hx89 k1) 2).trans rfl,⟨⟨0,g.cs,a3,c3⟩,rfl,Nat.zero_le _,fun _ _=>rfl,rfl,?_,⟨b1,rfl,Ext.heap hx89 k1⟩,⟨b,a1,c1,rfl,Ext.heap hx89 k0,d0.ext hx89,?_⟩,⟨b2,a4,c4,rfl,Ext.heap hx89 k2,d2.ext hx89,?_⟩⟩,?_⟩
  ·exact(hm3.earlier hx2).later (Ext.trans hx38 hx89)
  ·intro q hq hq3
   have:=zmy hm1.row hq
   have:=hm3.new q hq3
   omega
  ·intro q hq hq3
   have:=zmy hm3.row hq3
   have:=hm4.new q hq
   omega
  clear hn2 hn5 hn6 hm1 hm3 hm4 hb7 hf7 hb8 hf8 hb1_8 out k0 k1 k2 d0 d1 d2 hx28 hx38 hx48
  rintro - ⟨i,L,a,c⟩ w10 ⟨hle,hL,hlen,hmd,⟨b1',hv1,kb1⟩,⟨b',aw,cw,hv0,kb0,dw,nw⟩,⟨b2',ax,cx,hv2,kb2,dx,nx⟩⟩
  obtain rfl:b1=b1':=by injection hv1 with h1;injection h1 with h2;injection h2
  obtain rfl:b=b':=by injection hv0 with h1;injection h1 with h2;injection h2
  obtain rfl:b2=b2':=by injection hv2 with h1;injection h1 with h2;injection h2
  dsimp only at hle hL hlen hmd kb1 nw nx⊢
  have g1024:=hok.len
  have gw:=hok.w;have gh:=hok.h
  have hsz:g.cs.length<=1048576:=by rw[g1024];exact Nat.mul_le_mul gw gh
  refine zb (fun hlt=> ?_) (fun _=> ?_)
  ·have hi:i<L.length:=by have:=of_decide_eq_true hlt;rw[hgc]at this;omega
   refine⟨_,_,_,(za kb1 2).trans rfl,i,rfl,hi,hmd.row.cells.ce hi fun b3 o hc=>hc.load ?_⟩
   have hcell:zg L i=zg g.cs i:=hL i (Nat.le_refl _)
   have hokc:ze9 (zg L i):=by rw[hcell];exact hok.st _ (zdW (by omega))
   intro b5 w11 hn11
   have kb1':=Ext.heap hn11.ext kb1
   refine⟨_,(za hn11.heap 2).trans rfl,zb (fun h=>by rw[hokc.2.1]at h;cases h) (fun _=>⟨_,(za hn11.heap 3).trans rfl,zb (fun h=>by rw[hokc.2.2.1]at h;cases h) (fun _=>⟨_,(za hn11.heap 4).trans rfl,zb (fun h=>by rw[hokc.2.2.2]at h;cases h) (fun _=>⟨_,_,_,(za kb1' 2).trans rfl,i,rfl,hi,?_⟩)⟩)⟩)⟩
   have hmd':=hmd.later hn11.ext
   have hrow:=hmd'.row
   have ha:∃q,a=some ⟨q,0,none⟩:=by
     rcases hrow.2 with⟨_,h,_⟩|⟨q,_,h,_⟩
     ·omega
     ·exact⟨q,h⟩
   obtain⟨q,rfl⟩:=ha
   refine hrow.setCe (i:=i) hi ⟨⟨#[115,112,111,105,108,116]⟩,0,0,0,false,0⟩ fun w12 hr12 hf12=> ?_
   have hq:=hmd.new q rfl
   have hx12:Ext w w12:=zez hf12 hmd'.ext (fun y hy=>by omega)
   have keep:∀{y:Nat} {cs:Array Value},w10.heap[y]? =some (.cells cs 24)->w12.heap[y]? =some (.cells cs 24):=fun{y cs} h=>by
     have h':=Ext.heap hn11.ext h
     have hne:=znT hrow h' (by decide)
     exact(hf12.block y (zE h') (fun hh=>hne (by rw[hh];rfl))).trans h'
   have kc:∀{t:Option Addr},CellsAt w10 t (qn g.cs)->(∀y,zV t=some y->zV (some (⟨q,0,none⟩:Addr))≠some y)->CellsAt w12 t (qn g.cs):=fun h hn=>(h.ext hn11.ext).fr hf12 (fun y hy hh=>hn y hy (by rw[hh];rfl))
   have hl':(L.set i ⟨⟨#[115,112,111,105,108,116]⟩,0,0,0,false,0⟩).length=L.length:=List.length_set ..
   refine⟨⟨by show(-9223372036854775808:Int)<=_;omega,by show _<=(9223372036854775807:Int);omega⟩,⟨i+1,L.set i ⟨⟨#[115,112,111,105,108,116]⟩,0,0,0,false,0⟩,some ⟨q,0,none⟩,c⟩,rfl,⟨by dsimp only;omega,fun j hj=> ?_,by dsimp only;omega,?_,⟨b1,rfl,?_⟩,⟨b,aw,cw,rfl,keep kb0,kc dw nw,nw⟩,⟨b2,ax,cx,rfl,keep kb2,kc dx nx,nx⟩⟩,by dsimp only;omega⟩
   ·dsimp only at hj⊢
    rw[<-hL j (by omega)]
    unfold zg
    rw[List.getD_eq_getElem?_getD,List.getD_eq_getElem?_getD,List.getElem?_set_ne (by omega)]
   ·dsimp only
    rw[hl']
    exact⟨hr12,hmd.new,hx12⟩
   ·dsimp only
    rw[hl']
    exact keep kb1
  ·refine⟨_,_,_,(za kb1 2).trans rfl,?_⟩
   intro b3 w11 hn11
   obtain⟨a',c',w12,hrun,hko,hrow12,hg12, -, -⟩:=hmd.row.pushN (P:=Tryz.prog) (ty:=22) Qw (by decide) (m:=2) (news:=qn [zr 0,zr 0]) hn11 rfl (zaf _) (by unfold maxLen;omega) (.inr (by omega))
   refine⟨a',c',w12,hrun,hko,?_⟩
   have hf12:=Fr.grown hg12
   have keep:∀{y:Nat} {cs:Array Value},w10.heap[y]? =some (.cells cs 24)->w12.heap[y]? =some (.cells cs 24):=fun{y cs} h=>by
     have h':=Ext.heap hn11.ext h
     exact(hf12.block y (zE h') (znT (hmd.row.ext hn11.ext) h' (by decide))).trans h'
   have kc:∀{t:Option Addr},CellsAt w10 t (qn g.cs)->(∀y,zV t=some y->zV a≠some y)->CellsAt w12 t (qn g.cs):=fun h hn=>(h.ext hn11.ext).fr hf12 hn
   have hx12:Ext w w12:=zez hf12 (Ext.trans hmd.ext hn11.ext) (fun y hy=>hmd.new y hy)
   have q0:zqc w12 b ⟨aw,cw,zR g⟩:=keep kb0
   have q2:zqc w12 b2 ⟨ax,cx,zR g⟩:=keep kb2
   have e0:=kc dw nw
   have e2:=kc dx nx
   intro w13 hd13
   refine(zdi q2).load ((zdi q0).load ⟨⟨ax,cx,zR g,aw,cw,zR g⟩,rfl,⟨⟨e2.ext hd13.ext,hbk⟩,⟨e0.ext hd13.ext,hbk⟩⟩,?_⟩)
   rintro x14 w14 ⟨h14,hx14⟩
   dsimp only at h14;rw[same]at h14;subst h14
   have hx12_14:=Ext.trans hd13.ext hx14
   have hx14':=Ext.trans hx12 hx12_14
   refine zb (fun _=> ?_) (fun h=>by cases h)
   refine(zdi (Ext.heap hx12_14 q0)).load ⟨⟨A1,g⟩,rfl,⟨glx hx14',hfit⟩,?_⟩
   rintro⟨⟨a15,c15⟩,gr⟩ w15 ⟨hgr,hm15⟩
   dsimp only at hgr hm15;subst hgr
   refine⟨hm15.ext,⟨a15,c15,zR g,aw,cw,zR g⟩,rfl,⟨⟨hm15.row.cells,hbk⟩,⟨e0.ext (Ext.trans hx12_14 hm15.ext),hbk⟩⟩,?_⟩
   rintro x16 w16 ⟨h16,hx16⟩
   dsimp only at h16;rw[same]at h16;subst h16
   have hx12_16:=Ext.trans hx12_14 (Ext.trans hm15.ext hx16)
   refine zb (fun _=> ?_) (fun h=>by cases h)
   refine⟨_,_,_,(za (Ext.heap hx12_16 q0) 2).trans rfl,⟨by show(-9223372036854775808:Int)<=_;rw[hgc];omega,by show _<=(9223372036854775807:Int);rw[hgc];omega⟩,(),?_,Ext.trans hx12 hx12_16⟩
   rw[hgc,hlen]
   simp
end

section
open Go Go.RowKit Vc Ut Tb Cl Orb
theorem BothAt.lt{w:World}{B:Both}(k:BothAt w B):∀q,ZE B q->B.A1.B<=q/\q<w.heap.size:=by
  rintro q ((hq|hq)|(hq|hq))
  ·exact⟨k.gl.bq q hq,k.gl.lt q hq⟩
  ·have:=k.rd.far q hq
   exact⟨this.1,this.2.1⟩
  ·exact⟨by rw[k.b];exact k.rk.gl.bq q hq,k.rk.gl.lt q hq⟩
  ·subst hq
   exact⟨by rw[k.b];exact k.rr.far.1,k.rr.far.2.1⟩
theorem GlRd.keep{S:Nat->Prop}{w w':World}{A:GlP}{ha:Option Addr}{hc:Nat}{h:ByteArray}(k:GlRd w A ha hc h)(hf:Fr S w w')(hS:∀q,S q->¬zem A ha h q):GlRd w' A ha hc h:=
  ⟨k.rd.fr hf (fun hq=>hS _ hq (.inr (.inl rfl))) (fun q hq h0 hS'=>hS q hS' (.inr (.inr ⟨hq,h0⟩))),k.sm,fun q hq=>by
    have:=k.far q hq
    exact⟨this.1,Nat.lt_of_lt_of_le this.2.1 hf.size,this.2.2⟩⟩
theorem RlRd.keep{S:Nat->Prop}{w w':World}{A:GlP}{h:ByteArray}(k:RlRd w A h)(hf:Fr S w w')(hS:¬S A.rb):RlRd w' A h:=
  ⟨(hf.block _ (zE k.rd) hS).trans k.rd,k.sm,k.far.1,Nat.lt_of_lt_of_le k.far.2.1 hf.size,k.far.2.2⟩
theorem BothAt.keep{S:Nat->Prop}{w w':World}{B:Both}(k:BothAt w B)(hf:Fr S w w')(hS:∀q,S q->B.A1.B<=q/\¬ZE B q):BothAt w' B:=
  ⟨k.gl.fr hf (fun q hq=>⟨(hS q hq).1,fun hh=>(hS q hq).2 (.inl (.inl hh))⟩),k.rd.keep hf (fun q hq hh=>(hS q hq).2 (.inl hh)),
    k.rk.fr hf (fun q hq=>⟨by rw[<-k.b];exact(hS q hq).1,fun hh=>(hS q hq).2 (.inr (.inl hh))⟩),k.rr.keep hf (fun hq=>(hS _ hq).2 (.inr (.inr rfl))),k.b,k.dis⟩
theorem FedO.keep{S:Nat->Prop}{w w1 w2:World}{B B':Both}{b:ByteArray}(k:FedO w w1 B B' b)(hB:B.A1.B<=w.heap.size)(hf:Fr S w1 w2)(hS:∀q,S q->w.heap.size<=q/\¬ZE B' q):FedO w w2 B B' b:=
  ⟨k.is.keep hf (fun q hq=>⟨by rw[k.b1];exact Nat.le_trans hB (hS q hq).1,(hS q hq).2⟩),k.g,k.h,k.m,k.p1,k.p2,k.b1,
    ⟨k.st.fr.trans hf (fun q hq hh=>by have:=(hS q hh).1;omega),fun q hq=>⟨Nat.lt_of_lt_of_le (k.st.dom q hq).1 hf.size,(k.st.dom q hq).2⟩⟩⟩
theorem zlB{S:Nat->Prop}{w w':World}{ad:Option Addr}{s:ByteArray}(h:CellsAt w ad (zh s))(hf:Fr S w w')(hS:s.size≠0->∀q,zV ad=some q->¬S q):CellsAt w' ad (zh s):=by
  by_cases hz:s.size=0
  ·have:zh s=[]:=List.eq_nil_of_length_eq_zero (by rw[qu];exact hz)
   rw[this];exact CellsAt.nil _ _
  ·exact h.fr hf (hS hz)
theorem zst{w w1:World}{b n:Nat}(hn:New w (.cells (Zx (Value.int .u8 0).cells n) 5) b w1)(hm:n<=maxLen):Made w w1 5 1 (some ⟨b,0,none⟩) 0 [] n:=by
  have hsz:(Zx (Value.int .u8 0).cells n).size=n*1:=by
    show(Zx #[Value.int .u8 0] n).size=_
    rw[zpG,Array.size_replicate,Nat.mul_one]
  have hrow:=Row.made (n:=0) (s:=1) hn (Nat.zero_le _) hm hsz
  rw[Nat.zero_mul,List.take_zero]at hrow
  have z:=hn.size
  exact⟨hrow,fun q hq=>by simp[zV]at hq;omega,hn.ext⟩
set_option maxRecDepth 8000 in
theorem zoy:znQ.Ok Tryz.prog 16:=by
  refine zvN ⟨zll,zpp,trivial⟩ ?_
  rintro⟨B,ad,c,s⟩ w ⟨hB,hc,hs,hm,hnb⟩
  dsimp only at hc hs hm hnb⊢
  have hlt:=hB.lt
  have hbw:B.A1.B<=w.heap.size:=hB.gl.bw
  refine⟨⟨by show(-9223372036854775808:Int)<=_;omega,by show _<=(9223372036854775807:Int);omega⟩,0,s.size+1,rfl,rfl,Nat.zero_le _,by omega,by omega,fun b w1 hn1=> ?_⟩
  have hm1:=zst hn1 (by unfold maxLen;omega)
  obtain⟨a2,c2,w2,hrun2,hko2,hm2,hcap2⟩:=hm1.pushS (P:=Tryz.prog) (ty:=40) zcg (by decide) (sa:=ad) (cx:=c) (m:=s.size) (news:=zh s) (by rw[qu,Nat.mul_one]) (hc.ext hm1.ext) (zaA s) (by unfold maxLen;omega) (.inr (by omega))
  refine⟨a2,c2,w2,hrun2,hko2,fun b1 w3 hn3=> ?_⟩
  obtain⟨a4,c4,w4,hrun4,hko4,hm4, -,hcap4⟩:=hm2.pushN (P:=Tryz.prog) (ty:=40) zcg (by decide) (m:=1) (news:=[Value.int .u8 165]) hn3 rfl (fun u hu=>by rw[List.mem_singleton.1 hu];rfl) (by unfold maxLen;omega) (.inr (by omega))
  have hc2:=(hcap2 (by omega)).2
  have hc4:=(hcap4 (by omega)).2
  refine⟨a4,c4,w4,hrun4,hko4,s.size,rfl,by omega,?_⟩
  have hx4:=hm4.ext
  have hrow4:Row w4 5 1 a4 (0+s.size+1) (zh s++[Value.int .u8 165]) c4:=by have:=hm4.row;rwa [List.nil_append]at this
  have hk4:CellsAt w4 a4 (zh s):=by
    have:=hrow4.cells.take (zh s).length
    rwa [List.take_left' rfl]at this
  have f4:Fr (fun _=>False) w w4:=Fr.of_ext hx4
  have hB4:=hB.keep f4 (fun _ h=>h.elim)
  refine⟨⟨B.A1,B.g,B.m,B.ha,B.hc,B.h,a4,c4,s⟩,rfl,⟨hB4.gl,hB4.rk.ok,hB4.rd,hk4,by dsimp only;omega,by dsimp only;omega⟩,?_⟩
  rintro⟨A5,ha5,hc5⟩ w5 hF
  dsimp only at hF
  have hlt4:=hB4.lt
  have rk5:=hB4.rk.fr hF.st.fr (fun q hq=>⟨by rw[<-hB.b];exact(hlt4 q (.inl hq)).1,fun hh=>hB.dis q hq (.inl hh)⟩)
  have rr5:=hB4.rr.keep hF.st.fr (fun hq=>hB.dis _ hq (.inr rfl))
  have had5:CellsAt w5 ad (zh s):=zlB (hc.ext hx4) hF.st.fr (fun h q hq hh=>hnb h q hq (.inl hh))
  refine⟨⟨B.A2,B.g,B.m,B.hl,B.h,ad,c,s⟩,rfl,⟨rk5,rr5,had5,by dsimp only;omega,by dsimp only;omega⟩,?_⟩
  rintro⟨A6,hl6⟩ w6 hO
  dsimp only at hO
  have s4:=hx4.size
  have s5:=hF.st.fr.size
  have d5:∀q,zem A5 ha5 (fdH (B.h++s)) q->¬zhD B.A2 q:=fun q hq hh=>by
    have h2:=hlt q (.inr hh)
    rcases(hF.st.dom q hq).2 with h|h
    ·exact hB.dis q h hh
    ·omega
  have d6:∀q,zem A5 ha5 (fdH (B.h++s)) q->¬zhD A6 q:=fun q hq hh=>by
    rcases(hO.st.dom q hh).2 with h|h
    ·exact d5 q hq h
    ·have:=(hF.st.dom q hq).1;omega
  have gl6:=hF.is.fr hO.st.fr (fun q hq=>⟨by rw[hF.b];exact(hlt q (.inr hq)).1,fun hh=>d5 q (.inl hh) hq⟩)
  have rd6:=hF.rd.keep hO.st.fr (fun q hq hh=>d5 q hh hq)
  have hB6:BothAt w6 ⟨A5,ha5,hc5,A6,hl6,zB B.g (Zh (B.h++s)),B.m+(Zh (B.h++s)).length,fdH (B.h++s)⟩:=⟨gl6,rd6,hO.is,hO.rd,by dsimp only;rw[hF.b,hO.b,hB.b],d6⟩
  have st6:Step (ZE B) w w6 (ZE ⟨A5,ha5,hc5,A6,hl6,zB B.g (Zh (B.h++s)),B.m+(Zh (B.h++s)).length,fdH (B.h++s)⟩):=by
    have f5:Fr (ZE B) w w5:=(Fr.of_ext hx4:Fr (ZE B) w w4).trans hF.st.fr (fun q _ hh=> .inl hh)
    have f6:Fr (ZE B) w w6:=f5.trans hO.st.fr (fun q _ hh=> .inr hh)
    refine⟨f6,?_⟩
    rintro q (hq|hq)
    ·have h1:=hF.st.dom q hq
     refine⟨Nat.lt_of_lt_of_le h1.1 hO.st.fr.size,?_⟩
     rcases h1.2 with h|h
     ·exact .inl (.inl h)
     ·exact .inr (by omega)
    ·have h1:=hO.st.dom q hq
     refine⟨h1.1,?_⟩
     rcases h1.2 with h|h
     ·exact .inl (.inr h)
     ·exact .inr (by omega)
  have hF6:FedO w w6 B ⟨A5,ha5,hc5,A6,hl6,zB B.g (Zh (B.h++s)),B.m+(Zh (B.h++s)).length,fdH (B.h++s)⟩ s:=⟨hB6,rfl,rfl,rfl,hF.p,hO.p,hF.b,st6⟩
  have nk:∀q,zV a4=some q->w.heap.size<=q/\q<w4.heap.size:=fun q hq=>⟨hm4.new q hq,zmy hrow4 hq⟩
  have k1:∀q,zV a4=some q->¬zem B.A1 B.ha B.h q:=fun q hq hh=>by have:=(hlt q (.inl hh)).2;have:=(nk q hq).1;omega
  have k2:∀q,zV a4=some q->¬zhD B.A2 q:=fun q hq hh=>by have:=(hlt q (.inr hh)).2;have:=(nk q hq).1;omega
  have hrow6:=(hrow4.fr hF.st.fr k1).fr hO.st.fr k2
  have hk6:=(hk4.fr hF.st.fr k1).fr hO.st.fr k2
  have had6:CellsAt w6 ad (zh s):=zlB had5 hO.st.fr (fun h q hq hh=>hnb h q hq (.inr hh))
  have kn:∀q,zV a4=some q->w.heap.size<=q/\¬ZE ⟨A5,ha5,hc5,A6,hl6,zB B.g (Zh (B.h++s)),B.m+(Zh (B.h++s)).length,fdH (B.h++s)⟩ q:=by
    intro q hq
    have hn:=nk q hq
    refine⟨hn.1,?_⟩
    rintro(h|h)
    ·rcases(hF.st.dom q h).2 with h|h
     ·exact k1 q hq h
     ·omega
    ·rcases(hO.st.dom q h).2 with h|h
     ·exact k2 q hq h
     ·omega
  have hl4:(zh s++[Value.int .u8 165]).length=s.size+1:=by rw[List.length_append,qu];rfl
  have hlast:(zh s++[Value.int .u8 165])[s.size]? =some (Value.int .u8 165):=by
    rw[List.getElem?_append_right (by rw[qu];exact Nat.le_refl _),qu,Nat.sub_self];rfl
  refine⟨fun w7 hd7=>⟨s.size,rfl,by omega,?_,?_⟩,?_⟩
  ·refine⟨s,qz rfl (hk6.ext hd7.ext),Below.refl _ _,s,qz rfl (had6.ext hd7.ext),Below.refl _ _,zb (fun _=>⟨s.size,rfl,by omega,(hrow6.cells.ext hd7.ext).ptr hlast fun b o hv=>⟨_,hv,(),rfl,hd7.ext⟩⟩) (fun h=>by simp at h)⟩
  ·refine⟨s,qz rfl (had6.ext hd7.ext),Below.refl _ _,s,qz rfl (hk6.ext hd7.ext),Below.refl _ _,zb (fun _=>⟨s.size,rfl,by omega,(hrow6.cells.ext hd7.ext).ptr hlast fun b o hv=>⟨_,hv,(),rfl,hd7.ext⟩⟩) (fun h=>by simp at h)⟩
  rintro - - w7 hx7
  have f7:Fr (fun _=>False) w6 w7:=Fr.of_ext hx7
  have hF7:=hF6.keep hbw f7 (fun _ h=>h.elim)
  refine⟨⟨(⟨0,zh s++[Value.int .u8 165]⟩,⟨A5,ha5,hc5,A6,hl6,zB B.g (Zh (B.h++s)),B.m+(Zh (B.h++s)).length,fdH (B.h++s)⟩),rfl,Nat.zero_le _,hl4,hF7,⟨hF7.st,?_,kn⟩⟩,?_⟩
  ·show Row w7 _ 1 a4 _ _ c4
   rw[hl4]
   have:=hrow6.ext hx7
   rwa [show 0+s.size+1=s.size+1 from by omega]at this
  rintro - ⟨⟨i,l⟩,B'⟩ w8 ⟨hi,hll,hF8,⟨st8,row8,new8⟩⟩
  have row8:Row w8 5 1 a4 l.length l c4:=row8
  have new8:∀q,zV a4=some q->w.heap.size<=q/\¬ZE B' q:=new8
  dsimp only at hi hll hF8 st8⊢
  refine zb (fun h=> ?_) (fun _=>⟨B',rfl,hF8⟩)
  have h:=of_decide_eq_true h
  have hi':i<l.length:=by omega
  have ha:∃q,a4=some ⟨q,0,none⟩:=by
    rcases row8.2 with⟨_,h,_⟩|⟨q,_,h,_⟩
    ·omega
    ·exact⟨q,h⟩
  obtain⟨q,rfl⟩:=ha
  refine⟨i,rfl,by omega,?_⟩
  refine QF (off:=0+i) [Value.int .u8 120] 0 row8 (fun u hu=>by rw[List.mem_singleton.1 hu];rfl) (by simp only[List.length_cons,List.length_nil];omega) (fun w9 hr9 hf9=> ?_)
  have hq:=new8 q rfl
  have hF9:=hF8.keep hbw hf9 (fun y hy=>by subst hy;exact hq)
  have hls:(za0 l (0+i+0) [Value.int .u8 120]).length=l.length:=by simp[za0]
  refine⟨⟨by show(-9223372036854775808:Int)<=_;omega,by show _<=(9223372036854775807:Int);omega⟩,(⟨i+1,za0 l (0+i+0) [Value.int .u8 120]⟩,B'),rfl,⟨by dsimp only;omega,by dsimp only;omega,hF9,⟨hF9.st,?_,new8⟩⟩,by dsimp only;omega⟩
  show Row w9 _ 1 _ _ _ c4
  dsimp only
  rw[hls]
  exact hr9
set_option maxRecDepth 8000 in
theorem zvQ:zrt.Ok Tryz.prog 16:=by
  refine zvP ⟨ztc,zpn,trivial⟩ ?_
  rintro⟨ad,c,s⟩ w ⟨hc,hs⟩
  dsimp only at hc hs⊢
  refine⟨⟨by show(-9223372036854775808:Int)<=_;omega,by show _<=(9223372036854775807:Int);omega⟩,0,s.size+1,rfl,rfl,Nat.zero_le _,by omega,by omega,fun b w1 hn1=> ?_⟩
  have hm1:=zst hn1 (by unfold maxLen;omega)
  obtain⟨a2,c2,w2,hrun2,hko2,hm2,hcap2⟩:=hm1.pushS (P:=Tryz.prog) (ty:=40) zcg (by decide) (sa:=ad) (cx:=c) (m:=s.size) (news:=zh s) (by rw[qu,Nat.mul_one]) (hc.ext hm1.ext) (zaA s) (by unfold maxLen;omega) (.inr (by omega))
  refine⟨a2,c2,w2,hrun2,hko2,fun b1 w3 hn3=> ?_⟩
  obtain⟨a4,c4,w4,hrun4,hko4,hm4, -,hcap4⟩:=hm2.pushN (P:=Tryz.prog) (ty:=40) zcg (by decide) (m:=1) (news:=[Value.int .u8 165]) hn3 rfl (fun u hu=>by rw[List.mem_singleton.1 hu];rfl) (by unfold maxLen;omega) (.inr (by omega))
  have hc2:=(hcap2 (by omega)).2
  have hc4:=(hcap4 (by omega)).2
  refine⟨a4,c4,w4,hrun4,hko4,s.size,rfl,by omega,(a4,s.size,c4),rfl,trivial,fun _ w5 hx5=>⟨(ad,s.size,c),rfl,trivial,fun _ w6 hx6=> ?_⟩⟩
  have hx4:=hm4.ext
  have hx46:=Ext.trans hx5 hx6
  have hrow6:Row w6 5 1 a4 (0+s.size+1) (zh s++[Value.int .u8 165]) c4:=by have:=hm4.row.ext hx46;rwa [List.nil_append]at this
  have hk6:CellsAt w6 a4 (zh s):=by
    have:=hrow6.cells.take (zh s).length
    rwa [List.take_left' rfl]at this
  have had6:CellsAt w6 ad (zh s):=hc.ext (Ext.trans hx4 hx46)
  have hl4:(zh s++[Value.int .u8 165]).length=s.size+1:=by rw[List.length_append,qu];rfl
  have hlast:(zh s++[Value.int .u8 165])[s.size]? =some (Value.int .u8 165):=by
    rw[List.getElem?_append_right (by rw[qu];exact Nat.le_refl _),qu,Nat.sub_self];rfl
  refine⟨fun w7 hd7=>⟨s.size,rfl,by omega,?_,?_⟩,?_⟩
  ·refine⟨s,qz rfl (hk6.ext hd7.ext),Below.refl _ _,s,qz rfl (had6.ext hd7.ext),Below.refl _ _,zb (fun _=>⟨s.size,rfl,by omega,(hrow6.cells.ext hd7.ext).ptr hlast fun b o hv=>⟨_,hv,(),rfl,hd7.ext⟩⟩) (fun h=>by simp at h)⟩
  ·refine⟨s,qz rfl (had6.ext hd7.ext),Below.refl _ _,s,qz rfl (hk6.ext hd7.ext),Below.refl _ _,zb (fun _=>⟨s.size,rfl,by omega,(hrow6.cells.ext hd7.ext).ptr hlast fun b o hv=>⟨_,hv,(),rfl,hd7.ext⟩⟩) (fun h=>by simp at h)⟩
  rintro - - w7 hx7
  have hx7':Ext w w7:=Ext.trans hx4 (Ext.trans hx46 hx7)
  refine⟨⟨⟨0,zh s++[Value.int .u8 165]⟩,rfl,Nat.zero_le _,hl4,⟨⟨Fr.of_ext hx7',fun _ h=>h.elim⟩,?_,fun q hq=>⟨hm4.new q hq,fun h=>h⟩⟩⟩,?_⟩
  ·show Row w7 _ 1 a4 _ _ c4
   rw[hl4]
   have:=hrow6.ext hx7
   rwa [show 0+s.size+1=s.size+1 from by omega]at this
  rintro - ⟨i,l⟩ w8 ⟨hi,hll,⟨st8,row8,new8⟩⟩
  have row8:Row w8 5 1 a4 l.length l c4:=row8
  have new8:∀q,zV a4=some q->w.heap.size<=q/\¬False:=new8
  dsimp only at hi hll st8⊢
  have hx8:Ext w w8:=zez st8.fr (Below.refl _ _) (fun _ h=>h.elim)
  refine zb (fun h=> ?_) (fun _=>⟨(),rfl,hx8⟩)
  have h:=of_decide_eq_true h
  have hi':i<l.length:=by omega
  have ha:∃q,a4=some ⟨q,0,none⟩:=by
    rcases row8.2 with⟨_,h,_⟩|⟨q,_,h,_⟩
    ·omega
    ·exact⟨q,h⟩
  obtain⟨q,rfl⟩:=ha
  refine⟨i,rfl,by omega,?_⟩
  refine QF (off:=0+i) [Value.int .u8 120] 0 row8 (fun u hu=>by rw[List.mem_singleton.1 hu];rfl) (by simp only[List.length_cons,List.length_nil];omega) (fun w9 hr9 hf9=> ?_)
  have hq:=(new8 q rfl).1
  have hx9:=zez hf9 hx8 (fun y hy=>by subst hy;exact hq)
  have hls:(za0 l (0+i+0) [Value.int .u8 120]).length=l.length:=by simp[za0]
  refine⟨⟨by show(-9223372036854775808:Int)<=_;omega,by show _<=(9223372036854775807:Int);omega⟩,⟨i+1,za0 l (0+i+0) [Value.int .u8 120]⟩,rfl,⟨by dsimp only;omega,by dsimp only;omega,⟨⟨Fr.of_ext hx9,fun _ h=>h.elim⟩,?_,new8⟩⟩,by dsimp only;omega⟩
  show Row w9 _ 1 _ _ _ c4
  dsimp only
  rw[hls]
  exact hr9
end

section
open Go Go.RowKit Vc Ut Tb Cl
def ptO(o:Option GlP):Option Addr:=o.map fun A=>⟨A.p,0,none⟩
def erO:Option GlP->Int
  |some _=>0
  |none=>5
structure NwO where
  p:Option Addr
  e:Int
  o:Option GlP
def zwX:CallSpec where
  G:=Int×Int×Bool
  args:=fun g=> #[.int .i64 g.1, .int .i64 g.2.1, .bool g.2.2]
  pre:=fun _ w=>UDB w.heap.size w
  X:=NwO
  res:=fun x=> .tuple #[.pointer x.p, .int .i64 x.e]
  post:=fun g w x w'=>(x.p=ptO x.o/\x.e=erO x.o)/\Ext w w'/\x.o.isSome=qo g.1 g.2.1/\∀A,x.o=some A->A.B=w.heap.size/\GlIn w' A (Zg g.1.toNat g.2.1.toNat g.2.2)/\GlRd w' A none 0 ⟨#[]⟩
def zrp:CallSpec where
  G:=Int×Int×Bool
  args:=fun g=> #[.int .i64 g.1, .int .i64 g.2.1, .bool g.2.2]
  pre:=fun _ w=>UDB w.heap.size w
  X:=NwO
  res:=fun x=> .tuple #[.pointer x.p, .int .i64 x.e]
  post:=fun g w x w'=>(x.p=ptO x.o/\x.e=erO x.o)/\Ext w w'/\x.o.isSome=qo g.1 g.2.1/\∀A,x.o=some A->A.B=w.heap.size/\RlIn w' A (Zg g.1.toNat g.2.1.toNat g.2.2) []/\RlRd w' A ⟨#[]⟩
def pt1(o:Option Both):Option Addr:=o.map fun B=>⟨B.A1.p,0,none⟩
def pt2(o:Option Both):Option Addr:=o.map fun B=>⟨B.A2.p,0,none⟩
structure GFo where
  o:Option Both
  ad:Option Addr
  c:Nat
  b:ByteArray
def zwY:CallSpec where
  G:=GFo
  args:=fun g=> #[.pointer (pt1 g.o), .pointer (pt2 g.o), .slice g.ad g.b.size g.c]
  pre:=fun g w=>CellsAt w g.ad (zh g.b)/\g.b.size<=16777216/\∀B,g.o=some B->BothAt w B/\B.m+3+g.b.size<=549755813888/\(g.b.size≠0->∀q,zV g.ad=some q->¬ZE B q)
  X:=Option Both
  res:=fun _=> .bool true
  post:=fun g w x w'=>match g.o,x with
    |some B,some B'=>FedO w w' B B' g.b
    |none,none=>Ext w w'
    |_,_=>False
structure GFds where
  w:Int
  h:Int
  wd:Bool
  a1:Option Addr
  c1:Nat
  l1:List PcE
  a2:Option Addr
  c2:Nat
  l2:List PcE
def pcIn(w:World)(ad:Option Addr)(l:List PcE):Prop:=CellsAt w ad (l.map peV)/\(∀x∈l,CellsAt w x.ad (zh x.b))/\ZG l<=1048576
def zeg(ok:Bool):CallSpec where
  G:=GFds
  args:=fun g=> #[.int .i64 g.w, .int .i64 g.h, .bool g.wd, .slice g.a1 g.l1.length g.c1, .slice g.a2 g.l2.length g.c2]
  pre:=fun g w=>UP w/\qo g.w g.h=ok/\pcIn w g.a1 g.l1/\pcIn w g.a2 g.l2
  X:=Unit
  res:=fun _=> .bool true
  post:=fun _ w _ w'=>Ext w w'
def zgi:List (Nat×CallSpec):=[(14,zrr),(15,zi9),(16,znQ),(17,zgq),(7,zds)]
def zgj:List (Nat×CallSpec):=[(14,zwX),(15,zrp),(16,zwY),(17,zgq),(7,zds)]
structure fsG(w00:World)(l:List PcE)(i:Nat)(B:Both)(w:World):Prop where
  k:BothAt w B
  b:B.A1.B=w00.heap.size
  m:B.m<=3*ZG (l.take i)
  bk:zm B.g.cs<=1048576+20*B.m
structure fsT(g:GFds)(w00:World)(i1 i2:Nat)(P Q:Both)(w:World)(v11 v13 v15 v17:Value):Prop where
  ext:Ext w00 w
  p:fsG w00 g.l1 i1 P w
  q:fsG w00 g.l2 i2 Q w
  dis:∀z,ZE P z->¬ZE Q z
  v11:v11= .pointer (some ⟨P.A1.p,0,none⟩)
  v13:v13= .pointer (some ⟨P.A2.p,0,none⟩)
  v15:v15= .pointer (some ⟨Q.A1.p,0,none⟩)
  v17:v17= .pointer (some ⟨Q.A2.p,0,none⟩)
structure fsF(g:GFds)(w00:World)(i2:Nat)(Q:Both)(w:World)(v15 v17:Value):Prop where
  ext:Ext w00 w
  q:fsG w00 g.l2 i2 Q w
  v15:v15= .pointer (some ⟨Q.A1.p,0,none⟩)
  v17:v17= .pointer (some ⟨Q.A2.p,0,none⟩)
structure FsX where
  i:Nat
  P:Both
  Q:Both
def zqu(g:GFds)(w00:World):Ann where
  sp:=zgi
  cuts:=[(10,11,{X:=Both×Both,sh:=fun _ _=>[],inv:=fun e _ x w=>fsT g w00 ((gi e 19).toNat+1) (gi e 19).toNat x.1 x.2 w (gv e 11) (gv e 13) (gv e 15) (gv e 17)})]
  loops:=[(8,{
    X:=FsX
    sh:=fun _ x=>[(19, .int .i64 x.i)]
    inv:=fun e _ x w=>x.i<=max g.l1.length g.l2.length/\fsT g w00 x.i x.i x.P x.Q w (gv e 11) (gv e 13) (gv e 15) (gv e 17)
    mu:=fun _ _ x _=>max g.l1.length g.l2.length - x.i})]
def zqv(g:GFds)(w00:World):Ann where
  sp:=zgj
  cuts:=[(1,1,{X:=Unit,sh:=fun _ _=>[(11, .pointer none),(12, .int .i64 5)],inv:=fun _ w0 _ w=>Ext w0 w}),
    (2,2,{X:=Unit,sh:=fun _ _=>[(13, .pointer none),(14, .int .i64 5)],inv:=fun _ w0 _ w=>Ext w0 w}),
    (3,3,{X:=GlP,sh:=fun _ A=>[(15, .pointer (some ⟨A.p,0,none⟩)),(16, .int .i64 0)],inv:=fun _ w0 A w=>Ext w0 w/\A.B=w0.heap.size/\GlIn w A (Zg 9 3 (!g.wd))/\GlRd w A none 0 ⟨#[]⟩}),
    (4,4,{X:=GlP,sh:=fun _ A=>[(17, .pointer (some ⟨A.p,0,none⟩)),(18, .int .i64 0)],inv:=fun _ w0 A w=>Ext w0 w/\A.B=w0.heap.size/\RlIn w A (Zg 9 3 (!g.wd)) []/\RlRd w A ⟨#[]⟩}),
    (10,11,{X:=Both,sh:=fun _ _=>[],inv:=fun e _ x w=>fsF g w00 (gi e 19).toNat x w (gv e 15) (gv e 17)})]
  loops:=[(8,{
    X:=Nat×Both
    sh:=fun _ x=>[(19, .int .i64 x.1)]
    inv:=fun e _ x w=>x.1<=max g.l1.length g.l2.length/\fsF g w00 x.1 x.2 w (gv e 15) (gv e 17)
    mu:=fun _ _ x _=>max g.l1.length g.l2.length - x.1})]
end

section
open Go Go.RowKit Vc Ut Tb Cl Orb
structure RlAt(w:World)(A:GlP)(g:Gs)(hl:List Int)(m:Nat)(h:ByteArray):Prop where
  rk:rkIn w A g hl m
  rd:RlRd w A h
section
variable {w w' : World} {A : GlP} {g : Gs} {hl : List Int} {m : Nat} {h : ByteArray}
theorem RlAt.lt(k:RlAt w A g hl m h):∀q,zhD A q->A.B<=q/\q<w.heap.size:=by
  rintro q (hq|hq)
  ·exact⟨k.rk.gl.bq q hq,k.rk.gl.lt q hq⟩
  ·subst hq
   exact⟨k.rd.far.1,k.rd.far.2.1⟩
theorem RlAt.keep{S:Nat->Prop}(k:RlAt w A g hl m h)(hf:Fr S w w')(hS:∀q,S q->A.B<=q/\¬zhD A q):RlAt w' A g hl m h:=
  ⟨k.rk.fr hf (fun q hq=>⟨(hS q hq).1,fun hh=>(hS q hq).2 (.inl hh)⟩),k.rd.keep hf (fun hq=>(hS _ hq).2 (.inr rfl))⟩
theorem RlAt.ext(k:RlAt w A g hl m h)(hx:Ext w w'):RlAt w' A g hl m h:=
  k.keep (S:=fun _=>False) (Fr.of_ext hx) (fun _ hq=>hq.elim)
theorem RlIn.base{B0:Nat}(k:RlIn w A g hl)(hB:B0<=A.B)(hu:UDB B0 w):RlIn w {A with B:=B0} g hl:=
  ⟨k.box,k.row,k.held,fun q hq=>Nat.le_trans hB (k.bq q hq),Nat.le_trans hB k.bw,hu⟩
theorem RlAt.base{B0:Nat}(k:RlAt w A g hl m h)(hB:B0<=A.B)(hu:UDB B0 w):RlAt w {A with B:=B0} g hl m h:=
  ⟨⟨k.rk.gl.base hB hu,k.rk.ok,k.rk.mb,k.rk.hd,k.rk.len⟩,⟨k.rd.rd,k.rd.sm,Nat.le_trans hB k.rd.far.1,k.rd.far.2.1,k.rd.far.2.2⟩⟩
end
theorem bp_take(l:List PcE)(i:Nat):ZG (l.take i)<=ZG (l.take (i+1))/\ZG (l.take i)<=ZG l:=by
  have app:∀a b:List PcE,ZG (a++b)=ZG a+ZG b:=fun a b=>by simp[ZG]
  refine⟨?_,?_⟩
  ·rw[List.take_add_one,app];omega
  ·have:=app (l.take i) (l.drop i)
   rw[List.take_append_drop]at this;omega
def QZ:PcE:=⟨none,0,⟨#[]⟩⟩
theorem ztE{l:List PcE}{i:Nat}(h:i<l.length):ZG (l.take (i+1))=ZG (l.take i)+(1+(l.getD i QZ).b.size):=by
  have app:∀a b:List PcE,ZG (a++b)=ZG a+ZG b:=fun a b=>by simp[ZG]
  rw[List.take_add_one,app,List.getD_eq_getElem?_getD,List.getElem?_eq_getElem h]
  simp[ZG]
section
variable {w00 w w' : World} {l : List PcE} {i : Nat} {B B' : Both}
theorem fsG.lt(k:fsG w00 l i B w):∀q,ZE B q->w00.heap.size<=q/\q<w.heap.size:=fun q hq=>by
  have:=k.k.lt q hq
  rw[k.b]at this;exact this
theorem fsG.keep{S:Nat->Prop}(k:fsG w00 l i B w)(hf:Fr S w w')(hS:∀q,S q->w00.heap.size<=q/\¬ZE B q):fsG w00 l i B w':=
  ⟨k.k.keep hf (fun q hq=>by rw[k.b];exact hS q hq),k.b,k.m,k.bk⟩
theorem fsG.ext(k:fsG w00 l i B w)(hx:Ext w w'):fsG w00 l i B w':=k.keep (S:=fun _=>False) (Fr.of_ext hx) (fun _ h=>h.elim)
theorem fsG.up(k:fsG w00 l i B w):fsG w00 l (i+1) B w:=
  ⟨k.k,k.b,Nat.le_trans k.m (Nat.mul_le_mul_left 3 (bp_take l i).1),k.bk⟩
theorem fsG.fed{b:ByteArray}(k:fsG w00 l i B w)(hi:i<l.length)(hb:b=(l.getD i QZ).b)(F:FedO w w' B B' b):fsG w00 l (i+1) B' w':=by
  have h1:=ztE hi
  rw[<-hb]at h1
  have h2:=zdQ (B.h++b)
  rw[ByteArray.size_append]at h2
  have h3:B.h.size<=3:=k.k.rr.sm
  have h4:=k.m
  have h5:=F.m
  have h6:=zhp (Zh (B.h++b)) B.g
  have h7:=k.bk
  refine⟨F.is,F.b1.trans k.b,by omega,?_⟩
  rw[F.g];omega
theorem fsG.other{Q:Both}{l':List PcE}{j:Nat}{b:ByteArray}(q:fsG w00 l' j Q w)(F:FedO w w' B B' b)(hB:B.A1.B=w00.heap.size)(k:BothAt w B)(hd:∀z,ZE B z->¬ZE Q z):fsG w00 l' j Q w'/\∀z,ZE B' z->¬ZE Q z:=by
  refine⟨q.keep F.st.fr (fun z hz=>⟨by rw[<-hB];exact(k.lt z hz).1,hd z hz⟩),fun z hz hq=> ?_⟩
  rcases(F.st.dom z hz).2 with h|h
  ·exact hd z h hq
  ·have:=(q.lt z hq).2;omega
theorem fsG.small(k:fsG w00 l i B w)(hl:ZG l<=1048576):B.m<=3145728/\zm B.g.cs<=67108864:=by
  have h1:=k.m
  have h2:=(bp_take l i).2
  have h3:=k.bk
  omega
theorem fsG.sh(k:fsG w00 l i B w)(hl:ZG l<=1048576):GlIn w B.A1 B.g/\RlIn w B.A2 B.g B.hl/\okG B.g B.m/\B.m<=549755813888/\zm B.g.cs<=67108864:=
  ⟨k.k.gl,k.k.rk.gl,k.k.rk.ok,by have:=(k.small hl).1;omega,(k.small hl).2⟩
end
def zgW(w00:World)(A1 A2:GlP)(g:Gs):Both:=⟨{A1 with B:=w00.heap.size},none,0,{A2 with B:=w00.heap.size},[],g,0,⟨#[]⟩⟩
theorem zm1{w00 w1 w2 w:World}{A1 A2:GlP}{W H:Nat}{wd:Bool}(l:List PcE)(hu:UP w00)(hx:Ext w00 w)(h0:w00.heap.size<=A1.B)(g1:GlIn w1 A1 (Zg W H wd))(r1:GlRd w1 A1 none 0 ⟨#[]⟩)(hl:w1.heap.size<=A2.B)(e1:Ext w1 w)(g2:RlIn w2 A2 (Zg W H wd) [])(r2:RlRd w2 A2 ⟨#[]⟩)(e2:Ext w2 w)(hW:W<=1024)(hH:H<=1024):
    fsG w00 l 0 (zgW w00 A1 A2 (Zg W H wd)) w:=by
  have hud:UDB w00.heap.size w:=fun w'' h'=>hu.1 w'' (Below.trans hx h')
  have k1:GlAt w A1 (Zg W H wd) 0 none 0 ⟨#[]⟩:=GlAt.ext ⟨g1,zjr hW hH wd,r1⟩ e1
  have k1':=k1.base h0 hud
  have k2:RlAt w A2 (Zg W H wd) [] 0 ⟨#[]⟩:=RlAt.ext ⟨⟨g2,zjr hW hH wd,Nat.zero_le _,fun h=>(by cases h),Nat.zero_le _⟩,r2⟩ e2
  have hs1:=e1.size
  have k2':=k2.base (B0:=w00.heap.size) (by have:=g1.bw;omega) hud
  refine⟨⟨k1'.gl,k1'.rd,k2'.rk,k2'.rd,rfl,fun q hq hh=> ?_⟩,rfl,Nat.zero_le _,?_⟩
  ·have a:=(GlAt.lt (⟨g1,zjr hW hH wd,r1⟩:GlAt w1 A1 (Zg W H wd) 0 none 0 ⟨#[]⟩) q hq).2
   have b:=(k2.lt q hh).1
   omega
  ·have h5:zm (Zg W H wd).cs=W*H:=zjI (W*H) 0
   have h6:W*H<=1024*1024:=Nat.mul_le_mul hW hH
   show zm (Zg W H wd).cs<=_
   omega
theorem zp9{w:World}{ad:Option Addr}{vs:List Value}{q:Nat}(h:CellsAt w ad vs)(hne:vs≠[])(hq:zV ad=some q):q<w.heap.size:=by
  rcases h with h|⟨o,k,rfl,hh⟩
  ·exact absurd h hne
  ·cases hq
   match vs,hne with
   |v::_,_=>exact World.block_lt_of_cell? w _ (hh 0 v rfl)
theorem zhr:∀l:List PcE,l.length<=ZG l
  |[]=>Nat.le_refl _
  |e::l=>by
   have:=zhr l
   have h:ZG (e::l)=(1+e.b.size)+ZG l:=by simp[ZG]
   rw[h,List.length_cons];omega
section
variable {w00 w : World} {ad : Option Addr} {l : List PcE} {i : Nat}
theorem zr2(hi:i<l.length):l[i]? =some (l.getD i QZ):=by rw[List.getD_eq_getElem?_getD,List.getElem?_eq_getElem hi];rfl
theorem pcIn.at{K:Nat->Nat->Prop}(h:pcIn w00 ad l)(hx:Ext w00 w)(hi:i<l.length)(hk:∀b o,w.cell? ⟨b,o+i,none⟩=some (.slice (l.getD i QZ).ad (l.getD i QZ).b.size (l.getD i QZ).c)->K b o):zn ad K:=
  (h.1.ext hx).ptr (v:=peV (l.getD i QZ)) (by rw[List.getElem?_map,zr2 hi];rfl) (fun b o hv=>hk b o hv)
theorem pcIn.b(h:pcIn w00 ad l)(hx:Ext w00 w)(hi:i<l.length):CellsAt w (l.getD i QZ).ad (zh (l.getD i QZ).b)/\(l.getD i QZ).b.size<=1048576/\((l.getD i QZ).b.size≠0->∀q,zV (l.getD i QZ).ad=some q->q<w00.heap.size):=by
  have hm:l.getD i QZ∈l:=List.mem_of_getElem? (zr2 hi)
  have hc:=h.2.1 _ hm
  refine⟨hc.ext hx,?_,fun h0 q hq=>zp9 hc (fun hn=>h0 ?_) hq⟩
  ·have h1:=ztE hi
   have h2:=(bp_take l (i+1)).2
   have h3:=h.2.2
   omega
  ·have:=congrArg List.length hn
   rwa [qu]at this
end
theorem zuw{gw gh:Int}(h:qo gw gh=true):∃W H:Nat,gw=(W:Int)/\gh=(H:Int)/\W<=1024/\H<=1024:=by
  unfold qo at h
  have h:=of_decide_eq_true h
  exact⟨gw.toNat,gh.toNat,by omega,by omega,by omega,by omega⟩
theorem zn8{w00 w1 w2:World}{A1 A2:GlP}{g g1 g2:Gs}(h1:GlIn w1 A1 g1)(r1:GlRd w1 A1 none 0 ⟨#[]⟩)(h2:RlIn w2 A2 g2 [])(r2:RlRd w2 A2 ⟨#[]⟩):∀z,ZE (zgW w00 A1 A2 g) z->(A1.B<=z/\z<w1.heap.size)\/(A2.B<=z/\z<w2.heap.size):=by
  rintro z ((hz|hz)|(hz|hz))
  ·exact .inl ⟨h1.bq z hz,h1.lt z hz⟩
  ·have:=r1.far z hz
   exact .inl ⟨this.1,this.2.1⟩
  ·exact .inr ⟨h2.bq z hz,h2.lt z hz⟩
  ·have hz:z=A2.rb:=hz
   subst hz
   exact .inr ⟨r2.far.1,r2.far.2.1⟩
end

section
set_option linter.unusedVariables false
open Go Go.RowKit Vc Ut Tb Cl
open Value
set_option maxRecDepth 1000000
theorem zpY(hsp:zf Tryz.prog zgi)(h:∀(g:GFds) (w:World),UP w/\qo g.w g.h=true/\pcIn w g.a1 g.l1/\pcIn w g.a2 g.l2->∃(g1:Nat×Nat×Bool), #[int .i64 g.w,int .i64 g.h,bool g.wd]= #[int .i64 (g1.fst:Int),int .i64 (g1.snd.fst:Int),bool g1.snd.snd]/\(UDB w.heap.size w/\g1.fst<=1024/\g1.snd.fst<=1024)/\∀(x:GlP) w',Ext w w'/\x.B=w.heap.size/\GlIn w' x (Zg g1.fst g1.snd.fst g1.snd.snd)/\GlRd w' x none 0 (ByteArray.mk #[])->∃(g2:Nat×Nat×Bool), #[int .i64 g.w,int .i64 g.h,bool g.wd]= #[int .i64 (g2.fst:Int),int .i64 (g2.snd.fst:Int),bool g2.snd.snd]/\(UDB w'.heap.size w'/\g2.fst<=1024/\g2.snd.fst<=1024)/\∀(x1:GlP) w'1,Ext w' w'1/\x1.B=w'.heap.size/\RlIn w'1 x1 (Zg g2.fst g2.snd.fst g2.snd.snd) []/\RlRd w'1 x1 (ByteArray.mk #[])->∃(g3:Nat×Nat×Bool), #[int .i64 9,int .i64 3,bool !g.wd]= #[int .i64 (g3.fst:Int),int .i64 (g3.snd.fst:Int),bool g3.snd.snd]/\(UDB w'1.heap.size w'1/\g3.fst<=1024/\g3.snd.fst<=1024)/\∀(x2:GlP) w'2,Ext w'1 w'2/\x2.B=w'1.heap.size/\GlIn w'2 x2 (Zg g3.fst g3.snd.fst g3.snd.snd)/\GlRd w'2 x2 none 0 (ByteArray.mk #[])->∃(g4:Nat×Nat×Bool), #[int .i64 9,int .i64 3,bool !g.wd]= #[int .i64 (g4.fst:Int),int .i64 (g4.snd.fst:Int),bool g4.snd.snd]/\(UDB w'2.heap.size w'2/\g4.fst<=1024/\g4.snd.fst<=1024)/\∀(x3:GlP) w'3,Ext w'2 w'3/\x3.B=w'2.heap.size/\RlIn w'3 x3 (Zg g4.fst g4.snd.fst g4.snd.snd) []/\RlRd w'3 x3 (ByteArray.mk #[])->(∃(x4:FsX),int .i64 0=int .i64 (x4.i:Int)/\x4.i<=max g.l1.length g.l2.length/\fsT g w x4.i x4.i x4.P x4.Q w'3 (pointer (some ⟨x.p,0,none⟩)) (pointer (some ⟨x1.p,0,none⟩)) (pointer (some ⟨x2.p,0,none⟩)) (pointer (some ⟨x3.p,0,none⟩)))/\∀(u:Nat->Value) (x4:FsX) w'4,x4.i<=max g.l1.length g.l2.length/\fsT g w x4.i x4.i x4.P x4.Q w'4 (pointer (some ⟨x.p,0,none⟩)) (pointer (some ⟨x1.p,0,none⟩)) (pointer (some ⟨x2.p,0,none⟩)) (pointer (some ⟨x3.p,0,none⟩))->zc (decide ((x4.i:Int)<(g.l1.length:Int))||decide ((x4.i:Int)<(g.l2.length:Int))) (zc (decide ((x4.i:Int)<(g.l1.length:Int))) (qa (x4.i:Int) g.l1.length fun k=>zn g.a1 fun(b o:Nat)=>qY w'4 b (o+k) fun a6 n c=>∃(g5:GFe), #[pointer (some ⟨x.p,0,none⟩),pointer (some ⟨x1.p,0,none⟩),slice a6 n c]= #[pointer (some ⟨g5.B.A1.p,0,none⟩),pointer (some ⟨g5.B.A2.p,0,none⟩),slice g5.ad g5.b.size g5.c]/\(BothAt w'4 g5.B/\CellsAt w'4 g5.ad (zh g5.b)/\g5.b.size<=16777216/\g5.B.m+3+g5.b.size<=549755813888/\(g5.b.size≠0->∀(q:Nat),zV g5.ad=some q->¬ZE g5.B q))/\∀(x5:Both) w'5,FedO w'4 w'5 g5.B x5 g5.b->∃(g6:GSh), #[pointer (some ⟨x.p,0,none⟩),pointer (some ⟨x1.p,0,none⟩)]= #[pointer (some ⟨g6.A1.p,0,none⟩),pointer (some ⟨g6.A2.p,0,none⟩)]/\(GlIn w'5 g6.A1 g6.g/\RlIn w'5 g6.A2 g6.g g6.hl/\okG g6.g g6.m/\g6.m<=549755813888/\zm g6.g.cs<=67108864)/\∀(x6:Unit) w'6,
 Ext w'5 w'6->∃(c1:Both×Both),fsT g w ((x4.i:Int).toNat+1) (x4.i:Int).toNat c1.fst c1.snd w'6 (pointer (some ⟨x.p,0,none⟩)) (pointer (some ⟨x1.p,0,none⟩)) (pointer (some ⟨x2.p,0,none⟩)) (pointer (some ⟨x3.p,0,none⟩))) (∃(c:Both×Both),fsT g w ((x4.i:Int).toNat+1) (x4.i:Int).toNat c.fst c.snd w'4 (pointer (some ⟨x.p,0,none⟩)) (pointer (some ⟨x1.p,0,none⟩)) (pointer (some ⟨x2.p,0,none⟩)) (pointer (some ⟨x3.p,0,none⟩)))/\∀(u1:Nat->Value) (c:Both×Both) w'5,fsT g w ((x4.i:Int).toNat+1) (x4.i:Int).toNat c.fst c.snd w'5 (pointer (some ⟨x.p,0,none⟩)) (pointer (some ⟨x1.p,0,none⟩)) (pointer (some ⟨x2.p,0,none⟩)) (pointer (some ⟨x3.p,0,none⟩))->zc (decide ((x4.i:Int)<(g.l2.length:Int))) (qa (x4.i:Int) g.l2.length fun k=>zn g.a2 fun(b o:Nat)=>qY w'5 b (o+k) fun a7 n c1=>∃(g5:GFe), #[pointer (some ⟨x2.p,0,none⟩),pointer (some ⟨x3.p,0,none⟩),slice a7 n c1]= #[pointer (some ⟨g5.B.A1.p,0,none⟩),pointer (some ⟨g5.B.A2.p,0,none⟩),slice g5.ad g5.b.size g5.c]/\(BothAt w'5 g5.B/\CellsAt w'5 g5.ad (zh g5.b)/\g5.b.size<=16777216/\g5.B.m+3+g5.b.size<=549755813888/\(g5.b.size≠0->∀(q:Nat),zV g5.ad=some q->¬ZE g5.B q))/\∀(x5:Both) w'6,FedO w'5 w'6 g5.B x5 g5.b->∃(g6:GSh), #[pointer (some ⟨x2.p,0,none⟩),pointer (some ⟨x3.p,0,none⟩)]= #[pointer (some ⟨g6.A1.p,0,none⟩),pointer (some ⟨g6.A2.p,0,none⟩)]/\(GlIn w'6 g6.A1 g6.g/\RlIn w'6 g6.A2 g6.g g6.hl/\okG g6.g g6.m/\g6.m<=549755813888/\zm g6.g.cs<=67108864)/\∀(x6:Unit) w'7,Ext w'6 w'7->InR .i64 ((x4.i:Int)+1)/\∃(y:FsX),int .i64 ((x4.i:Int)+1)=int .i64 (y.i:Int)/\(y.i<=max g.l1.length g.l2.length/\fsT g w y.i y.i y.P y.Q w'7 (pointer (some ⟨x.p,0,none⟩)) (pointer (some ⟨x1.p,0,none⟩)) (pointer (some ⟨x2.p,0,none⟩)) (pointer (some ⟨x3.p,0,none⟩)))/\max g.l1.length g.l2.length - y.i<max g.l1.length g.l2.length - x4.i) (InR .i64 ((x4.i:Int)+1)/\∃(y:FsX),int .i64 ((x4.i:Int)+1)=int .i64 (y.i:Int)/\(y.i<=max g.l1.length g.l2.length/\fsT g w y.i y.i y.P y.Q w'5 (pointer (some ⟨x.p,0,none⟩)) (pointer (some ⟨x1.p,0,none⟩)) (pointer (some ⟨x2.p,0,none⟩)) (pointer (some ⟨x3.p,0,none⟩)))/\max g.l1.length g.l2.length - y.i<max g.l1.length g.l2.length - x4.i)) (∃(g5:GSh), #[pointer (some ⟨x.p,0,none⟩),pointer (some ⟨x1.p,0,none⟩)]= #[pointer (some ⟨g5.A1.p,0,none⟩),pointer (some ⟨g5.A2.p,0,none⟩)]/\(GlIn w'4 g5.A1 g5.g/\RlIn w'4 g5.A2 g5.g g5.hl/\okG g5.g g5.m/\g5.m<=549755813888/\zm g5.g.cs<=67108864)/\∀(x5:Unit) w'5,Ext w'4 w'5->∃(g6:GSh), #[pointer (some ⟨x2.p,0,none⟩),pointer (some ⟨x3.p,0,none⟩)]= #[pointer (some ⟨g6.A1.p,0,none⟩),pointer (some ⟨g6.A2.p,0,none⟩)]/\(GlIn w'5 g6.A1 g6.g/\RlIn w'5 g6.A2 g6.g g6.hl/\okG g6.g g6.m/\g6.m<=549755813888/\zm g6.g.cs<=67108864)/\∀(x6:Unit) w'6,Ext w'5 w'6->∃(g7:Unit),(#[]:Array Value)= #[]/\
 UP w'6/\∀(x7:Unit) w'7,Ext w'6 w'7->∃(x8:Unit),bool true=bool true/\Ext w w'7)):
    ((zeg true)).Ok Tryz.prog 4:=ze (zeg true) zqu zgi (fun _ _=>rfl) (fun _ _=>rfl) hsp Tryz.func4 rfl (n:=5) (fun _=>rfl) (by kernel_rfl) (zj (by kernel_rfl) h)
theorem zp0(hsp:zf Tryz.prog zgj)(h:∀(g:GFds) (w:World),UP w/\qo g.w g.h=false/\pcIn w g.a1 g.l1/\pcIn w g.a2 g.l2->(∃(g1:Int×Int×Bool), #[int .i64 g.w,int .i64 g.h,bool g.wd]= #[int .i64 g1.fst,int .i64 g1.snd.fst,bool g1.snd.snd]/\UDB w.heap.size w/\∀(x:NwO) w',((x.p=ptO x.o/\x.e=erO x.o)/\Ext w w'/\x.o.isSome=qo g1.fst g1.snd.fst/\∀(A:GlP),x.o=some A->A.B=w.heap.size/\GlIn w' A (Zg g1.fst.toNat g1.snd.fst.toNat g1.snd.snd)/\GlRd w' A none 0 (ByteArray.mk #[]))->∃(c:Unit),pointer x.p=pointer none/\int .i64 x.e=int .i64 5/\Ext w w')/\∀(u:Nat->Value) (c:Unit) w',Ext w w'->(∃(g1:Int×Int×Bool), #[int .i64 g.w,int .i64 g.h,bool g.wd]= #[int .i64 g1.fst,int .i64 g1.snd.fst,bool g1.snd.snd]/\UDB w'.heap.size w'/\∀(x:NwO) w'1,((x.p=ptO x.o/\x.e=erO x.o)/\Ext w' w'1/\x.o.isSome=qo g1.fst g1.snd.fst/\∀(A:GlP),x.o=some A->A.B=w'.heap.size/\RlIn w'1 A (Zg g1.fst.toNat g1.snd.fst.toNat g1.snd.snd) []/\RlRd w'1 A (ByteArray.mk #[]))->∃(c1:Unit),pointer x.p=pointer none/\int .i64 x.e=int .i64 5/\Ext w' w'1)/\∀(u1:Nat->Value) (c1:Unit) w'1,Ext w' w'1->(∃(g1:Int×Int×Bool), #[int .i64 9,int .i64 3,bool !g.wd]= #[int .i64 g1.fst,int .i64 g1.snd.fst,bool g1.snd.snd]/\UDB w'1.heap.size w'1/\∀(x:NwO) w'2,((x.p=ptO x.o/\x.e=erO x.o)/\Ext w'1 w'2/\x.o.isSome=qo g1.fst g1.snd.fst/\∀(A:GlP),x.o=some A->A.B=w'1.heap.size/\GlIn w'2 A (Zg g1.fst.toNat g1.snd.fst.toNat g1.snd.snd)/\GlRd w'2 A none 0 (ByteArray.mk #[]))->∃(c2:GlP),pointer x.p=pointer (some ⟨c2.p,0,none⟩)/\int .i64 x.e=int .i64 0/\Ext w'1 w'2/\c2.B=w'1.heap.size/\GlIn w'2 c2 (Zg 9 3 !g.wd)/\GlRd w'2 c2 none 0 (ByteArray.mk #[]))/\∀(u2:Nat->Value) (c2:GlP) w'2,Ext w'1 w'2/\c2.B=w'1.heap.size/\GlIn w'2 c2 (Zg 9 3 !g.wd)/\GlRd w'2 c2 none 0 (ByteArray.mk #[])->(∃(g1:Int×Int×Bool), #[int .i64 9,int .i64 3,bool !g.wd]= #[int .i64 g1.fst,int .i64 g1.snd.fst,bool g1.snd.snd]/\UDB w'2.heap.size w'2/\∀(x:NwO) w'3,((x.p=ptO x.o/\x.e=erO x.o)/\Ext w'2 w'3/\x.o.isSome=qo g1.fst g1.snd.fst/\∀(A:GlP),x.o=some A->A.B=w'2.heap.size/\RlIn w'3 A (Zg g1.fst.toNat g1.snd.fst.toNat g1.snd.snd) []/\RlRd w'3 A (ByteArray.mk #[]))->∃(c3:GlP),pointer x.p=pointer (some ⟨c3.p,0,none⟩)/\int .i64 x.e=int .i64 0/\Ext w'2 w'3/\c3.B=w'2.heap.size/\RlIn w'3 c3 (Zg 9 3 !g.wd) []/\RlRd w'3 c3 (ByteArray.mk #[]))/\∀(u3:Nat->Value) (c3:GlP) w'3,Ext w'2 w'3/\c3.B=w'2.heap.size/\RlIn w'3 c3 (Zg 9 3 !g.wd) []/\RlRd w'3 c3 (ByteArray.mk #[])->(∃(x:Nat×Both),int .i64 0=int .i64 (x.fst:Int)/\x.fst<=max g.l1.length g.l2.length/\fsF g w x.fst x.snd w'3 (pointer (some ⟨c2.p,0,none⟩)) (pointer (some ⟨c3.p,0,none⟩)))/\∀(u4:Nat->Value) (x:Nat×Both) w'4,x.fst<=max g.l1.length g.l2.length/\
 fsF g w x.fst x.snd w'4 (pointer (some ⟨c2.p,0,none⟩)) (pointer (some ⟨c3.p,0,none⟩))->zc (decide ((x.fst:Int)<(g.l1.length:Int))||decide ((x.fst:Int)<(g.l2.length:Int))) (zc (decide ((x.fst:Int)<(g.l1.length:Int))) (qa (x.fst:Int) g.l1.length fun k=>zn g.a1 fun(b o:Nat)=>qY w'4 b (o+k) fun a6 n c4=>∃(g1:GFo), #[pointer none,pointer none,slice a6 n c4]= #[pointer (pt1 g1.o),pointer (pt2 g1.o),slice g1.ad g1.b.size g1.c]/\(CellsAt w'4 g1.ad (zh g1.b)/\g1.b.size<=16777216/\∀(B:Both),g1.o=some B->BothAt w'4 B/\B.m+3+g1.b.size<=549755813888/\(g1.b.size≠0->∀(q:Nat),zV g1.ad=some q->¬ZE B q))/\∀(x1:Option Both) w'5,(match g1.o,x1 with|some B,some B'=>FedO w'4 w'5 B B' g1.b|none,none=>Ext w'4 w'5|x,x_1=>False)->∃(c5:Both),fsF g w (x.fst:Int).toNat c5 w'5 (pointer (some ⟨c2.p,0,none⟩)) (pointer (some ⟨c3.p,0,none⟩))) (∃(c4:Both),fsF g w (x.fst:Int).toNat c4 w'4 (pointer (some ⟨c2.p,0,none⟩)) (pointer (some ⟨c3.p,0,none⟩)))/\∀(u5:Nat->Value) (c4:Both) w'5,fsF g w (x.fst:Int).toNat c4 w'5 (pointer (some ⟨c2.p,0,none⟩)) (pointer (some ⟨c3.p,0,none⟩))->zc (decide ((x.fst:Int)<(g.l2.length:Int))) (qa (x.fst:Int) g.l2.length fun k=>zn g.a2 fun(b o:Nat)=>qY w'5 b (o+k) fun a7 n c5=>∃(g1:GFo), #[pointer (some ⟨c2.p,0,none⟩),pointer (some ⟨c3.p,0,none⟩),slice a7 n c5]= #[pointer (pt1 g1.o),pointer (pt2 g1.o),slice g1.ad g1.b.size g1.c]/\(CellsAt w'5 g1.ad (zh g1.b)/\g1.b.size<=16777216/\∀(B:Both),g1.o=some B->BothAt w'5 B/\B.m+3+g1.b.size<=549755813888/\(g1.b.size≠0->∀(q:Nat),zV g1.ad=some q->¬ZE B q))/\∀(x1:Option Both) w'6,(match g1.o,x1 with|some B,some B'=>FedO w'5 w'6 B B' g1.b|none,none=>Ext w'5 w'6|x,x_1=>False)->∃(g2:GSh), #[pointer (some ⟨c2.p,0,none⟩),pointer (some ⟨c3.p,0,none⟩)]= #[pointer (some ⟨g2.A1.p,0,none⟩),pointer (some ⟨g2.A2.p,0,none⟩)]/\(GlIn w'6 g2.A1 g2.g/\RlIn w'6 g2.A2 g2.g g2.hl/\okG g2.g g2.m/\g2.m<=549755813888/\zm g2.g.cs<=67108864)/\∀(x2:Unit) w'7,Ext w'6 w'7->InR .i64 ((x.fst:Int)+1)/\∃(y:Nat×Both),int .i64 ((x.fst:Int)+1)=int .i64 (y.fst:Int)/\(y.fst<=max g.l1.length g.l2.length/\fsF g w y.fst y.snd w'7 (pointer (some ⟨c2.p,0,none⟩)) (pointer (some ⟨c3.p,0,none⟩)))/\max g.l1.length g.l2.length - y.fst<max g.l1.length g.l2.length - x.fst) (InR .i64 ((x.fst:Int)+1)/\∃(y:Nat×Both),int .i64 ((x.fst:Int)+1)=int .i64 (y.fst:Int)/\(y.fst<=max g.l1.length g.l2.length/\fsF g w y.fst y.snd w'5 (pointer (some ⟨c2.p,0,none⟩)) (pointer (some ⟨c3.p,0,none⟩)))/\max g.l1.length g.l2.length - y.fst<max g.l1.length g.l2.length - x.fst)) (∃(g1:GSh), #[pointer (some ⟨c2.p,0,none⟩),pointer (some ⟨c3.p,0,none⟩)]= #[pointer (some ⟨g1.A1.p,0,none⟩),pointer (some ⟨g1.A2.p,0,none⟩)]/\(GlIn w'4 g1.A1 g1.g/\
 RlIn w'4 g1.A2 g1.g g1.hl/\okG g1.g g1.m/\g1.m<=549755813888/\zm g1.g.cs<=67108864)/\∀(x1:Unit) w'5,Ext w'4 w'5->∃(g2:Unit),(#[]:Array Value)= #[]/\UP w'5/\∀(x2:Unit) w'6,Ext w'5 w'6->∃(x3:Unit),bool true=bool true/\Ext w w'6)):
    ((zeg false)).Ok Tryz.prog 4:=ze (zeg false) zqv zgj (fun _ _=>rfl) (fun _ _=>rfl) hsp Tryz.func4 rfl (n:=5) (fun _=>rfl) (by kernel_rfl) (zj (by kernel_rfl) h)
end

section
open Go Go.RowKit Vc Ut Tb Cl Orb
theorem zvm:zwX.Ok Tryz.prog 14:=by
  rintro⟨W,H,wd⟩ w hu
  refine(zob (W,H,wd) w hu).mono fun e w' ⟨x,he,⟨hx,hb,hk⟩,hko⟩=> ?_
  cases hs:qo W H with
  |false=>
   obtain⟨k1,k2⟩:=hb hs
   refine⟨⟨none,5,none⟩,?_,⟨⟨rfl,rfl⟩,hx,hs.symm,fun A h=>by cases h⟩,hko⟩
   rw[he]
   show Ending.returned (Value.tuple #[.pointer x.p, .int .i64 x.e])=_
   rw[k1,k2];rfl
  |true=>
   obtain⟨k1,k2,k3,k4,k5⟩:=hk hs
   refine⟨⟨some ⟨x.A.p,0,none⟩,0,some x.A⟩,?_,⟨⟨rfl,rfl⟩,hx,hs.symm,fun A h=> ?_⟩,hko⟩
   ·rw[he]
    show Ending.returned (Value.tuple #[.pointer x.p, .int .i64 x.e])=_
    rw[k1,k2];rfl
   ·obtain rfl:=Option.some.inj h
    exact⟨k3,k4,k5⟩
theorem zrF:zrp.Ok Tryz.prog 15:=by
  rintro⟨W,H,wd⟩ w hu
  cases hs:qo W H with
  |false=>
   exact(zrI (W,H,wd) w ⟨hu,hs⟩).mono fun e w' ⟨_,he,hx,hko⟩=>⟨⟨none,5,none⟩,he,⟨⟨rfl,rfl⟩,hx,hs.symm,fun A h=>by cases h⟩,hko⟩
  |true=>
   have h:=hs
   unfold qo at h
   have h:=of_decide_eq_true h
   obtain⟨W,rfl⟩:∃n:Nat,W=(n:Int):=⟨W.toNat,by omega⟩
   obtain⟨H,rfl⟩:∃n:Nat,H=(n:Int):=⟨H.toNat,by omega⟩
   exact(zky (W,H,wd) w ⟨hu,by dsimp only;omega,by dsimp only;omega⟩).mono fun e w' ⟨A,he,⟨h1,h2,h3,h4⟩,hko⟩=>⟨⟨some ⟨A.p,0,none⟩,0,some A⟩,he,⟨⟨rfl,rfl⟩,h1,hs.symm,fun A' h=>by obtain rfl:=Option.some.inj h;exact⟨h2,h3,h4⟩⟩,hko⟩
theorem zvO:zwY.Ok Tryz.prog 16:=by
  rintro⟨o,ad,c,s⟩ w ⟨hc,hs,ho⟩
  dsimp only at hc hs ho
  cases o with
  |none=>exact(zvQ ⟨ad,c,s⟩ w ⟨hc,hs⟩).mono fun e w' ⟨_,he,hx,hko⟩=>⟨none,he,hx,hko⟩
  |some B=>
   obtain⟨h1,h2,h3⟩:=ho B rfl
   exact(zoy ⟨B,ad,c,s⟩ w ⟨h1,hc,hs,h2,h3⟩).mono fun e w' ⟨B',he,hx,hko⟩=>⟨some B',he,hx,hko⟩
end

section
open Go Go.RowKit Vc Ut Tb Cl Orb
theorem zaQ{a b:Nat}(h:Value.pointer (some ⟨a,0,none⟩)= .pointer (some ⟨b,0,none⟩)):a=b:=by
  injection h with h1;injection h1 with h2;injection h2
set_option maxRecDepth 8000 in
theorem zpZ:(zeg true).Ok Tryz.prog 4:=by
  refine zpY ⟨zoa,zky,zoy,zke,zhJ,trivial⟩ ?_
  rintro⟨gw,gh,wd,a1,c1,l1,a2,c2,l2⟩ w ⟨hU,hs,hp1,hp2⟩
  dsimp only at hs hp1 hp2⊢
  obtain⟨W,H,rfl,rfl,hW,hH⟩:=zuw hs
  refine⟨(W,H,wd),rfl,⟨hU.1,hW,hH⟩,?_⟩
  rintro A1 w1 ⟨hx1,b1,g1,r1⟩
  refine⟨(W,H,wd),rfl,⟨(hU.ext hx1).1,hW,hH⟩,?_⟩
  rintro A2 w2 ⟨hx2,b2,g2,r2⟩
  have hx02:=Ext.trans hx1 hx2
  refine⟨(9,3,!wd),rfl,⟨(hU.ext hx02).1,by show(9:Nat)<=1024;omega,by show(3:Nat)<=1024;omega⟩,?_⟩
  rintro A3 w3 ⟨hx3,b3,g3,r3⟩
  have hx03:=Ext.trans hx02 hx3
  refine⟨(9,3,!wd),rfl,⟨(hU.ext hx03).1,by show(9:Nat)<=1024;omega,by show(3:Nat)<=1024;omega⟩,?_⟩
  rintro A4 w4 ⟨hx4,b4,g4,r4⟩
  have hx04:=Ext.trans hx03 hx4
  have s1:=hx1.size;have s2:=hx2.size;have s3:=hx3.size
  have kP:fsG w l1 0 (zgW w A1 A2 (Zg W H wd)) w4:=zm1 l1 hU hx04 (by omega) g1 r1 (by omega) (Ext.trans hx2 (Ext.trans hx3 hx4)) g2 r2 (Ext.trans hx3 hx4) hW hH
  have kQ:fsG w l2 0 (zgW w A3 A4 (Zg 9 3 (!wd))) w4:=zm1 l2 hU hx04 (by omega) g3 r3 (by omega) hx4 g4 r4 (Ext.refl w4) (by decide) (by decide)
  have dPQ:∀z,ZE (zgW w A1 A2 (Zg W H wd)) z->¬ZE (zgW w A3 A4 (Zg 9 3 (!wd))) z:=fun z hz hq=>by
    have:=zn8 g1 r1 g2 r2 z hz
    have:=zn8 g3 r3 g4 r4 z hq
    omega
  have hb1:=hp1.2.2;have hb2:=hp2.2.2
  have n1:=zhr l1;have n2:=zhr l2
  refine⟨⟨⟨0,_,_⟩,rfl,Nat.zero_le _,⟨hx04,kP,kQ,dPQ,rfl,rfl,rfl,rfl⟩⟩,?_⟩
  clear kP kQ dPQ s1 s2 s3 hx04 hx03 hx02 g1 g2 g3 g4 r1 r2 r3 r4 b1 b2 b3 b4 hx1 hx2 hx3 hx4
  rintro - ⟨i,P,Q⟩ w5 ⟨hi,S⟩
  dsimp only at hi S⊢
  have e1:=zaQ S.v11;have e2:=zaQ S.v13
  have e3:=zaQ S.v15;have e4:=zaQ S.v17
  refine zb (fun h=> ?_) (fun _=> ?_)
  ·have hlt:i<max l1.length l2.length:=by
     simp only[Bool.or_eq_true,decide_eq_true_eq]at h
     omega
   have hin:InR .i64 ((i:Int)+1):=zd (by omega) (by omega)
   refine⟨zb (fun h1=> ?_) (fun _=>⟨(P,Q),⟨S.ext,S.p.up,S.q,S.dis,S.v11,S.v13,S.v15,S.v17⟩⟩),?_⟩
   ·have hi1:i<l1.length:=by have:=of_decide_eq_true h1;omega
    obtain⟨hc,hsz,hlo⟩:=hp1.b S.ext hi1
    refine⟨i,rfl,hi1,hp1.at S.ext hi1 fun b o hv=>⟨_,_,_,hv,⟨P,(l1.getD i QZ).ad,(l1.getD i QZ).c,(l1.getD i QZ).b⟩,by rw[e1,e2],⟨S.p.k,hc,by dsimp only;omega,by have:=(S.p.small hb1).1;dsimp only;omega,fun h0 q hq hh=>by have:=hlo h0 q hq;have:=(S.p.lt q hh).1;omega⟩,?_⟩⟩
    intro P' w6 F
    have p':=S.p.fed hi1 rfl F
    obtain⟨q',d'⟩:=S.q.other F S.p.b S.p.k S.dis
    have hx6:Ext w w6:=zbR F.st S.ext (fun q hq=>(S.p.lt q hq).1)
    have f1:A1.p=P'.A1.p:=e1.trans F.p1.symm
    have f2:A2.p=P'.A2.p:=e2.trans F.p2.symm
    refine⟨⟨P'.A1,P'.A2,P'.g,P'.hl,P'.m⟩,by rw[f1,f2],p'.sh hb1,?_⟩
    intro _ w7 hx7
    exact⟨(P',Q),⟨Ext.trans hx6 hx7,p'.ext hx7,q'.ext hx7,d',by rw[f1],by rw[f2],S.v15,S.v17⟩⟩
   clear S e1 e2 e3 e4
   rintro - ⟨P2,Q2⟩ w6 S
   dsimp only at S⊢
   have S:fsT ⟨W,H,wd,a1,c1,l1,a2,c2,l2⟩ w (i+1) i P2 Q2 w6 (.pointer (some ⟨A1.p,0,none⟩)) (.pointer (some ⟨A2.p,0,none⟩)) (.pointer (some ⟨A3.p,0,none⟩)) (.pointer (some ⟨A4.p,0,none⟩)):=S
   have e3:=zaQ S.v15;have e4:=zaQ S.v17
   refine zb (fun h1=> ?_) (fun _=>⟨hin,⟨i+1,P2,Q2⟩,rfl,⟨hlt,⟨S.ext,S.p,S.q.up,S.dis,S.v11,S.v13,S.v15,S.v17⟩⟩,by dsimp only;omega⟩)
   have hi1:i<l2.length:=by have:=of_decide_eq_true h1;omega
   obtain⟨hc,hsz,hlo⟩:=hp2.b S.ext hi1
   refine⟨i,rfl,hi1,hp2.at S.ext hi1 fun b o hv=>⟨_,_,_,hv,⟨Q2,(l2.getD i QZ).ad,(l2.getD i QZ).c,(l2.getD i QZ).b⟩,by rw[e3,e4],⟨S.q.k,hc,by dsimp only;omega,by have:=(S.q.small hb2).1;dsimp only;omega,fun h0 q hq hh=>by have:=hlo h0 q hq;have:=(S.q.lt q hh).1;omega⟩,?_⟩⟩
   intro Q' w7 F
   have q':=S.q.fed hi1 rfl F
   obtain⟨p',d'⟩:=S.p.other F S.q.b S.q.k (fun z hz hh=>S.dis z hh hz)
   have hx7:Ext w w7:=zbR F.st S.ext (fun q hq=>(S.q.lt q hq).1)
   have f1:A3.p=Q'.A1.p:=e3.trans F.p1.symm
   have f2:A4.p=Q'.A2.p:=e4.trans F.p2.symm
   refine⟨⟨Q'.A1,Q'.A2,Q'.g,Q'.hl,Q'.m⟩,by rw[f1,f2],q'.sh hb2,?_⟩
   intro _ w8 hx8
   exact⟨hin,⟨i+1,P2,Q'⟩,rfl,⟨hlt,⟨Ext.trans hx7 hx8,p'.ext hx8,q'.ext hx8,fun z hz hh=>d' z hh hz,S.v11,S.v13,by rw[f1],by rw[f2]⟩⟩,by dsimp only;omega⟩
  ·refine⟨⟨P.A1,P.A2,P.g,P.hl,P.m⟩,by rw[e1,e2],S.p.sh hb1,?_⟩
   intro _ w6 hx6
   refine⟨⟨Q.A1,Q.A2,Q.g,Q.hl,Q.m⟩,by rw[e3,e4],(S.q.ext hx6).sh hb2,?_⟩
   intro _ w7 hx7
   have hx:=Ext.trans S.ext (Ext.trans hx6 hx7)
   exact⟨(),rfl,hU.ext hx,fun _ w8 hx8=>⟨(),rfl,Ext.trans hx hx8⟩⟩
set_option maxRecDepth 8000 in
theorem zp1:(zeg false).Ok Tryz.prog 4:=by
  refine zp0 ⟨zvm,zrF,zvO,zke,zhJ,trivial⟩ ?_
  rintro⟨gw,gh,wd,a1,c1,l1,a2,c2,l2⟩ w ⟨hU,hs,hp1,hp2⟩
  dsimp only at hs hp1 hp2⊢
  have no:∀{x:NwO},(x.p=ptO x.o/\x.e=erO x.o)->x.o.isSome=qo gw gh->x.p=none/\x.e=5:=fun{x} h h2=>by
    rw[hs]at h2
    cases ho:x.o with
    |none=>rw[ho]at h;exact h
    |some A=>rw[ho]at h2;cases h2
  have yes:∀{x:NwO},(x.p=ptO x.o/\x.e=erO x.o)->x.o.isSome=qo 9 3->∃A,x.o=some A/\x.p=some ⟨A.p,0,none⟩/\x.e=0:=fun{x} h h2=>by
    cases ho:x.o with
    |none=>rw[ho]at h2;exact absurd h2 (by decide)
    |some A=>rw[ho]at h;exact⟨A,rfl,h⟩
  refine⟨⟨(gw,gh,wd),rfl,hU.1,fun x w1 ⟨h1,hx,h2,_⟩=>⟨(),by rw[(no h1 h2).1],by rw[(no h1 h2).2],hx⟩⟩,?_⟩
  rintro - - w1 hx1
  refine⟨⟨(gw,gh,wd),rfl,(hU.ext hx1).1,fun x w1 ⟨h1,hx,h2,_⟩=>⟨(),by rw[(no h1 h2).1],by rw[(no h1 h2).2],hx⟩⟩,?_⟩
  rintro - - w2 hx2
  have hx02:=Ext.trans hx1 hx2
  refine⟨⟨(9,3,!wd),rfl,(hU.ext hx02).1,fun x w3 ⟨h1,hx,h2,h3⟩=> ?_⟩,?_⟩
  ·obtain⟨A,k1,k2,k3⟩:=yes h1 h2
   obtain⟨k4,k5,k6⟩:=h3 A k1
   exact⟨A,by rw[k2],by rw[k3],hx,k4,k5,k6⟩
  rintro - A3 w3 ⟨hx3,b3,g3,r3⟩
  have hx03:=Ext.trans hx02 hx3
  refine⟨⟨(9,3,!wd),rfl,(hU.ext hx03).1,fun x w4 ⟨h1,hx,h2,h3⟩=> ?_⟩,?_⟩
  ·obtain⟨A,k1,k2,k3⟩:=yes h1 h2
   obtain⟨k4,k5,k6⟩:=h3 A k1
   exact⟨A,by rw[k2],by rw[k3],hx,k4,k5,k6⟩
  rintro - A4 w4 ⟨hx4,b4,g4,r4⟩
  have hx04:=Ext.trans hx03 hx4
  have s1:=hx1.size;have s2:=hx2.size;have s3:=hx3.size
  have kQ:fsG w l2 0 (zgW w A3 A4 (Zg 9 3 (!wd))) w4:=zm1 l2 hU hx04 (by omega) g3 r3 (by omega) hx4 g4 r4 (Ext.refl w4) (by decide) (by decide)
  have hb2:=hp2.2.2;have hb1:=hp1.2.2
  have n1:=zhr l1;have n2:=zhr l2
  refine⟨⟨(0,_),rfl,Nat.zero_le _,⟨hx04,kQ,rfl,rfl⟩⟩,?_⟩
  clear kQ s1 s2 s3 hx04 hx03 hx02 g3 g4 r3 r4 b3 b4 hx1 hx2 hx3 hx4 no yes
  rintro - ⟨i,Q⟩ w5 ⟨hi,S⟩
  dsimp only at hi S⊢
  have e3:=zaQ S.v15;have e4:=zaQ S.v17
  refine zb (fun h=> ?_) (fun _=> ?_)
  ·have hlt:i<max l1.length l2.length:=by
     simp only[Bool.or_eq_true,decide_eq_true_eq]at h
     omega
   have hin:InR .i64 ((i:Int)+1):=zd (by omega) (by omega)
   refine⟨zb (fun h1=> ?_) (fun _=>⟨Q,⟨S.ext,S.q,S.v15,S.v17⟩⟩),?_⟩
   ·have hi1:i<l1.length:=by have:=of_decide_eq_true h1;omega
    obtain⟨hc,hsz,hlo⟩:=hp1.b S.ext hi1
    refine⟨i,rfl,hi1,hp1.at S.ext hi1 fun b o hv=>⟨_,_,_,hv,⟨none,(l1.getD i QZ).ad,(l1.getD i QZ).c,(l1.getD i QZ).b⟩,rfl,⟨hc,by dsimp only;omega,fun B hB=>by cases hB⟩,?_⟩⟩
    intro x w6 hx
    cases x with
    |some B=>exact hx.elim
    |none=>exact⟨Q,⟨Ext.trans S.ext hx,S.q.ext hx,S.v15,S.v17⟩⟩
   clear S e3 e4
   rintro - Q2 w6 S
   have S:fsF ⟨gw,gh,wd,a1,c1,l1,a2,c2,l2⟩ w i Q2 w6 (.pointer (some ⟨A3.p,0,none⟩)) (.pointer (some ⟨A4.p,0,none⟩)):=S
   have e3:=zaQ S.v15;have e4:=zaQ S.v17
   refine zb (fun h1=> ?_) (fun _=>⟨hin,(i+1,Q2),rfl,⟨hlt,⟨S.ext,S.q.up,S.v15,S.v17⟩⟩,by dsimp only;omega⟩)
   have hi1:i<l2.length:=by have:=of_decide_eq_true h1;omega
   obtain⟨hc,hsz,hlo⟩:=hp2.b S.ext hi1
   refine⟨i,rfl,hi1,hp2.at S.ext hi1 fun b o hv=>⟨_,_,_,hv,⟨some Q2,(l2.getD i QZ).ad,(l2.getD i QZ).c,(l2.getD i QZ).b⟩,by rw[e3,e4];rfl,⟨hc,by dsimp only;omega,fun B hB=> ?_⟩,?_⟩⟩
   ·obtain rfl:=Option.some.inj hB
    exact⟨S.q.k,by have:=(S.q.small hb2).1;dsimp only;omega,fun h0 q hq hh=>by have:=hlo h0 q hq;have:=(S.q.lt q hh).1;omega⟩
   intro x w7 F
   cases x with
   |none=>exact F.elim
   |some Q'=>
    have F:FedO w6 w7 Q2 Q' (l2.getD i QZ).b:=F
    have q':=S.q.fed hi1 rfl F
    have hx7:Ext w w7:=zbR F.st S.ext (fun q hq=>(S.q.lt q hq).1)
    have f1:A3.p=Q'.A1.p:=e3.trans F.p1.symm
    have f2:A4.p=Q'.A2.p:=e4.trans F.p2.symm
    refine⟨⟨Q'.A1,Q'.A2,Q'.g,Q'.hl,Q'.m⟩,by rw[f1,f2],q'.sh hb2,?_⟩
    intro _ w8 hx8
    exact⟨hin,(i+1,Q'),rfl,⟨hlt,⟨Ext.trans hx7 hx8,q'.ext hx8,by rw[f1],by rw[f2]⟩⟩,by dsimp only;omega⟩
  ·refine⟨⟨Q.A1,Q.A2,Q.g,Q.hl,Q.m⟩,by rw[e3,e4],S.q.sh hb2,?_⟩
   intro _ w6 hx6
   have hx:=Ext.trans S.ext hx6
   exact⟨(),rfl,hU.ext hx,fun _ w8 hx8=>⟨(),rfl,Ext.trans hx hx8⟩⟩
def zuB:CallSpec where
  G:=GFds
  args:=fun g=> #[.int .i64 g.w, .int .i64 g.h, .bool g.wd, .slice g.a1 g.l1.length g.c1, .slice g.a2 g.l2.length g.c2]
  pre:=fun g w=>UP w/\pcIn w g.a1 g.l1/\pcIn w g.a2 g.l2
  X:=Unit
  res:=fun _=> .bool true
  post:=fun _ w _ w'=>Ext w w'
theorem zs9:zuB.Ok Tryz.prog 4:=by
  rintro g w ⟨hU,h1,h2⟩
  cases hs:qo g.w g.h with
  |false=>exact zp1 g w ⟨hU,hs,h1,h2⟩
  |true=>exact zpZ g w ⟨hU,hs,h1,h2⟩
end

section
namespace Lw
open Go Go.RowKit Go.ChangeShapes Go.WideShapes Go.ChangeAt Vc
section
variable {H : Type} {enc : TypeId × Value → H} {P : Program}
theorem zcJ(hl:laidOutB P=true){W W':World}(hx:Below W.heap.size W W'){sp:Nat->Bool}:∀{ts:List TypeId} {vs:List Value} {ds:List (DataW H)} {p:List MemPlace},
    ts.all (fun t=>P.readableRec t&&decide (t<P.types.size))=true->DataW.TrodAll enc P W 0 (fun _=>true) true ts vs ds p->(∀x∈p,x.block<W.heap.size)->(∀x∈p,sp x.block=true)->DataW.TrodAll enc P W' 0 sp true ts vs ds p
  |[],vs,ds,p,_,h,_,_=>by
   obtain⟨rfl,rfl,rfl⟩:=trodAll_nil h
   exact trodAll_mk0
  |t::ts,vs,ds,p,hp,h,hlt,hs=>by
   obtain⟨v,vs',d,ds',a,b,rfl,rfl,rfl,h1,h2⟩:=trodAll_cons h
   simp only[List.all_cons,Bool.and_eq_true,decide_eq_true_eq]at hp
   have h3:=WideElems.Trod_stays (sp':=sp) hl hp.1.1 hp.1.2 h1 (fun x hx'=>hx.same (hlt x (by simp[hx']))) (fun x hx'=>hs x (by simp[hx']))
   exact⟨a,b,h3,zcJ hl hx (by simpa using hp.2) h2 (fun x hx'=>hlt x (by simp[hx'])) (fun x hx'=>hs x (by simp[hx'])),rfl⟩
theorem zrX{f:Func}{s:ChangeSpec}{apart fresh handsOn again:Bool}{W W':World}{args:Array Value}{ds gs:List (DataW H)}{before:List MemPlace}{tb:TypeId}(hW:DataW.Whole enc P f.params.toList s.vars apart W args.toList ds gs before)(hvars:s.vars=[])
    (hfn:s.fn H ds={results:=[.lit (.bool true)],args:=ds}) (hres:f.resultTypes= #[tb]) (htb:P.underlying tb=some .bool) (hl:laidOutB P=true) (hp:f.params.toList.all (fun t=>P.readableRec t&&decide (t<P.types.size))=true) (hx:Below W.heap.size W W'):
    s.post enc P f apart fresh handsOn again W args (.bool true) W':=by
  have hW0:=hW
  obtain⟨pa,pv,hA,hV,rfl,hz,hn⟩:=hW
  rw[hvars]at hV
  obtain⟨rfl,rfl⟩:=trodVars_none hV
  simp only[List.append_nil]at hW0 hz hn
  have hlt:∀x∈pa,x.block<W.heap.size:=fun x hx=>by simpa using hW0.lt x hx
  have hr:∀(b:Nat) (sp:Nat->Bool) (hd:Bool),DataW.TrodAll enc P W' b sp hd f.resultTypes.toList ((Value.bool true).resultList f.resultTypes.size) (s.fn H (ds++[])).results []:=by
    intro b sp hd
    rw[List.append_nil,hfn,hres]
    exact trodAll_cons_mk (shut_bool htb _) trodAll_mk0
  have ha:∀sp:Nat->Bool,(∀p∈pa,sp p.block=true)->DataW.TrodAll enc P W' 0 sp true f.params.toList args.toList (s.fn H (ds++[])).args pa:=by
    intro sp hs
    rw[List.append_nil,hfn]
    exact zcJ hl hx hp hA hlt hs
  have hv:∀sp:Nat->Bool,DataW.TrodVars enc P W' sp s.vars (s.fn H (ds++[])).vars []:=by
    intro sp
    rw[List.append_nil,hfn,hvars]
    rfl
  refine⟨ds,[],pa,[],pa,[],hW0,hr _ _ _,ha _ (fun p hp=>by simpa using hlt p hp),hv _,World.keptBut_mono (fun p hp=>⟨hp, .inr (.inl hp)⟩) (hx.frame _),fun _=> ?_⟩
  refine⟨ok_one hres rfl (okWide_bool_mk htb _),_,_,([]++pa)++[],⟨[]++pa,[],trodAll_append (ha _ (fun _ _=>rfl)) (hr _ _ _),hv _,rfl,?_,?_⟩,?_⟩
  ·intro b off hp
   have hp':MemPlace.cell b off∈pa:=by simpa using hp
   rw[hx.frozen (hlt _ hp')]
   exact hz b off hp'
  ·intro ha'
   have:=hn ha'
   simpa using this
  ·intro p hp _
   simpa using hp
theorem zpL{f:FuncId}{fn:Func}{s:ChangeSpec}{apart fresh handsOn again:Bool}{W:World}{args:Array Value}{ds gs:List (DataW H)}{before:List MemPlace}{tb:TypeId}(hW:DataW.Whole enc P fn.params.toList s.vars apart W args.toList ds gs before)(hvars:s.vars=[])
    (hfn:s.fn H ds={results:=[.lit (.bool true)],args:=ds}) (hres:fn.resultTypes= #[tb]) (htb:P.underlying tb=some .bool) (hl:laidOutB P=true) (hp:fn.params.toList.all (fun t=>P.readableRec t&&decide (t<P.types.size))=true)
    (h:Calls P f args W fun e W'=>e= .returned (.bool true)/\Below W.heap.size W W'):
    Calls P f args W fun e W'=>∃v,e= .returned v/\s.post enc P fn apart fresh handsOn again W args v W':=
  h.mono fun e W' ⟨he,hx⟩=>⟨_,he,zrX hW hvars hfn hres htb hl hp hx⟩
end
end Lw
end
end Go.Proofs.YtjdohhididpomaaGreatDoor
