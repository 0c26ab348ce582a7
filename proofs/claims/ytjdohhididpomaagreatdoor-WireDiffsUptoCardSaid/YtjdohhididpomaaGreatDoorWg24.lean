/-
  Texts joined by program: WkYa, SpXu, VgXu, WkYe, SpXt, WkYh, SpXv, VgXv.
-/
import Derived.Test.YtjdohhididpomaaGreatDoorWg19
import Derived.Test.YtjdohhididpomaaGreatDoorWg22
import Derived.Test.YtjdohhididpomaaGreatDoorWg23
import Derived.Test.YtjdohhididpomaaGreatDoorWg21
import Derived.Test.YtjdohhididpomaaGreatDoorProg
import Derived.KernelRfl
set_option linter.unusedVariables false
set_option linter.unusedSimpArgs false

namespace Go.Proofs.YtjdohhididpomaaGreatDoor
section
open Go Go.RowKit Vc Ut Tb Cl Orb
theorem UP.ext{w w':World}(h:UP w)(hx:Ext w w'):UP w':=
  ⟨fun w'' h'=>h.1 w'' (Below.trans hx (h'.mono hx.size)),fun w'' h'=>h.2 w'' (Below.trans hx (h'.mono hx.size))⟩
theorem UP.ud{w:World}(h:UP w):UD w:=h.1 w (Below.refl _ _)
theorem ztO{w:World}{b:Nat}{cs:Array Value}{t:TypeId}{m:Nat×Nat}(h:w.heap[b]? =some (.cells cs t m)):CellsAt w (some ⟨b,0,none⟩) cs.toList:=
  .inr ⟨b,0,rfl,fun j v hj=>by rw[Nat.zero_add,za h,<-Array.getElem?_toList];exact hj⟩
theorem zsI{w0 w w1:World}{b:Nat}(h:Marked w b w1)(hx:Ext w0 w)(hb:w0.heap.size<=b):Ext w0 w1:=Below.trans hx (h.below _ hb)
structure GlAt(w:World)(A:GlP)(g:Gs)(m:Nat)(ha:Option Addr)(hc:Nat)(h:ByteArray):Prop where
  gl:GlIn w A g
  ok:okG g m
  rd:GlRd w A ha hc h
theorem GlAt.lt{w:World}{A:GlP}{g:Gs}{m hc:Nat}{ha:Option Addr}{h:ByteArray}(k:GlAt w A g m ha hc h):∀q,zmW A ha h q->A.B<=q/\q<w.heap.size:=by
  rintro q (hq|hq)
  ·exact⟨k.gl.bq q hq,k.gl.lt q hq⟩
  ·have:=k.rd.far q hq
   exact⟨this.1,this.2.1⟩
theorem GlAt.keep{S:Nat->Prop}{w w':World}{A:GlP}{g:Gs}{m hc:Nat}{ha:Option Addr}{h:ByteArray}(k:GlAt w A g m ha hc h)(hf:Fr S w w')(hS:∀q,S q->A.B<=q/\¬zmW A ha h q):GlAt w' A g m ha hc h:=
  ⟨k.gl.fr hf (fun q hq=>⟨(hS q hq).1,fun hh=>(hS q hq).2 (.inl hh)⟩),k.ok,
    ⟨k.rd.rd.fr hf (fun hq=>(hS _ hq).2 (.inr (.inl rfl))) (fun q hq h0 hS'=>(hS q hS').2 (.inr (.inr ⟨hq,h0⟩))),k.rd.sm,fun q hq=>by
      have:=k.rd.far q hq
      exact⟨this.1,Nat.lt_of_lt_of_le this.2.1 hf.size,this.2.2⟩⟩⟩
theorem GlAt.ext{w w':World}{A:GlP}{g:Gs}{m hc:Nat}{ha:Option Addr}{h:ByteArray}(k:GlAt w A g m ha hc h)(hx:Ext w w'):GlAt w' A g m ha hc h:=
  k.keep (S:=fun _=>False) (Fr.of_ext hx) (fun _ hq=>hq.elim)
theorem GlAt.fed{w w':World}{A A':GlP}{g:Gs}{m hc hc':Nat}{ha ha':Option Addr}{h b:ByteArray}(k:GlAt w A g m ha hc h)(hF:FdOut w w' A ha h A' ha' hc' (zH g (ZF (h++b))) (fdH (h++b))):GlAt w' A' (zH g (ZF (h++b))) (m+(ZF (h++b)).length) ha' hc' (fdH (h++b)):=
  ⟨hF.is,zdU _ k.ok,hF.rd⟩
theorem GlAt.up{w:World}{A:GlP}{g:Gs}{m n hc:Nat}{ha:Option Addr}{h:ByteArray}(k:GlAt w A g m ha hc h)(hm:m<=n):GlAt w A g n ha hc h:=⟨k.gl,k.ok.mono hm,k.rd⟩
theorem zgk{S S':Nat->Prop}{w0 w w':World}(h:Step S w w' S')(hx:Ext w0 w)(hS:∀q,S q->w0.heap.size<=q):Ext w0 w':=
  Below.trans hx (h.fr.below hx.size (fun q hq hh=>by have:=hS q hh;omega))
theorem zvE:zxh.Ok Tryz.prog 14:=by
  rintro⟨W,H,wd⟩ w ⟨hu,h1,h2⟩
  dsimp only at h1 h2
  refine(zvG ((W:Int),(H:Int),wd) w hu).mono fun e w' ⟨x,he,⟨hx,_,hk⟩,hko⟩=> ?_
  obtain⟨k1,k2,k3,k4,k5⟩:=hk (decide_eq_true (show(0:Int)<=(W:Int)/\(W:Int)<=1024/\(0:Int)<=(H:Int)/\(H:Int)<=1024 by omega))
  refine⟨x.A,?_,⟨hx,k3,k4,k5⟩,hko⟩
  rw[he]
  show Ending.returned (Value.tuple #[.pointer x.p, .int .i64 x.e])=_
  rw[k1,k2];rfl
theorem zp1{w w':World}{a:Option Addr}{n c:Nat}(h:Made w w' 5 1 a n (zu ((none:Option ByteArray).getD ⟨#[]⟩)) c):n=0:=by
  have h1:([]:List Value).length=n*1:=h.row.1
  rw[List.length_nil]at h1;omega
theorem zp0{w w':World}{a:Option Addr}{n c:Nat}{s:ByteArray}(h:Made w w' 5 1 a n (zu s) c):n=s.size:=by
  have:=h.row.1
  unfold zu at this
  rw[List.length_map,Array.length_toList]at this
  have e:s.size=s.data.size:=rfl
  omega
set_option maxRecDepth 8000 in
theorem zo8:zfy.Ok Tryz.prog 7:=by
  refine zo7 ⟨zvE,ztt,zs8,zia,zoP,zky,trivial⟩ ?_
  rintro⟨⟩ w hU
  refine⟨(4,2,false),rfl,⟨hU.1,by decide,by decide⟩,?_⟩
  rintro A w1 ⟨hx1,hB,hG1,hR1⟩
  dsimp only at hG1
  refine⟨⟨(),rfl⟩,?_⟩
  rintro _ - w1' h1
  replace h1:=h1.symm;subst h1
  intro b w2 hn2 w3 hm3
  have z2:=hn2.size
  have hx13:Ext w1 w3:=zsI hm3 hn2.ext (by omega)
  have hA1:GlAt w1 A (zaO 4 2 false) 0 none 0 ⟨#[]⟩:=⟨hG1,zsq (by decide) (by decide) false,hR1⟩
  have hA3:=hA1.ext hx13
  have hx3:=Ext.trans hx1 hx13
  obtain⟨m',hb3⟩:=hm3.at_ _ _ _ hn2.heap
  have hc3:CellsAt w3 (some ⟨b,0,none⟩) (zu wkB):=ztO hb3
  refine⟨⟨A,zaO 4 2 false,0,none,0,⟨#[]⟩,some ⟨b,0,none⟩,9,wkB⟩,rfl,⟨hA3.gl,hA3.ok,hA3.rd,hc3,by show(9:Nat)<=67108864;decide,by show 0+3+9<=549755813888;decide⟩,?_⟩
  rintro⟨A4,ha4,hc4⟩ w4 hF
  dsimp only at hF
  have hA4:=hA3.fed hF
  have hp4:A4.p=A.p:=hF.p
  have hB4:A4.B=w.heap.size:=hF.b.trans hB
  have hx4:Ext w w4:=zgk hF.st hx3 (fun q hq=>by have:=(hA3.lt q hq).1;omega)
  have hlen:(ZF (⟨#[]⟩++wkB)).length<=9:=zd3 _
  obtain⟨e1,e2,e3,e4,e5,e6⟩:=zyL
  have hA4:GlAt w4 A4 wkG 9 ha4 hc4 ⟨#[]⟩:=by
    have:=hA4.up (n:=9) (by omega)
    rw[e6]at this
    exact this
  have hwd:wkG.wd=false/\wkG.w=4/\wkG.h=2:=by
    have:=znm (ZF (⟨#[]⟩++wkB)) (zaO 4 2 false)
    exact⟨this.2.2,this.1,this.2.1⟩
  clear hF hA3 hc3
  generalize wkG=G at e1 e2 e3 e4 e5 hA4 hwd
  obtain⟨gd,gw,gh⟩:=hwd
  have gl:G.cs.length=8:=by rw[e1];rfl
  refine⟨⟨A4,G⟩,by rw[hp4],⟨hA4.gl,hA4.ok.fit (by decide)⟩,?_⟩
  rintro⟨⟨a5,c5⟩,gr⟩ w5 ⟨hgr,hm5⟩
  dsimp only at hgr hm5
  subst hgr
  intro b1 w6 hn6
  have z6:=hn6.size
  have hx46:Ext w4 w6:=Ext.trans hm5.ext hn6.ext
  have hx6:=Ext.trans hx4 hx46
  have hA6:=hA4.ext hx46
  have hbx:=hn6.heap
  have hcs6:CellsAt w6 a5 (zE G.cs):=hm5.row.cells.ext hn6.ext
  have hbk:zi G.cs<=100:=by rw[e1];decide
  have hgx:(qQ G).x=2:=by rw[zne,if_pos ⟨e4,by rw[e1];simp⟩,e2,gw];rfl
  have hgy:(qQ G).y=1:=by rw[znd,if_pos ⟨e4,by rw[e1];simp⟩,e3];rfl
  have c0:(zg G.cs 0).t=⟨#[228,184,128]⟩:=by rw[e1];rfl
  have c1:(zg G.cs 1).p=1:=by rw[e1];rfl
  have c4:(zg G.cs 4).t=⟨#[228,184,137]⟩:=by rw[e1];rfl
  have hright:zm (qQ G) false=true:=by have:=znf hA4.ok;rw[gd]at this;exact this
  refine⟨⟨_,_,_,(za hbx 2).trans rfl,zb (fun h=> ?_) (fun _=>⟨_,_,_,(za hbx 2).trans rfl,0,rfl,by rw[show(qQ G).cs=G.cs from rfl];omega,hcs6.ce (i:=0) (by omega) fun b2 o hc=>⟨_,hc.1,zb (fun h=> ?_) (fun _=>⟨_,_,_,(za hbx 2).trans rfl,1,rfl,by rw[show(qQ G).cs=G.cs from rfl];omega,hcs6.ce (i:=1) (by omega) fun b3 o1 hc1=>⟨_,hc1.2.1,zb (fun h=> ?_) (fun _=>⟨_,_,_,(za hbx 2).trans rfl,4,rfl,by rw[show(qQ G).cs=G.cs from rfl];omega,hcs6.ce (i:=4) (by omega) fun b4 o2 hc2=>⟨_,hc2.1,zb (fun h=> ?_) (fun _=>⟨_,(za hbx 3).trans rfl,zb (fun h=> ?_) (fun _=>⟨_,(za hbx 4).trans rfl,zb (fun h=> ?_) (fun _=>⟨_,(za hbx 0).trans rfl,_,(za hbx 1).trans rfl,_,_,_,(za hbx 2).trans rfl,_,(za hbx 3).trans rfl,_,(za hbx 4).trans rfl,⟨a5,c5,qQ G,false⟩,rfl,⟨(hU.ext hx6).ud,hcs6,by show zi G.cs<=_;omega⟩,fun x3 w7 ⟨hx3',hx7⟩=>zb (fun h=> ?_) (fun _=>⟨(),hx7⟩)⟩)⟩)⟩)⟩⟩)⟩⟩)⟩⟩)⟩,?_⟩
  ·rw[show(qQ G).cs=G.cs from rfl,gl]at h;exact absurd h (by decide)
  ·rw[c0]at h;simp at h
  ·rw[c1]at h;exact absurd h (by decide)
  ·rw[c4]at h;simp at h
  ·rw[hgx]at h;exact absurd h (by decide)
  ·rw[hgy]at h;exact absurd h (by decide)
  ·dsimp only at hx3'
   rw[hx3',hright]at h;cases h
  rintro _ - w7 hx67
  have hx7:=Ext.trans hx6 hx67
  refine⟨8,8,rfl,rfl,by decide,by decide,by decide,fun b2 w8 hn8 b3 w9 hn9=> ?_⟩
  have z8:=hn8.size;have z9:=hn9.size
  have hmk:(Qu (ceV (zw 0)).toArray 8).size=8*6:=by
    have:=congrArg List.length (ZP 8)
    rw[Array.length_toList,zR,List.length_replicate]at this
    exact this
  have hrow:Row w8 52 6 (some ⟨b2,0,none⟩) 8 ((Qu (ceV (zw 0)).toArray 8).toList.take (8*6)) 8:=Row.made (n:=8) (s:=6) hn8 (Nat.le_refl _) (by decide) hmk
  rw[ZP,List.take_of_length_le (by rw[zR,List.length_replicate];exact Nat.le_refl _)]at hrow
  have hrow9:=hrow.ext hn9.ext
  have hx79:Ext w7 w9:=Ext.trans hn8.ext hn9.ext
  refine⟨_,_,_,(za hn9.heap 2).trans rfl,5,rfl,by decide,hrow9.setCe (i:=5) (by decide) (wcC [120] 0 263) fun w10 hr10 hf10=> ?_⟩
  have hcn:CellsAt w10 (some ⟨b2,0,none⟩) (zE wkN.cs):=hr10.cells
  have hb3':w10.heap[b3]? =_:=(hf10.block b3 (zv hn9.heap) (by omega)).trans hn9.heap
  have hb1':w10.heap[b1]? =_:=(hf10.block b1 (Nat.lt_of_lt_of_le (zv hbx) (Nat.le_trans hx67.size hx79.size)) (by have:=hx67.size;omega)).trans (Ext.heap hx79 (Ext.heap hx67 hbx))
  have hx7_10:Below w7.heap.size w7 w10:=Below.trans hx79 (hf10.below hx79.size (fun q hq hh=>by omega))
  have hx10:Ext w w10:=Ext.trans hx7 hx7_10
  have hx6_10:Ext w6 w10:=Ext.trans hx67 hx7_10
  have hA10:=hA6.ext hx6_10
  have hcs10:=hcs6.ext hx6_10
  have hU10:=hU.ext hx10
  have hbn:zi wkN.cs<=100:=by decide
  have hstn:∀c∈wkN.cs,c.st<65536:=by decide
  refine⟨_,(za hb1' 0).trans rfl,_,(za hb1' 1).trans rfl,_,_,_,(za hb1' 2).trans rfl,_,(za hb1' 3).trans rfl,_,(za hb1' 4).trans rfl,_,(za hb3' 0).trans rfl,_,(za hb3' 1).trans rfl,_,_,_,(za hb3' 2).trans rfl,_,(za hb3' 3).trans rfl,_,(za hb3' 4).trans rfl,⟨a5,c5,qQ G,some ⟨b2,0,none⟩,8,wkN,false⟩,rfl,⟨hU10.1,hU10.2,⟨hcs10,by show zi G.cs<=_;omega⟩,⟨hcn,by show zi wkN.cs<=_;omega⟩,by show zi G.cs<=_;omega,by show zi wkN.cs<=_;omega,hstn⟩,?_⟩
  rintro⟨a11,n11,c11⟩ w11 hm11
  dsimp only at hm11
  have hns:qa (qQ G) wkN=false:=by
    cases h:qa (qQ G) wkN with
    |false=>rfl
    |true=>
     unfold qa at h
     simp only[Bool.and_eq_true,beq_iff_eq]at h
     have:=h.2.2.1
     rw[hgx]at this
     exact absurd this (by decide)
  obtain⟨s,hs⟩:∃s,Zb (qQ G) wkN false=some s:=by
    unfold Zb
    rw[if_neg (fun hh=>by
     rcases hh with hh|hh
     ·rw[zfY]at hh;cases hh
     ·rw[hns]at hh;cases hh.2)]
    exact⟨_,rfl⟩
  rw[hs]at hm11
  have hm11:Made w10 w11 5 1 a11 n11 (zu s) c11:=hm11
  have hsz:=ziD hstn hs
  have hn11:n11=s.size:=by
    have:=hm11.row.1
    unfold zu at this
    rw[List.length_map,Array.length_toList]at this
    have e:s.size=s.data.size:=rfl
    omega
  subst hn11
  have hA11:=hA10.ext hm11.ext
  obtain⟨v1,v2,v3⟩:=zhx (g0:=G) (a:=qQ G) (b:=wkN) (wd:=false) hA11.ok e5 gd.symm (by rw[gw];rfl) (by rw[gh];rfl) zfY hstn (fun _=>zbD.2 ⟨rfl,fun j _=>zhM _⟩) hs
  have hfd:=zlB v1
  have hes:(⟨#[]⟩:ByteArray)++s=s:=ByteArray.empty_append
  refine⟨⟨A4,G,9,ha4,hc4,⟨#[]⟩,a11,c11,s⟩,by rw[hp4],⟨hA11.gl,hA11.ok,hA11.rd,hm11.row.cells,by dsimp only;omega,by dsimp only;omega⟩,?_⟩
  rintro⟨A12,ha12,hc12⟩ w12 hF
  dsimp only at hF
  have hA12:=hA11.fed hF
  have hp12:A12.p=A.p:=hF.p.trans hp4
  have hlt11:∀q,zmW A4 ha4 ⟨#[]⟩ q->q<w6.heap.size:=fun q hq=>(hA6.lt q hq).2
  have hb3_12:w12.heap[b3]? =_:=(hF.st.fr.block b3 (zv (Ext.heap hm11.ext hb3')) (fun hh=>by have:=hlt11 b3 hh;have:=hx67.size;omega)).trans (Ext.heap hm11.ext hb3')
  have hb1_12:w12.heap[b1]? =_:=(hF.st.fr.block b1 (zv (Ext.heap hm11.ext hb1')) (fun hh=>by have:=(hA4.lt b1 hh).2;have:=hm5.ext.size;omega)).trans (Ext.heap hm11.ext hb1')
  have hcn12:CellsAt w12 (some ⟨b2,0,none⟩) (zE wkN.cs):=(hcn.ext hm11.ext).fr hF.st.fr (fun q hq hh=>by have e:b2=q:=Option.some.inj hq;have:=hlt11 q hh;have:=hx67.size;omega)
  have hcs12:CellsAt w12 a5 (zE G.cs):=(hcs10.ext hm11.ext).fr hF.st.fr (fun q hq hh=>by have:=hm5.new q hq;have:=(hA4.lt q hh).2;omega)
  have hx11:=Ext.trans hx10 hm11.ext
  have hx12:Ext w w12:=zgk hF.st hx11 (fun q hq=>by have:=(hA11.lt q hq).1;omega)
  intro w13 hd13
  have hA13:=hA12.ext hd13.ext
  rw[hes,hfd.1]at hA13
  generalize hG2:zH G (zo s)=G2 at hA13 v2 v3
  have hlf:=zd3 (⟨#[]⟩++s)
  rw[hes,hfd.1]at hlf
  refine⟨_,(za hb3_12 0).trans rfl,_,(za hb3_12 1).trans rfl,_,_,_,(za hb3_12 2).trans rfl,_,(za hb3_12 3).trans rfl,_,(za hb3_12 4).trans rfl,⟨A12,G2⟩,by rw[hp12],⟨hA13.gl,hA13.ok.fit (by omega)⟩,?_⟩
  rintro⟨⟨a14,c14⟩,gr⟩ w14 ⟨hgr,hm14⟩
  dsimp only at hgr hm14
  subst hgr
  have hx12_14:Ext w12 w14:=Ext.trans hd13.ext hm14.ext
  have hbG:zi G2.cs<=67108864:=by
    have:=zlT (zo s) G
    rw[hG2]at this
    omega
  have hbx14:=Ext.heap hx12_14 hb1_12
  have hby14:=Ext.heap hx12_14 hb3_12
  refine⟨hm14.ext,⟨a14,c14,qQ G2,some ⟨b2,0,none⟩,8,wkN⟩,rfl,⟨⟨hm14.row.cells,hbG⟩,⟨hcn12.ext hx12_14,by show zi wkN.cs<=_;omega⟩⟩,?_⟩
  rintro x6 w15 ⟨hx6',hx15⟩
  dsimp only at hx6'
  rw[v2]at hx6'
  subst hx6'
  have hx12_15:Ext w12 w15:=Ext.trans hx12_14 hx15
  have hbx15:=Ext.heap hx15 hbx14
  have hby15:=Ext.heap hx15 hby14
  have hU15:=hU.ext (Ext.trans hx12 hx12_15)
  refine zb (fun _=> ?_) (fun h=>by cases h)
  refine⟨_,(za hbx15 0).trans rfl,_,(za hbx15 1).trans rfl,_,_,_,(za hbx15 2).trans rfl,_,(za hbx15 3).trans rfl,_,(za hbx15 4).trans rfl,_,(za hby15 0).trans rfl,_,(za hby15 1).trans rfl,_,_,_,(za hby15 2).trans rfl,_,(za hby15 3).trans rfl,_,(za hby15 4).trans rfl,⟨a5,c5,qQ G,some ⟨b2,0,none⟩,8,wkN⟩,rfl,⟨⟨hcs12.ext hx12_15,by show zi G.cs<=_;omega⟩,⟨hcn12.ext hx12_15,by show zi wkN.cs<=_;omega⟩⟩,?_⟩
  rintro x7 w16 ⟨hx7',hx16⟩
  dsimp only at hx7'
  rw[hns]at hx7'
  subst hx7'
  refine zb (fun _=> ?_) (fun h=>by cases h)
  have hby16:=Ext.heap hx16 hby15
  have hx12_16:Ext w12 w16:=Ext.trans hx12_15 hx16
  have hU16:=hU15.ext hx16
  have hcn16:=hcn12.ext hx12_16
  refine⟨_,(za hby16 0).trans rfl,_,(za hby16 1).trans rfl,_,_,_,(za hby16 2).trans rfl,_,(za hby16 3).trans rfl,_,(za hby16 4).trans rfl,_,(za hby16 0).trans rfl,_,(za hby16 1).trans rfl,_,_,_,(za hby16 2).trans rfl,_,(za hby16 3).trans rfl,_,(za hby16 4).trans rfl,⟨some ⟨b2,0,none⟩,8,wkN,some ⟨b2,0,none⟩,8,wkN,false⟩,rfl,⟨hU16.1,hU16.2,⟨hcn16,by show zi wkN.cs<=_;omega⟩,⟨hcn16,by show zi wkN.cs<=_;omega⟩,by show zi wkN.cs<=_;omega,by show zi wkN.cs<=_;omega,hstn⟩,?_⟩
  rintro⟨a17,n17,c17⟩ w17 hm17
  dsimp only at hm17
  have hn:Zb wkN wkN false=none:=by
    unfold Zb
    rw[if_pos (.inr ⟨zfY,zpu wkN⟩)]
  rw[hn]at hm17
  have hn17:=zp1 hm17
  subst hn17
  exact⟨(),rfl,Ext.trans (Ext.trans hx12 hx12_16) hm17.ext⟩
end

section
open Go Go.RowKit Vc Ut Tb Cl
structure RlRd(w:World)(A:GlP)(h:ByteArray):Prop where
  rd:zl7 w A.rb h
  sm:h.size<=3
  far:A.B<=A.rb/\A.rb<w.heap.size/\¬own A A.rb
def zbJ(A:GlP)(q:Nat):Prop:=own A q\/q=A.rb
def zjr:CallSpec where
  G:=Nat×Nat×Bool
  args:=fun g=> #[.int .i64 (g.1:Int), .int .i64 (g.2.1:Int), .bool g.2.2]
  pre:=fun g w=>UDB w.heap.size w/\g.1<=1024/\g.2.1<=1024
  X:=GlP
  res:=fun A=> .tuple #[.pointer (some ⟨A.p,0,none⟩), .int .i64 0]
  post:=fun g w A w'=>Ext w w'/\A.B=w.heap.size/\RlIn w' A (zaO g.1 g.2.1 g.2.2) []/\RlRd w' A ⟨#[]⟩
def zmo:List (Nat×CallSpec):=[(27,za4)]
structure GRf2 where
  A:GlP
  g:Gs
  m:Nat
  hl:List Int
  h:ByteArray
  ad:Option Addr
  c:Nat
  b:ByteArray
structure RfOut(w w':World)(A A':GlP)(g':Gs)(hl':List Int)(m':Nat)(h':ByteArray):Prop where
  is:rkIn w' A' g' hl' m'
  rd:RlRd w' A' h'
  p:A'.p=A.p
  b:A'.B=A.B
  rb:A'.rb=A.rb
  st:Step (zbJ A) w w' (zbJ A')
def zgw:List (Nat×CallSpec):=[(39,zjs),(40,zjp)]
def zfB:CallSpec where
  G:=GRf2
  args:=fun g=> #[.pointer (some ⟨g.A.p,0,none⟩), .slice g.ad g.b.size g.c]
  pre:=fun g w=>rkIn w g.A g.g g.hl g.m/\RlRd w g.A g.h/\CellsAt w g.ad (zu g.b)/\g.b.size<=67108860/\g.m+3+g.b.size<=549755813888
  X:=GlP×List Int
  res:=fun _=> .tuple #[]
  post:=fun g w x w'=>RfOut w w' g.A x.1 (zH g.g (ZF (g.h++g.b))) x.2 (g.m+(ZF (g.h++g.b)).length) (fdH (g.h++g.b))
def zqM(g:GRf2)(_:World):Ann where
  sp:=zgw
  loops:=[(3,{
    X:=(GlP×List Int)×Nat
    sh:=fun _ x=>[(5, .int .i64 x.2)]
    inv:=fun _ w0 x w=>x.2<=(ZF (g.h++g.b)).length/\rkOut w0 w g.A x.1.1 (zH g.g ((ZF (g.h++g.b)).take x.2)) x.1.2 (g.m+x.2)
    mu:=fun _ _ x _=>(ZF (g.h++g.b)).length - x.2})]
def zfA:CallSpec where
  G:=GRl
  args:=fun g=> #[.pointer (some ⟨g.A.p,0,none⟩)]
  pre:=fun g w=>RlIn w g.A g.g g.hl/\fitG g.g
  X:=(Option Addr×Nat)×Gr
  res:=fun x=>ZT x.1.1 x.1.2 x.2
  post:=fun g w x w'=>gdOut g.g w w' x
def zud(g:GRl)(w00:World):Ann where
  sp:=[]
  frees:=[(5,fun e=>ptN (gv e 3))]
  cuts:=[(3,3,{X:=GdX,sh:=fun _ x=>[(3, .pointer (some ⟨x.b,0,none⟩))],inv:=fun e _ x w=>gdI g.g w00 x w (gv e 2)/\x.x= -1/\x.y= -1}),
    (4,6,{X:=GdX,sh:=fun _ _=>[],inv:=fun e _ x w=>gv e 3= .pointer (some ⟨x.b,0,none⟩)/\gdI g.g w00 x w (gv e 2)/\x.x=(qQ g.g).x/\x.y=(qQ g.g).y})]
end

section
set_option linter.unusedVariables false
open Go Go.RowKit Vc Ut Tb Cl
open Value
set_option maxRecDepth 1000000
theorem zrW(hsp:zf Tryz.prog zmo)(h:∀(g:Nat×Nat×Bool) (w:World),UDB w.heap.size w/\g.fst<=1024/\g.snd.fst<=1024->∃(g1:Int×Int), #[int .i64 (g.fst:Int),int .i64 (g.snd.fst:Int)]= #[int .i64 g1.fst,int .i64 g1.snd]/\True/\∀(x:Bool) w',x=Zv g1.fst g1.snd/\Ext w w'->zc (!x) (∃(x1:GlP),tuple #[pointer none,int .i64 5]=tuple #[pointer (some ⟨x1.p,0,none⟩),int .i64 0]/\Ext w w'/\x1.B=w.heap.size/\RlIn w' x1 (zaO g.fst g.snd.fst g.snd.snd) []/\RlRd w' x1 (ByteArray.mk #[])) (InR .i64 ((g.fst:Int)*(g.snd.fst:Int))/\∃(n:Nat) (m:Nat),(g.fst:Int)*(g.snd.fst:Int)=(n:Int)/\(g.fst:Int)*(g.snd.fst:Int)=(m:Int)/\n<=m/\48*m<=281474976710656/\m<=9223372036854775807/\∀b w1,New w' (Obj.cells (Qu (agg #[string (ByteArray.mk #[]),int .i8 0,int .i64 0,int .i64 0,bool false,int .u16 0]).cells m) 52) b w1->∀b1 w11,New w1 (Obj.cells #[string (ByteArray.mk #[])] 68) b1 w11->∀b2 w12,New w11 (Obj.cells #[int .i64 (g.fst:Int),int .i64 (g.snd.fst:Int),bool g.snd.snd,slice (some ⟨b,0,none⟩) n m,int .i64 0,int .i64 0,bool true,int .u16 0,int .i64 (-1:Int),pointer (some ⟨b1,0,none⟩),int .i64 0,slice none 0 0] 71) b2 w12->∃(x1:GlP),tuple #[pointer (some ⟨b2,0,none⟩),int .i64 0]=tuple #[pointer (some ⟨x1.p,0,none⟩),int .i64 0]/\Ext w w12/\x1.B=w.heap.size/\RlIn w12 x1 (zaO g.fst g.snd.fst g.snd.snd) []/\RlRd w12 x1 (ByteArray.mk #[]))):zjr.Ok Tryz.prog 15:=ze zjr (zP zmo) zmo (fun _ _=>rfl) (fun _ _=>rfl) hsp Tryz.func15 rfl (n:=3) (fun _=>rfl) (by kernel_rfl) (zl (by kernel_rfl) h)
theorem zpG(hsp:zf Tryz.prog zgw)(h:∀(g:GRf2) (w:World),rkIn w g.A g.g g.hl g.m/\RlRd w g.A g.h/\CellsAt w g.ad (zu g.b)/\g.b.size<=67108860/\g.m+3+g.b.size<=549755813888->∃(a1:Option Addr),w.cell? ⟨g.A.p,9,none⟩=some (pointer a1)/\∃(g1:GRf), #[pointer a1,slice g.ad g.b.size g.c]= #[pointer (some ⟨g1.rb,0,none⟩),slice g1.ad g1.b.size g1.c]/\(U8 w/\zl7 w g1.rb g1.h/\CellsAt w g1.ad (zu g1.b)/\(g1.h++g1.b).size<=67108864)/\∀(x:Option Addr×Nat×Nat) w',x.snd.fst=(ZF (g1.h++g1.b)).length/\NewRow w w' (21:TypeId) x.fst x.snd.fst (List.map (int IntKind.i32) (ZF (g1.h++g1.b))) x.snd.snd/\zl7 w' g1.rb (fdH (g1.h++g1.b))/\Fr (fun(q:Nat)=>q=g1.rb) w w'->(∃(x1:(GlP×List Int)×Nat),int .i64 0=int .i64 (x1.snd:Int)/\x1.snd<=(ZF (g.h++g.b)).length/\rkOut w' w' g.A x1.fst.fst (zH g.g (List.take x1.snd (ZF (g.h++g.b)))) x1.fst.snd (g.m+x1.snd))/\∀(u:Nat->Value) (x1:(GlP×List Int)×Nat) w'1,x1.snd<=(ZF (g.h++g.b)).length/\rkOut w' w'1 g.A x1.fst.fst (zH g.g (List.take x1.snd (ZF (g.h++g.b)))) x1.fst.snd (g.m+x1.snd)->zc (decide ((x1.snd:Int)<(x.snd.fst:Int))) (qd (x1.snd:Int) x.snd.fst fun k=>zr x.fst fun(b o:Nat)=>zX w'1 .i32 b (o+k) fun n=>∃(g2:GRt), #[pointer (some ⟨g.A.p,0,none⟩),int .i32 n]= #[pointer (some ⟨g2.A.p,0,none⟩),int .i32 g2.r]/\rkIn w'1 g2.A g2.g g2.hl g2.m/\∀(x2:GlP×List Int) w'2,rkOut w'1 w'2 g2.A x2.fst (zj g2.g g2.r) x2.snd (g2.m+1)->InR .i64 ((x1.snd:Int)+1)/\∃(y:(GlP×List Int)×Nat),int .i64 ((x1.snd:Int)+1)=int .i64 (y.snd:Int)/\(y.snd<=(ZF (g.h++g.b)).length/\rkOut w' w'2 g.A y.fst.fst (zH g.g (List.take y.snd (ZF (g.h++g.b)))) y.fst.snd (g.m+y.snd))/\(ZF (g.h++g.b)).length - y.snd<(ZF (g.h++g.b)).length - x1.snd) (∃(x2:GlP×List Int),tuple #[]=tuple #[]/\RfOut w w'1 g.A x2.fst (zH g.g (ZF (g.h++g.b))) x2.snd (g.m+(ZF (g.h++g.b)).length) (fdH (g.h++g.b)))):zfB.Ok Tryz.prog 20:=ze zfB zqM zgw (fun _ _=>rfl) (fun _ _=>rfl) hsp Tryz.func20 rfl (n:=2) (fun _=>rfl) (by kernel_rfl) (zl (by kernel_rfl) h)
theorem zr0(hsp:zf Tryz.prog [])(h:∀(g:GRl) (w:World),RlIn w g.A g.g g.hl/\fitG g.g->∀b w1,New w (Obj.cells #[int .i64 0,int .i64 0,slice none 0 0,int .i64 0,int .i64 0] 24) b w1->(∀w11,Drew w1 w11->zt w1 g.A.p 0 fun n=>zt w1 g.A.p 1 fun n1=>qL w1 g.A.p 3 fun a3 n2 c=>(∃(a':Option Addr) (c':Nat) (w':World),zA Tryz.prog #[22,22] 22 (slice none 0 0) (slice a3 n2 c) w11 a' (0+n2) c' w'/\KO w11 w'/\Below w11.heap.size w11 w'/\∀b1 w12,New w' (Obj.cells #[int .i64 0,int .i64 0,slice none 0 0,int .i64 0,int .i64 0] 24) b1 w12->Below w'.heap.size w' w12/\zh w12 b1 0 (int .i64 n) fun w13=>zh w13 b1 1 (int .i64 n1) fun w14=>zh w14 b1 2 (slice a' (0+n2) c') fun w15=>zh w15 b1 3 (int .i64 (-1:Int)) fun w16=>zh w16 b1 4 (int .i64 (-1:Int)) fun w17=>∃(c1:GdX),pointer (some ⟨b1,0,none⟩)=pointer (some ⟨c1.b,0,none⟩)/\gdI g.g w c1 w17 (pointer (some ⟨b,0,none⟩))/\c1.x=(-1:Int)/\c1.y=(-1:Int))/\∀b1 w12,New w11 (Obj.cells #[int .i64 0,int .i64 0,slice none 0 0,int .i64 0,int .i64 0] 24) b1 w12->Below w11.heap.size w11 w12/\∃(a':Option Addr) (c':Nat) (w':World),zA Tryz.prog #[22,22] 22 (slice none 0 0) (slice a3 n2 c) w12 a' (0+n2) c' w'/\KO w12 w'/\Below w12.heap.size w12 w'/\zh w' b1 0 (int .i64 n) fun w13=>zh w13 b1 1 (int .i64 n1) fun w14=>zh w14 b1 2 (slice a' (0+n2) c') fun w15=>zh w15 b1 3 (int .i64 (-1:Int)) fun w16=>zh w16 b1 4 (int .i64 (-1:Int)) fun w17=>∃(c1:GdX),pointer (some ⟨b1,0,none⟩)=pointer (some ⟨c1.b,0,none⟩)/\gdI g.g w c1 w17 (pointer (some ⟨b,0,none⟩))/\c1.x=(-1:Int)/\c1.y=(-1:Int))/\∀(u:Nat->Value) (c:GdX) w',gdI g.g w c w' (pointer (some ⟨b,0,none⟩))/\c.x=(-1:Int)/\c.y=(-1:Int)->(ZG w' g.A.p 6 fun b1=>zc b1 (zt w' g.A.p 0 fun n=>zc (decide (n>0)) (zt w' g.A.p 1 fun n1=>zc (decide (n1>0)) (∀w11,Drew w' w11->¬ptN (pointer (some ⟨c.b,0,none⟩)) g.A.p/\zt w' g.A.p 4 fun n2=>¬ptN (pointer (some ⟨c.b,0,none⟩)) g.A.p/\zt w' g.A.p 0 fun n3=>InR .i64 (n3 - 1)/\zh w11 c.b 3 (int .i64 (if n3 - 1<n2 then n3 - 1 else n2)) fun w12=>zt w12 g.A.p 5 fun n4=>zh w12 c.b 4 (int .i64 n4) fun w13=>∃(c1:GdX),pointer (some ⟨c.b,0,none⟩)=pointer (some ⟨c1.b,0,none⟩)/\gdI g.g w c1 w13 (pointer (some ⟨b,0,none⟩))/\(c1.x=if g.g.hid=false/\g.g.cs≠[]then min (g.g.x:Int) ((g.g.w:Int) - 1)else(-1:Int))/\c1.y=if g.g.hid=false/\g.g.cs≠[]then(g.g.y:Int)else(-1:Int)) (∃(c1:GdX),pointer (some ⟨c.b,0,none⟩)=pointer (some ⟨c1.b,0,none⟩)/\gdI g.g w c1 w' (pointer (some ⟨b,0,none⟩))/\(c1.x=if g.g.hid=false/\g.g.cs≠[]then min (g.g.x:Int) ((g.g.w:Int) - 1)else(-1:Int))/\c1.y=if g.g.hid=false/\g.g.cs≠[]then(g.g.y:Int)else(-1:Int))) (∃(c1:GdX),pointer (some ⟨c.b,0,none⟩)=pointer (some ⟨c1.b,0,none⟩)/\
 gdI g.g w c1 w' (pointer (some ⟨b,0,none⟩))/\(c1.x=if g.g.hid=false/\g.g.cs≠[]then min (g.g.x:Int) ((g.g.w:Int) - 1)else(-1:Int))/\c1.y=if g.g.hid=false/\g.g.cs≠[]then(g.g.y:Int)else(-1:Int))) (∃(c1:GdX),pointer (some ⟨c.b,0,none⟩)=pointer (some ⟨c1.b,0,none⟩)/\gdI g.g w c1 w' (pointer (some ⟨b,0,none⟩))/\(c1.x=if g.g.hid=false/\g.g.cs≠[]then min (g.g.x:Int) ((g.g.w:Int) - 1)else(-1:Int))/\c1.y=if g.g.hid=false/\g.g.cs≠[]then(g.g.y:Int)else(-1:Int)))/\∀(u1:Nat->Value) (c1:GdX) w'1,(pointer (some ⟨c.b,0,none⟩)=pointer (some ⟨c1.b,0,none⟩)/\gdI g.g w c1 w'1 (pointer (some ⟨b,0,none⟩))/\(c1.x=if g.g.hid=false/\g.g.cs≠[]then min (g.g.x:Int) ((g.g.w:Int) - 1)else(-1:Int))/\c1.y=if g.g.hid=false/\g.g.cs≠[]then(g.g.y:Int)else(-1:Int))->LdG w'1 c.b fun n n1 a4 n2 c2 n3 n4=>zh w'1 b 0 (int .i64 n) fun w11=>zh w11 b 1 (int .i64 n1) fun w12=>zh w12 b 2 (slice a4 n2 c2) fun w13=>zh w13 b 3 (int .i64 n3) fun w14=>zh w14 b 4 (int .i64 n4) fun w15=>LdG w15 b fun n5 n6 a10 n7 c3 n8 n9=>∃(x:(Option Addr×Nat)×Gr),agg #[int .i64 n5,int .i64 n6,slice a10 n7 c3,int .i64 n8,int .i64 n9]=ZT x.fst.fst x.fst.snd x.snd/\gdOut g.g w w15 x):zfA.Ok Tryz.prog 21:=ze zfA zud [] (fun _ _=>rfl) (fun _ _=>rfl) hsp Tryz.func21 rfl (n:=1) (fun _=>rfl) (by kernel_rfl) (zl (by kernel_rfl) h)
end

section
open Go Go.RowKit Vc Ut Tb Cl
theorem zrX:zjr.Ok Tryz.prog 15:=by
  refine zrW ⟨zkr,trivial⟩ ?_
  rintro⟨W,H,wd⟩ w ⟨hu,hW,hH⟩
  dsimp only at hW hH⊢
  have hs:Zv (W:Int) (H:Int)=true:=decide_eq_true (show(0:Int)<=(W:Int)/\(W:Int)<=1024/\(0:Int)<=(H:Int)/\(H:Int)<=1024 by omega)
  have hWH:W*H<=1048576:=Nat.le_trans (Nat.mul_le_mul hW hH) (by decide)
  refine⟨(W,H),rfl,trivial,?_⟩
  rintro x w1 ⟨hx,hx1⟩
  dsimp only at hx
  rw[hs]at hx
  subst hx
  refine zb (fun h=>by cases h) (fun _=> ?_)
  rw[<-Int.natCast_mul]
  have hmk:(Qu (ceV (zw 0)).toArray (W*H)).size=(W*H)*6:=by
    have:=congrArg List.length (ZP (W*H))
    rw[Array.length_toList,zR,List.length_replicate]at this
    exact this
  refine⟨zd (by omega) (by omega),W*H,W*H,rfl,rfl,Nat.le_refl _,by omega,by omega,fun b w2 hn2 b1 w3 hn3 b2 w4 hn4=> ?_⟩
  have z2:=hn2.size;have z3:=hn3.size;have z4:=hn4.size;have z1:=hx1.size
  have hrow:Row w2 52 6 (some ⟨b,0,none⟩) (W*H) ((Qu (ceV (zw 0)).toArray (W*H)).toList.take (W*H*6)) (W*H):=Row.made (n:=W*H) (s:=6) hn2 (Nat.le_refl _) (show W*H<=maxLen by unfold maxLen;omega) hmk
  rw[ZP,List.take_of_length_le (by rw[zR,List.length_replicate];exact Nat.le_refl _)]at hrow
  have hrow4:=(hrow.ext hn3.ext).ext hn4.ext
  have hx4:Ext w w4:=Ext.trans hx1 (Ext.trans hn2.ext (Ext.trans hn3.ext hn4.ext))
  have hl:(zaO W H wd).cs.length=W*H:=List.length_replicate
  refine⟨⟨w.heap.size,b2,some ⟨b,0,none⟩,W*H,b1,none,0⟩,rfl,hx4,rfl,⟨?_,?_,Row.nil _ _ _,?_,hx4.size,hu.on hx4⟩,⟨Ext.heap hn4.ext hn3.heap,by decide,?_,?_,?_⟩⟩
  ·rw[hn4.heap];unfold rlV;rw[hl];rfl
  ·rw[hl];exact hrow4
  ·rintro q (hq|hq|hq)
   ·dsimp only at hq⊢;omega
   ·have e:b=q:=Option.some.inj hq;dsimp only;omega
   ·cases hq
  ·dsimp only;omega
  ·dsimp only;omega
  ·rintro(hq|hq|hq)
   ·dsimp only at hq;omega
   ·have e:b=b1:=Option.some.inj hq;omega
   ·cases hq
theorem RlIn.fr{S:Nat->Prop}{w w':World}{A:GlP}{g:Gs}{hl:List Int}(h:RlIn w A g hl)(hf:Fr S w w')(hS:∀q,S q->A.B<=q/\¬own A q):RlIn w' A g hl:=
  ⟨(hf.block _ (zv h.box) (fun hh=>(hS _ hh).2 (.inl rfl))).trans h.box,h.row.fr hf (fun q hq hh=>(hS q hh).2 (.inr (.inl hq))),h.held.fr hf (fun q hq hh=>(hS q hh).2 (.inr (.inr hq))),h.bq,Nat.le_trans h.bw hf.size,h.u.on (hf.below h.bw (fun q hq hh=>by have:=(hS q hh).1;omega))⟩
theorem rkIn.fr{S:Nat->Prop}{w w':World}{A:GlP}{g:Gs}{hl:List Int}{m:Nat}(h:rkIn w A g hl m)(hf:Fr S w w')(hS:∀q,S q->A.B<=q/\¬own A q):rkIn w' A g hl m:=⟨h.gl.fr hf hS,h.ok,h.mb,h.hd,h.len⟩
set_option maxRecDepth 2000 in
theorem zpH:zfB.Ok Tryz.prog 20:=by
  refine zpG ⟨zr3,zrQ,trivial⟩ ?_
  rintro⟨A,g,m,hl,h,ad,c,b⟩ w ⟨hK,hR,hcb,hbz,hmb⟩
  dsimp only at hK hR hcb hbz hmb⊢
  have hG:=hK.gl
  have hsm:=hR.sm
  have hsz:(h++b).size=h.size+b.size:=ByteArray.size_append
  refine⟨some ⟨A.rb,0,none⟩,(za hG.box 9).trans rfl,⟨A.rb,h,ad,c,b⟩,rfl,⟨hG.ud.1,hR.rd,hcb,by dsimp only;omega⟩,?_⟩
  rintro⟨ra,rn,rc⟩ w1 ⟨hrn,hrow,hrd,hfr⟩
  dsimp only at hrn hrow hrd hfr⊢
  subst hrn
  have hK1:rkIn w1 A g hl m:=hK.fr hfr (fun q hq=>by subst hq;exact⟨hR.far.1,hR.far.2.2⟩)
  have hlb:=zd3 (h++b)
  refine⟨⟨((A,hl),0),rfl,Nat.zero_le _,⟨RlOut.refl hK1.gl,hK1.hd,hK1.len⟩⟩,?_⟩
  rintro _ ⟨⟨A2,hl2⟩,k⟩ w2 ⟨hk2,hO2,hd2,hln2⟩
  dsimp only at hk2 hO2 hd2 hln2⊢
  have hp2:A2.p=A.p:=hO2.p
  have hokk:okG (zH g ((ZF (h++b)).take k)) (m+k):=by
    have:=zdU ((ZF (h++b)).take k) hK.ok
    rw[List.length_take,Nat.min_eq_left hk2]at this
    exact this
  refine zb (fun h1=> ?_) (fun h1=> ?_)
  ·have h1:k<(ZF (h++b)).length:=by have:=of_decide_eq_true h1;omega
   have hc2:CellsAt w2 ra ((ZF (h++b)).map (Value.int .i32)):=hrow.row.cells.fr hO2.st.fr (fun q hq hh=>by have:=hG.lt q hh;have:=hrow.new q hq;omega)
   refine⟨k,rfl,h1,hc2.int h1 fun b5 o5 hb5=>⟨_,hb5,⟨A2,zH g ((ZF (h++b)).take k),hl2,(ZF (h++b)).getD k 0,m+k⟩,by rw[hp2.symm],⟨hO2.is,hokk,by show m+k<=549755813888;omega,hd2,hln2⟩,?_⟩⟩
   rintro⟨A3,hl3⟩ w3 ⟨hO3,hd3,hln3⟩
   dsimp only at hO3 hd3 hln3
   refine⟨zd (by omega) (by omega),((A3,hl3),k+1),rfl,⟨h1,?_⟩,by dsimp only;omega⟩
   dsimp only
   rw[ziA g _ h1]
   have e:(ZF (h++b)).getD k 0=(ZF (h++b))[k]:=by rw[List.getD_eq_getElem?_getD,List.getElem?_eq_getElem h1];rfl
   rw[e]at hO3 hd3
   exact⟨hO2.trans hO3,hd3,hln3⟩
  ·have h1:k=(ZF (h++b)).length:=by have:=of_decide_eq_false h1;omega
   subst h1
   rw[List.take_length]at hO2 hd2 hokk
   have hB2:A2.B=A.B:=hO2.b
   have hrb2:A2.rb=A.rb:=hO2.rb
   have hno:¬own A2 A.rb:=fun hh=>by
     rcases(hO2.st.dom _ hh).2 with h5|h5
     ·exact hR.far.2.2 h5
     ·have:=hR.far.2.1;have:=hfr.size;omega
   refine⟨(A2,hl2),rfl,⟨⟨hO2.is,hokk,by omega,hd2,hln2⟩,⟨?_,zoC _,?_⟩,hp2,hB2,hrb2,?_,?_⟩⟩
   ·rw[hrb2]
    exact(hO2.st.fr.block _ (zv hrd) (fun hh=>hR.far.2.2 hh)).trans hrd
   ·rw[hrb2,hB2]
    exact⟨hR.far.1,Nat.lt_of_lt_of_le hR.far.2.1 (Nat.le_trans hfr.size hO2.st.fr.size),hno⟩
   ·exact(hfr.mono (T:=zbJ A) (fun q _ hq=> .inr hq)).trans hO2.st.fr (fun q _ hq=> .inl hq)
   ·rintro q (hq|hq)
    ·have h5:=hO2.st.dom q hq
     exact⟨h5.1,h5.2.elim (fun h6=> .inl (.inl h6)) (fun h6=> .inr (Nat.le_trans hfr.size h6))⟩
    ·rw[hrb2]at hq
     subst hq
     exact⟨Nat.lt_of_lt_of_le hR.far.2.1 (Nat.le_trans hfr.size hO2.st.fr.size), .inl (.inr rfl)⟩
set_option maxRecDepth 4000 in
theorem zr1:zfA.Ok Tryz.prog 21:=by
  refine zr0 trivial ?_
  rintro⟨A,g,hl⟩ w ⟨hG,hF⟩ b w1 hn
  dsimp only at hG hF⊢
  have z1:=hn.size
  have hb:b=w.heap.size:=z1.1
  have hG1:=hG.ext hn.ext
  have hw:=hF.w;have hh:=hF.h;have hlen:=hF.len;have hx:=hF.x
  have hwh:g.w*g.h<=1048576:=Nat.le_trans (Nat.mul_le_mul hw hh) (by decide)
  have fin:∀{W:World} {b1:Nat} {a':Option Addr} {c':Nat},W.heap[b1]? =some (.cells #[.int .i64 0, .int .i64 0, .slice none 0 0, .int .i64 0, .int .i64 0] 24)->W.heap[b]? =some (.cells #[.int .i64 0, .int .i64 0, .slice none 0 0, .int .i64 0, .int .i64 0] 24)->
   b<b1->Made w W 52 6 a' g.cs.length (zE g.cs) c'->
   true=true/\(∃old,W.cell? ⟨b1,0,none⟩=some old)/\W.frozen? ⟨b1,0,none⟩=false/\∀w13,Stored W ⟨b1,0,none⟩ (.int .i64 g.w) w13->
   true=true/\(∃old,w13.cell? ⟨b1,1,none⟩=some old)/\w13.frozen? ⟨b1,1,none⟩=false/\∀w14,Stored w13 ⟨b1,1,none⟩ (.int .i64 g.h) w14->
   true=true/\(∃old,w14.cell? ⟨b1,2,none⟩=some old)/\w14.frozen? ⟨b1,2,none⟩=false/\∀w15,Stored w14 ⟨b1,2,none⟩ (.slice a' (0+g.cs.length) c') w15->
   true=true/\(∃old,w15.cell? ⟨b1,3,none⟩=some old)/\w15.frozen? ⟨b1,3,none⟩=false/\∀w16,Stored w15 ⟨b1,3,none⟩ (.int .i64 (-1)) w16->
   true=true/\(∃old,w16.cell? ⟨b1,4,none⟩=some old)/\w16.frozen? ⟨b1,4,none⟩=false/\∀w17,Stored w16 ⟨b1,4,none⟩ (.int .i64 (-1)) w17->
   ∃c1:GdX,Value.pointer (some ⟨b1,0,none⟩)=Value.pointer (some ⟨c1.b,0,none⟩)/\gdI g w c1 w17 (.pointer (some ⟨b,0,none⟩))/\c1.x= -1/\c1.y= -1:=by
    intro W b1 a' c' h1 hb0 hlt hm
    have hB:w.heap.size<=b1:=by omega
    refine⟨rfl,(qI h1 (k:=0) (by decide)).1,(qI h1 (k:=0) (by decide)).2,fun w2 s2=> ?_⟩
    have h2:=s2.heap h1
    have m2:=qo hm h1 (by decide) hB s2
    refine⟨rfl,(qI h2 (k:=1) (by decide)).1,(qI h2 (k:=1) (by decide)).2,fun w3 s3=> ?_⟩
    have h3:=s3.heap h2
    have m3:=qo m2 h2 (by decide) hB s3
    refine⟨rfl,(qI h3 (k:=2) (by decide)).1,(qI h3 (k:=2) (by decide)).2,fun w4 s4=> ?_⟩
    have h4:=s4.heap h3
    have m4:=qo m3 h3 (by decide) hB s4
    refine⟨rfl,(qI h4 (k:=3) (by decide)).1,(qI h4 (k:=3) (by decide)).2,fun w5 s5=> ?_⟩
    have h5:=s5.heap h4
    have m5:=qo m4 h4 (by decide) hB s5
    refine⟨rfl,(qI h5 (k:=4) (by decide)).1,(qI h5 (k:=4) (by decide)).2,fun w6 s6=> ?_⟩
    have h6:=s6.heap h5
    have m6:=qo m5 h5 (by decide) hB s6
    have hne:b≠b1:=by omega
    refine⟨⟨b1,a',c', -1, -1⟩,rfl,⟨by rw[hb],?_,?_,by dsimp only;omega,m6⟩,rfl,rfl⟩
    ·rw[<-hb]
     exact(s6.other hne).trans ((s5.other hne).trans ((s4.other hne).trans ((s3.other hne).trans ((s2.other hne).trans hb0))))
    ·rw[Nat.zero_add]at h6
     exact h6
  refine⟨fun w2 hd=> ?_,?_⟩
  ·have x2:=Ext.trans hn.ext hd.ext
   have hG2:=hG.ext x2
   refine⟨g.w,(za hG1.box 0).trans rfl,g.h,(za hG1.box 1).trans rfl,A.ca,g.cs.length,A.cc,(za hG1.box 3).trans rfl,?_,fun b1 w3 hn3=>⟨hn3.ext,?_⟩⟩
   ·obtain⟨a',c',w3,hrun,hko,hm3m, -⟩:=(Made.nil w2 52 6).pushS (P:=Tryz.prog) (ty:=22) Qm (by decide) (sa:=A.ca) (cx:=A.cc) (m:=g.cs.length) (news:=zE g.cs) (zR _) hG2.row.cells (zat _) (by unfold maxLen;omega) (.inr (by omega))
    rw[Nat.zero_add,List.nil_append]at hm3m
    have hm3:=hm3m.earlier x2
    have hx3:Ext w2 w3:=hm3m.ext
    refine⟨a',c',w3,hrun,hko,hx3,fun b1 w4 hn4=>⟨hn4.ext,?_⟩⟩
    have z4:=hn4.size;have z3:=hx3.size;have z2:=hd.ext.size
    exact fin hn4.heap (Ext.heap hn4.ext (Ext.heap hx3 (Ext.heap hd.ext hn.heap))) (by omega) (hm3.later hn4.ext)
   ·have x3:=Ext.trans x2 hn3.ext
    have hG3:=hG.ext x3
    obtain⟨a',c',w4,hrun,hko,hm4m, -⟩:=(Made.nil w3 52 6).pushS (P:=Tryz.prog) (ty:=22) Qm (by decide) (sa:=A.ca) (cx:=A.cc) (m:=g.cs.length) (news:=zE g.cs) (zR _) hG3.row.cells (zat _) (by unfold maxLen;omega) (.inr (by omega))
    rw[Nat.zero_add,List.nil_append]at hm4m
    have hm4:=hm4m.earlier x3
    have hx4:Ext w3 w4:=hm4m.ext
    have z3:=hn3.size;have z2:=hd.ext.size
    exact⟨a',c',w4,hrun,hko,hx4,fin (Ext.heap hx4 hn3.heap) (Ext.heap hx4 (Ext.heap hn3.ext (Ext.heap hd.ext hn.heap))) (by omega) hm4⟩
  ·rintro _ ⟨b1,a',c',xx,yy⟩ w2 ⟨hI,hxx,hyy⟩
   dsimp only at hxx hyy
   subst hxx hyy
   obtain⟨-,hres,hout,hne,hm⟩:=hI
   dsimp only at hres hout hne hm⊢
   have hG2:=hG.ext hm.ext
   have hwh0:g.cs≠[] ↔ 0<g.w/\0<g.h:=by
     constructor
     ·intro h
      have h0:0<g.w*g.h:=by rw[<-hlen];exact List.length_pos_iff.2 h
      exact⟨zkV h0,by
        rcases Nat.eq_zero_or_pos g.h with e|e
        ·rw[e,Nat.mul_zero]at h0;omega
        ·exact e⟩
     ·rintro⟨h1,h2⟩ h3
      rw[h3,List.length_nil]at hlen
      have:=Nat.mul_pos h1 h2
      omega
   refine⟨⟨!g.hid,(za hG2.box 6).trans rfl,zb (fun h1=>⟨g.w,(za hG2.box 0).trans rfl,zb (fun h2=>⟨g.h,(za hG2.box 1).trans rfl,zb (fun h3 w3 hd=> ?_) (fun h3=>⟨⟨b1,a',c', -1, -1⟩,rfl,⟨by rw[hb],hres,hout,hne,hm⟩,?_,?_⟩)⟩) (fun h2=>⟨⟨b1,a',c', -1, -1⟩,rfl,⟨by rw[hb],hres,hout,hne,hm⟩,?_,?_⟩)⟩) (fun h1=>⟨⟨b1,a',c', -1, -1⟩,rfl,⟨by rw[hb],hres,hout,hne,hm⟩,?_,?_⟩)⟩,?_⟩
   ·have h1:g.hid=false:=by simpa using h1
    have h2:g.cs≠[]:=hwh0.2 ⟨by have:=of_decide_eq_true h2;omega,by have:=of_decide_eq_true h3;omega⟩
    have hG3:=hG2.ext hd.ext
    have hout3:=Ext.heap hd.ext hout
    have hnp:¬ptN (.pointer (some ⟨b1,0,none⟩)) A.p:=fun hh=>by
      have hh:A.p=b1:=hh
      have:=hG.lt A.p (.inl rfl)
      omega
    have hB:w.heap.size<=b1:=by omega
    refine⟨hnp,g.x,(za hG2.box 4).trans rfl,hnp,g.w,(za hG2.box 0).trans rfl,zd (by omega) (by omega),rfl,(qI hout3 (k:=3) (by decide)).1,(qI hout3 (k:=3) (by decide)).2,fun w4 s4=> ?_⟩
    have h4:=s4.heap hout3
    have m3:=hm.later hd.ext
    have m4:=qo m3 hout3 (by decide) hB s4
    have hbox4:w4.heap[A.p]? =_:=(s4.other (by show A.p≠b1;exact fun e=>hnp e)).trans hG3.box
    refine⟨g.y,(za hbox4 5).trans rfl,rfl,(qI h4 (k:=4) (by decide)).1,(qI h4 (k:=4) (by decide)).2,fun w5 s5=> ?_⟩
    have h5:=s5.heap h4
    have m5:=qo m4 h4 (by decide) hB s5
    have hne1:w.heap.size≠b1:=by omega
    refine⟨⟨b1,a',c',min (g.x:Int) ((g.w:Int) - 1),g.y⟩,rfl,⟨by rw[hb],?_,?_,hne,m5⟩,?_,?_⟩
    ·exact(s5.other hne1).trans ((s4.other hne1).trans (Ext.heap hd.ext hres))
    ·have e:(if(g.w:Int) - 1<(g.x:Int)then(g.w:Int) - 1 else(g.x:Int))=min (g.x:Int) ((g.w:Int) - 1):=by split<;>omega
     rw[e]at h5
     exact h5
    ·rw[if_pos ⟨h1,h2⟩]
    ·rw[if_pos ⟨h1,h2⟩]
   ·have h3:=of_decide_eq_false h3
    rw[if_neg (fun hh=>by have:=(hwh0.1 hh.2).2;omega)]
   ·have h3:=of_decide_eq_false h3
    rw[if_neg (fun hh=>by have:=(hwh0.1 hh.2).2;omega)]
   ·have h2:=of_decide_eq_false h2
    rw[if_neg (fun hh=>by have:=(hwh0.1 hh.2).1;omega)]
   ·have h2:=of_decide_eq_false h2
    rw[if_neg (fun hh=>by have:=(hwh0.1 hh.2).1;omega)]
   ·have h1:g.hid=true:=by simpa using h1
    rw[if_neg (fun hh=>by rw[h1]at hh;cases hh.1)]
   ·have h1:g.hid=true:=by simpa using h1
    rw[if_neg (fun hh=>by rw[h1]at hh;cases hh.1)]
   rintro _ ⟨b2,a2,c2,xx,yy⟩ w3 ⟨he,⟨-,hres3,hout3,hne3,hm3⟩,hxx,hyy⟩
   dsimp only at he hres3 hout3 hne3 hm3 hxx hyy
   have e2:b1=b2:=by injection he with he;injection he with he;injection he
   subst e2
   rw[hb.symm]at hres3
   have hB:w.heap.size<=b:=by omega
   refine⟨_,(za hout3 0).trans rfl,_,(za hout3 1).trans rfl,_,_,_,(za hout3 2).trans rfl,_,(za hout3 3).trans rfl,_,(za hout3 4).trans rfl,?_⟩
   refine⟨rfl,(qI hres3 (k:=0) (by decide)).1,(qI hres3 (k:=0) (by decide)).2,fun w4 s4=> ?_⟩
   have h4:=s4.heap hres3
   have m4:=qo hm3 hres3 (by decide) hB s4
   refine⟨rfl,(qI h4 (k:=1) (by decide)).1,(qI h4 (k:=1) (by decide)).2,fun w5 s5=> ?_⟩
   have h5:=s5.heap h4
   have m5:=qo m4 h4 (by decide) hB s5
   refine⟨rfl,(qI h5 (k:=2) (by decide)).1,(qI h5 (k:=2) (by decide)).2,fun w6 s6=> ?_⟩
   have h6:=s6.heap h5
   have m6:=qo m5 h5 (by decide) hB s6
   refine⟨rfl,(qI h6 (k:=3) (by decide)).1,(qI h6 (k:=3) (by decide)).2,fun w7 s7=> ?_⟩
   have h7:=s7.heap h6
   have m7:=qo m6 h6 (by decide) hB s7
   refine⟨rfl,(qI h7 (k:=4) (by decide)).1,(qI h7 (k:=4) (by decide)).2,fun w8 s8=> ?_⟩
   have h8:=s8.heap h7
   have m8:=qo m7 h7 (by decide) hB s8
   refine⟨_,(za h8 0).trans rfl,_,(za h8 1).trans rfl,_,_,_,(za h8 2).trans rfl,_,(za h8 3).trans rfl,_,(za h8 4).trans rfl,((a2,c2),qQ g),?_,rfl,m8⟩
   rw[hxx,hyy]
   rfl
end

section
open Go Go.RowKit Vc Ut Tb Cl
structure GrE where
  ad:Option Addr
  c:Nat
  g:Gr
def grV(e:GrE):List Value:=[.int .i64 e.g.w, .int .i64 e.g.h, .slice e.ad e.g.cs.length e.c, .int .i64 e.g.x, .int .i64 e.g.y]
def ziy(l:List GrE):List Value:=l.flatMap grV
def noG:Gr:=⟨-1,0,[],0,0⟩
def noE:GrE:=⟨none,0,noG⟩
structure GThs where
  ad:Option Addr
  c:Nat
  l:List GrE
  wd:Bool
structure grsIn(w:World)(ad:Option Addr)(l:List GrE):Prop where
  cells:CellsAt w ad (ziy l)
  each:∀e∈l,CellsAt w e.ad (zE e.g.cs)/\zi e.g.cs+e.g.cs.length<=1048576/\∀c∈e.g.cs,c.st<65536
def zb3(w:World)(b:Nat)(e:GrE):Prop:=w.heap[b]? =some (.cells (grV e).toArray 24)
end

section
open Go Go.RowKit Vc Ut Tb Cl Orb
theorem zhr:∀{l:List GrE} {i k:Nat},i<l.length->k<5->(ziy l)[i*5+k]? =(grV (l.getD i noE))[k]?
  |e::l,0,k,_,hk=>by
   unfold ziy
   rw[List.flatMap_cons,List.getElem?_append_left (by show 0*5+k<5;omega)]
   simp
  |e::l,i+1,k,h,hk=>by
   have ih:=zhr (l:=l) (i:=i) (k:=k) (by simpa using h) hk
   unfold ziy at ih⊢
   rw[List.flatMap_cons,List.getElem?_append_right (by show 5<=(i+1)*5+k;omega),show(i+1)*5+k - (grV e).length=i*5+k from by show(i+1)*5+k - 5=_;omega,ih]
   simp
def GrAt(w:World)(b o:Nat)(e:GrE):Prop:=
  w.cell? ⟨b,o,none⟩=some (.int .i64 e.g.w)/\w.cell? ⟨b,o+1,none⟩=some (.int .i64 e.g.h)/\w.cell? ⟨b,o+2,none⟩=some (.slice e.ad e.g.cs.length e.c)/\w.cell? ⟨b,o+3,none⟩=some (.int .i64 e.g.x)/\w.cell? ⟨b,o+4,none⟩=some (.int .i64 e.g.y)
theorem Vc.CellsAt.gr{w:World}{ad:Option Addr}{l:List GrE}{i:Nat}{K:Nat->Nat->Prop}(h:CellsAt w ad (ziy l))(hi:i<l.length)(hk:∀b o,GrAt w b (o+i*5) (l.getD i noE)->K b o):zr ad K:=by
  have at':∀{b o k:Nat} {v:Value},(∀(j:Nat) v,(ziy l)[j]? =some v->w.cell? ⟨b,o+j,none⟩=some v)->k<5->(grV (l.getD i noE))[k]? =some v->w.cell? ⟨b,o+i*5+k,none⟩=some v:=by
    intro b o k v hh hk hv
    rw[show o+i*5+k=o+(i*5+k)from by omega]
    exact hh _ _ ((zhr hi hk).trans hv)
  rcases h with h|⟨b,o,rfl,hh⟩
  ·have:=zhr (l:=l) (i:=i) (k:=0) hi (by decide)
   rw[h]at this
   simp[grV]at this
  ·exact hk b o ⟨at' hh (k:=0) (by decide) rfl,at' hh (k:=1) (by decide) rfl,at' hh (k:=2) (by decide) rfl,at' hh (k:=3) (by decide) rfl,at' hh (k:=4) (by decide) rfl⟩
theorem GrAt.load{w:World}{b o:Nat}{e:GrE}(h:GrAt w b o e){K:Int->Int->Option Addr->Nat->Nat->Int->Int->Prop}(hk:K e.g.w e.g.h e.ad e.g.cs.length e.c e.g.x e.g.y):
    ∃n,w.cell? ⟨b,o,none⟩=some (.int .i64 n)/\∃n1,w.cell? ⟨b,o+1,none⟩=some (.int .i64 n1)/\∃a m c,w.cell? ⟨b,o+2,none⟩=some (.slice a m c)/\∃n2,w.cell? ⟨b,o+3,none⟩=some (.int .i64 n2)/\∃n3,w.cell? ⟨b,o+4,none⟩=some (.int .i64 n3)/\K n n1 a m c n2 n3:=
  ⟨_,h.1,_,h.2.1,_,_,_,h.2.2.1,_,h.2.2.2.1,_,h.2.2.2.2,hk⟩
theorem Z4{w:World}{b:Nat}{e:GrE}(h:zb3 w b e):GrAt w b 0 e:=
  ⟨(za h 0).trans rfl,(za h 1).trans rfl,(za h 2).trans rfl,(za h 3).trans rfl,(za h 4).trans rfl⟩
theorem zsc{w:World}{b:Nat}{t:TypeId}{z0 z1 z2 z3 z4 v0 v1 v2 v3 v4:Value}{K:World->Prop}(h:w.heap[b]? =some (.cells #[z0,z1,z2,z3,z4] t))
    (hk:∀w',w'.heap[b]? =some (.cells #[v0,v1,v2,v3,v4] t)->Fr (fun q=>q=b) w w'->K w'):
    true=true/\(∃old,w.cell? ⟨b,0,none⟩=some old)/\w.frozen? ⟨b,0,none⟩=false/\∀w1,Stored w ⟨b,0,none⟩ v0 w1->
    true=true/\(∃old,w1.cell? ⟨b,1,none⟩=some old)/\w1.frozen? ⟨b,1,none⟩=false/\∀w2,Stored w1 ⟨b,1,none⟩ v1 w2->
    true=true/\(∃old,w2.cell? ⟨b,2,none⟩=some old)/\w2.frozen? ⟨b,2,none⟩=false/\∀w3,Stored w2 ⟨b,2,none⟩ v2 w3->
    true=true/\(∃old,w3.cell? ⟨b,3,none⟩=some old)/\w3.frozen? ⟨b,3,none⟩=false/\∀w4,Stored w3 ⟨b,3,none⟩ v3 w4->
    true=true/\(∃old,w4.cell? ⟨b,4,none⟩=some old)/\w4.frozen? ⟨b,4,none⟩=false/\∀w5,Stored w4 ⟨b,4,none⟩ v4 w5->K w5:=by
  refine⟨rfl,(qI h (k:=0) (by decide)).1,(qI h (k:=0) (by decide)).2,fun w1 s1=> ?_⟩
  have h1:=s1.heap h
  refine⟨rfl,(qI h1 (k:=1) (by decide)).1,(qI h1 (k:=1) (by decide)).2,fun w2 s2=> ?_⟩
  have h2:=s2.heap h1
  refine⟨rfl,(qI h2 (k:=2) (by decide)).1,(qI h2 (k:=2) (by decide)).2,fun w3 s3=> ?_⟩
  have h3:=s3.heap h2
  refine⟨rfl,(qI h3 (k:=3) (by decide)).1,(qI h3 (k:=3) (by decide)).2,fun w4 s4=> ?_⟩
  have h4:=s4.heap h3
  refine⟨rfl,(qI h4 (k:=4) (by decide)).1,(qI h4 (k:=4) (by decide)).2,fun w5 s5=> ?_⟩
  have h5:=s5.heap h4
  refine hk w5 h5 ?_
  have f:∀{a b':World} {k:Nat} {v:Value},Stored a ⟨b,k,none⟩ v b'->Fr (fun q=>q=b) a b':=fun hs=>Fr.stored hs
  exact((((f s1).trans (f s2) (fun _ _ hx=>hx)).trans (f s3) (fun _ _ hx=>hx)).trans (f s4) (fun _ _ hx=>hx)).trans (f s5) (fun _ _ hx=>hx)
theorem zhn{S:Nat->Prop}{w0 w w':World}(hf:Fr S w w')(hx:Ext w0 w)(hS:∀q,S q->w0.heap.size<=q):Ext w0 w':=
  Below.trans hx (hf.below hx.size (fun q hq hh=>by have:=hS q hh;omega))
theorem zq9(c:Ce):c.t.size<=(zM c).size/\(zM c).size<=c.t.size+1:=by
  unfold zM
  split
  ·rename_i h
   have e:(⟨#[32]⟩:ByteArray).size=1:=rfl
   omega
  ·omega
theorem zkz:∀{a b:List Ce},Zx a b=true->zi a<=zi b+b.length/\a.length=b.length
  |[],[],_=>⟨Nat.le_refl _,rfl⟩
  |c::l,d::m,h=>by
   unfold Zx at h
   simp only[Bool.and_eq_true]at h
   obtain⟨h1,h2⟩:=zkz h.2
   have h3:=(qY.1 h.1).2.2
   have h4:=zq9 c
   have h5:=zq9 d
   rw[h3]at h4
   unfold zi at h1⊢
   simp only[List.map_cons,List.sum_cons,List.length_cons]
   omega
theorem zpv{a b c:List Ce}(h1:Zx a b=true)(h2:Zx b c=true):Zx a c=true:=by
  obtain⟨l1,k1⟩:=zbD.1 h1
  obtain⟨l2,k2⟩:=zbD.1 h2
  refine zbD.2 ⟨l1.trans l2,fun j hj=> ?_⟩
  obtain⟨p1,p2,p3⟩:=qY.1 (k1 j hj)
  obtain⟨q1,q2,q3⟩:=qY.1 (k2 j (by omega))
  exact qY.2 ⟨p1.trans q1,p2.trans q2,p3.trans q3⟩
theorem QS{a b:Gr}(h:qa a b=true):a.w=b.w/\a.h=b.h/\a.x=b.x/\a.y=b.y/\Zx a.cs b.cs=true:=by
  unfold qa at h
  simpa only[Bool.and_eq_true,beq_iff_eq]using h
theorem zuQ{a b:Gr}(h:a.w=b.w/\a.h=b.h/\a.x=b.x/\a.y=b.y/\Zx a.cs b.cs=true):qa a b=true:=by
  unfold qa
  simpa only[Bool.and_eq_true,beq_iff_eq]using h
theorem zmL{a b c:Gr}(h1:qa a b=true)(h2:qa b c=true):qa a c=true:=by
  obtain⟨p1,p2,p3,p4,p5⟩:=QS h1
  obtain⟨q1,q2,q3,q4,q5⟩:=QS h2
  exact zuQ ⟨p1.trans q1,p2.trans q2,p3.trans q3,p4.trans q4,zpv p5 q5⟩
theorem zqo{g0:Gs}{m:Nat}{a b:Gr}{wd:Bool}(hg:okG g0 m)(hs:g0.stt=0)(hd:g0.wd=wd)(hw:(g0.w:Int)=b.w)(hh:(g0.h:Int)=b.h)(hb:zm b wd=true)(hst:∀c∈b.cs,c.st<65536)
    (hk:zI a b wd=true->qa (qQ g0) a=true) (hbk:zi b.cs<=1048576):∃s,(Zb a b wd).getD ⟨#[]⟩=s/\zC s=true/\s.size<=62914660/\qa (qQ (zH g0 (zo s))) b=true/\(zH g0 (zo s)).stt=0:=by
  cases hD:Zb a b wd with
  |none=>
   refine⟨⟨#[]⟩,rfl,QF.1,by decide,?_,by rw[QF.2];exact hs⟩
   rw[QF.2]
   unfold Zb at hD
   split at hD
   ·rename_i hh'
    rcases hh' with h|⟨h1,h2⟩
    ·rw[hb]at h;cases h
    ·have h3:=QS h2
     refine zmL (hk ?_) h2
     unfold zI
     simp only[Bool.and_eq_true,beq_iff_eq]
     exact⟨h1,h3.1,h3.2.1⟩
   ·cases hD
  |some s=>
   obtain⟨v1,v2,v3⟩:=zhx hg hs hd.symm hw.symm hh.symm hb hst (fun h=>(QS (hk h)).2.2.2.2) hD
   have:=ziD hst hD
   exact⟨s,rfl,v1,by omega,v2,v3⟩
theorem zqp{a b:Gr}{wd:Bool}(h1:zm a wd=true)(h2:qa a b=true):Zb a b wd=none:=by
  unfold Zb
  rw[if_pos (.inr ⟨h1,h2⟩)]
end

section
open Go Go.RowKit Vc Ut Tb Cl
structure Both where
  A1:GlP
  ha:Option Addr
  hc:Nat
  A2:GlP
  hl:List Int
  g:Gs
  m:Nat
  h:ByteArray
end

section
set_option linter.unusedVariables false
open Go Go.RowKit Vc Ut Tb Cl
open Value
set_option maxRecDepth 1000000
end
end Go.Proofs.YtjdohhididpomaaGreatDoor
