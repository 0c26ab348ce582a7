/-
  Texts joined by program: WkYf, WkYi, SpXy, WkYk, SpXw, VgXw, WkYg, SpXz.
-/
import Derived.Test.YtjdohhididpomaaGreatDoorWg24
import Derived.Test.YtjdohhididpomaaGreatDoorWg17
import Derived.Test.YtjdohhididpomaaGreatDoorWg19
import Derived.Test.YtjdohhididpomaaGreatDoorWg23
import Derived.Test.YtjdohhididpomaaGreatDoorWg22
import Derived.Test.YtjdohhididpomaaGreatDoorWg16
import Derived.Test.YtjdohhididpomaaGreatDoorProg
import Derived.KernelRfl
set_option linter.unusedVariables false
set_option linter.unusedSimpArgs false

namespace Go.Proofs.YtjdohhididpomaaGreatDoor
section
open Go Go.RowKit Vc Ut Tb Cl Orb
end

section
open Go Go.RowKit Vc Ut Tb Cl Orb
theorem RlRd.keep{S:Nat->Prop}{w w':World}{A:GlP}{h:ByteArray}(k:RlRd w A h)(hf:Fr S w w')(hS:¬S A.rb):RlRd w' A h:=
  ⟨(hf.block _ (zv k.rd) hS).trans k.rd,k.sm,k.far.1,Nat.lt_of_lt_of_le k.far.2.1 hf.size,k.far.2.2⟩
end

section
open Go Go.RowKit Vc Ut Tb Cl
end

section
open Go Go.RowKit Vc Ut Tb Cl Orb
structure RlAt(w:World)(A:GlP)(g:Gs)(hl:List Int)(m:Nat)(h:ByteArray):Prop where
  rk:rkIn w A g hl m
  rd:RlRd w A h
section
variable {w w' : World} {A : GlP} {g : Gs} {hl : List Int} {m : Nat} {h : ByteArray}
theorem RlAt.lt(k:RlAt w A g hl m h):∀q,zbJ A q->A.B<=q/\q<w.heap.size:=by
  rintro q (hq|hq)
  ·exact⟨k.rk.gl.bq q hq,k.rk.gl.lt q hq⟩
  ·subst hq
   exact⟨k.rd.far.1,k.rd.far.2.1⟩
theorem RlAt.keep{S:Nat->Prop}(k:RlAt w A g hl m h)(hf:Fr S w w')(hS:∀q,S q->A.B<=q/\¬zbJ A q):RlAt w' A g hl m h:=
  ⟨k.rk.fr hf (fun q hq=>⟨(hS q hq).1,fun hh=>(hS q hq).2 (.inl hh)⟩),k.rd.keep hf (fun hq=>(hS _ hq).2 (.inr rfl))⟩
theorem RlAt.ext(k:RlAt w A g hl m h)(hx:Ext w w'):RlAt w' A g hl m h:=
  k.keep (S:=fun _=>False) (Fr.of_ext hx) (fun _ hq=>hq.elim)
theorem RlIn.base{B0:Nat}(k:RlIn w A g hl)(hB:B0<=A.B)(hu:UDB B0 w):RlIn w {A with B:=B0} g hl:=
  ⟨k.box,k.row,k.held,fun q hq=>Nat.le_trans hB (k.bq q hq),Nat.le_trans hB k.bw,hu⟩
theorem RlAt.base{B0:Nat}(k:RlAt w A g hl m h)(hB:B0<=A.B)(hu:UDB B0 w):RlAt w {A with B:=B0} g hl m h:=
  ⟨⟨k.rk.gl.base hB hu,k.rk.ok,k.rk.mb,k.rk.hd,k.rk.len⟩,⟨k.rd.rd,k.rd.sm,Nat.le_trans hB k.rd.far.1,k.rd.far.2.1,k.rd.far.2.2⟩⟩
end
section
variable {w00 w w' : World} {l : List PcE} {i : Nat} {B B' : Both}
end
section
variable {w00 w : World} {ad : Option Addr} {l : List PcE} {i : Nat}
end
end

section
open Go Go.RowKit Vc Ut Tb Cl
structure GRt3 where
  a1:Option Addr
  c1:Nat
  g1:Gr
  a2:Option Addr
  c2:Nat
  g2:Gr
  wd:Bool
structure RtX where
  b3:Nat
  b4:Nat
  b7:Nat
  b8:Nat
  a7:Option Addr
  c7:Nat
  a8:Option Addr
  c8:Nat
structure RtF(g:GRt3)(w00:World)(x:RtX)(w:World):Prop where
  ext:Ext w00 w
  b3:zb3 w x.b3 ⟨g.a1,g.c1,g.g1⟩
  b4:zb3 w x.b4 ⟨g.a2,g.c2,g.g2⟩
  b7:zb3 w x.b7 ⟨x.a7,x.c7,g.g1⟩
  b8:zb3 w x.b8 ⟨x.a8,x.c8,g.g2⟩
  t7:CellsAt w x.a7 (zE (g.g1.cs++[qP]))
  t8:CellsAt w x.a8 (zE (g.g2.cs++[qP]))
  l7:g.g1.cs.length+1<=x.c7
  l8:g.g2.cs.length+1<=x.c8
end

section
set_option linter.unusedVariables false
open Go Go.RowKit Vc Ut Tb Cl
open Value
set_option maxRecDepth 1000000
end

section
open Go Go.RowKit Vc Ut Tb Cl Orb
structure S3(g:GRt3)(w00:World)(b b1:Nat)(zs:List Nat)(tx ty:Option (Option Addr×Nat))(w:World):Prop where
  ext:Ext w00 w
  b3:zb3 w b ⟨g.a1,g.c1,g.g1⟩
  b4:zb3 w b1 ⟨g.a2,g.c2,g.g2⟩
  in1:CellsAt w g.a1 (zE g.g1.cs)/\zi g.g1.cs<=1048576
  in2:CellsAt w g.a2 (zE g.g2.cs)/\zi g.g2.cs<=1048576
  z0:∀z∈zs,w.heap[z]? =some (.cells #[.int .i64 0, .int .i64 0, .slice none 0 0, .int .i64 0, .int .i64 0] 24)/\w00.heap.size<=z/\z≠b/\z≠b1
  nd:zs.Nodup
  t7:∀t,tx=some t->CellsAt w t.1 (zE (g.g1.cs++[qP]))/\g.g1.cs.length+1<=t.2/\∀q,qi t.1=some q->q ∉ zs
  t8:∀t,ty=some t->CellsAt w t.1 (zE (g.g2.cs++[qP]))/\g.g2.cs.length+1<=t.2/\∀q,qi t.1=some q->q ∉ zs
section
variable {g : GRt3} {w00 w w' : World} {b b1 : Nat} {zs : List Nat} {tx ty : Option (Option Addr × Nat)}
theorem S3.next(S:S3 g w00 b b1 zs tx ty w)(hx:Ext w w'):S3 g w00 b b1 zs tx ty w':=
  ⟨Ext.trans S.ext hx,Ext.heap hx S.b3,Ext.heap hx S.b4,⟨S.in1.1.ext hx,S.in1.2⟩,⟨S.in2.1.ext hx,S.in2.2⟩,fun z hz=>⟨Ext.heap hx (S.z0 z hz).1,(S.z0 z hz).2⟩,S.nd,fun t ht=>⟨(S.t7 t ht).1.ext hx,(S.t7 t ht).2⟩,fun t ht=>⟨(S.t8 t ht).1.ext hx,(S.t8 t ht).2⟩⟩
theorem S3.drew{K:World->Prop}(S:S3 g w00 b b1 zs tx ty w)(hk:∀w',S3 g w00 b b1 zs tx ty w'->K w'):∀w',Drew w w'->K w':=fun w' hd=>hk w' (S.next hd.ext)
theorem zlP{ad:Option Addr}{vs:List Value}{q:Nat}(h:CellsAt w ad vs)(hne:vs≠[])(hq:qi ad=some q):q<w.heap.size:=by
  rcases h with h|⟨o,k,rfl,hh⟩
  ·exact absurd h hne
  ·cases hq
   match vs,hne with
   |v::_,_=>
    have h0:=hh 0 v rfl
    by_cases hlt:o<w.heap.size
    ·exact hlt
    ·have hn:w.heap[o]? =none:=Array.getElem?_eq_none (by omega)
     unfold World.cell? at h0
     simp[hn]at h0
theorem zoJ(l:List Ce):zE (l++[qP])≠[]:=by
  intro h
  have:=zR (l++[qP])
  rw[h]at this
  simp at this
theorem S3.new{K:Nat->World->Prop}(S:S3 g w00 b b1 zs tx ty w)(hk:∀z w',S3 g w00 b b1 (z::zs) tx ty w'->K z w'):
    ∀z w',New w (.cells #[.int .i64 0, .int .i64 0, .slice none 0 0, .int .i64 0, .int .i64 0] 24) z w'->Below w.heap.size w w'/\K z w':=fun z w' hn=>by
  have hz:=hn.size
  have S':=S.next hn.ext
  have h0:=S.ext.size
  have l3:=zv S.b3
  have l4:=zv S.b4
  refine⟨hn.ext,hk z w' ⟨S'.ext,S'.b3,S'.b4,S'.in1,S'.in2,fun y hy=> ?_,List.nodup_cons.2 ⟨fun h=>by have:=zv (S.z0 z h).1;omega,S.nd⟩,fun t ht=>⟨(S'.t7 t ht).1,(S'.t7 t ht).2.1,fun q hq hm=> ?_⟩,fun t ht=>⟨(S'.t8 t ht).1,(S'.t8 t ht).2.1,fun q hq hm=> ?_⟩⟩⟩
  ·rcases List.mem_cons.1 hy with rfl|hy
   ·exact⟨hn.heap,by omega,by omega,by omega⟩
   ·exact S'.z0 y hy
  ·rcases List.mem_cons.1 hm with rfl|hm
   ·have:=zlP (S.t7 t ht).1 (zoJ _) hq;omega
   ·exact(S.t7 t ht).2.2 q hq hm
  ·rcases List.mem_cons.1 hm with rfl|hm
   ·have:=zlP (S.t8 t ht).1 (zoJ _) hq;omega
   ·exact(S.t8 t ht).2.2 q hq hm
theorem S3.tw7{K:GTw->World->Prop}(S:S3 g w00 b b1 zs none ty w)(hk:∀a c w',S3 g w00 b b1 zs (some (a,c)) ty w'->Below w.heap.size w w'->K ⟨a,c,g.g1⟩ w'):
    ∃g3:GTw, #[ZT g.a1 g.c1 g.g1]= #[ZT g3.ad g3.c g3.g]/\qb w g3.ad g3.g.cs/\∀(x2:GTw) w',x2.g=g3.g/\Made w w' 52 6 x2.ad (g3.g.cs.length+1) (zE (g3.g.cs++[qP])) x2.c->K x2 w':=by
  refine⟨⟨g.a1,g.c1,g.g1⟩,rfl,⟨S.in1.1,by have:=S.in1.2;dsimp only;omega⟩,?_⟩
  rintro⟨a,c,_⟩ w' ⟨rfl,hm⟩
  dsimp only at hm⊢
  have S':=S.next hm.ext
  refine hk a c w' ⟨S'.ext,S'.b3,S'.b4,S'.in1,S'.in2,S'.z0,S'.nd,fun t ht=> ?_,S'.t8⟩ hm.ext
  obtain rfl:=Option.some.inj ht
  exact⟨hm.row.cells,(by rcases hm.row.2 with⟨_,h,_⟩|⟨_,_,_,_,h,_⟩<;>dsimp only<;>omega),fun q hq hz=>by have:=hm.new q hq;have:=zv (S.z0 q hz).1;omega⟩
theorem S3.tw8{K:GTw->World->Prop}(S:S3 g w00 b b1 zs tx none w)(hk:∀a c w',S3 g w00 b b1 zs tx (some (a,c)) w'->Below w.heap.size w w'->K ⟨a,c,g.g2⟩ w'):
    ∃g3:GTw, #[ZT g.a2 g.c2 g.g2]= #[ZT g3.ad g3.c g3.g]/\qb w g3.ad g3.g.cs/\∀(x2:GTw) w',x2.g=g3.g/\Made w w' 52 6 x2.ad (g3.g.cs.length+1) (zE (g3.g.cs++[qP])) x2.c->K x2 w':=by
  refine⟨⟨g.a2,g.c2,g.g2⟩,rfl,⟨S.in2.1,by have:=S.in2.2;dsimp only;omega⟩,?_⟩
  rintro⟨a,c,_⟩ w' ⟨rfl,hm⟩
  dsimp only at hm⊢
  have S':=S.next hm.ext
  refine hk a c w' ⟨S'.ext,S'.b3,S'.b4,S'.in1,S'.in2,S'.z0,S'.nd,S'.t7,fun t ht=> ?_⟩ hm.ext
  obtain rfl:=Option.some.inj ht
  exact⟨hm.row.cells,(by rcases hm.row.2 with⟨_,h,_⟩|⟨_,_,_,_,h,_⟩<;>dsimp only<;>omega),fun q hq hz=>by have:=hm.new q hq;have:=zv (S.z0 q hz).1;omega⟩
theorem S3.fin{p q c7 c8:Nat}{a7 a8:Option Addr}{w1 w2:World}(S:S3 g w00 b b1 zs (some (a7,c7)) (some (a8,c8)) w)(hz:zs=[p,q]\/zs=[q,p])
    (hb1:zb3 w1 p ⟨a7,c7,g.g1⟩) (hf1:Fr (fun y=>y=p) w w1) (hb2:zb3 w2 q ⟨a8,c8,g.g2⟩) (hf2:Fr (fun y=>y=q) w1 w2):
    ∃c4:RtX,Value.pointer (some ⟨p,0,none⟩)= .pointer (some ⟨c4.b7,0,none⟩)/\Value.pointer (some ⟨q,0,none⟩)= .pointer (some ⟨c4.b8,0,none⟩)/\RtF g w00 c4 w2/\Value.pointer (some ⟨b,0,none⟩)= .pointer (some ⟨c4.b3,0,none⟩)/\Value.pointer (some ⟨b1,0,none⟩)= .pointer (some ⟨c4.b4,0,none⟩):=by
  have hp:p∈zs:=by rcases hz with h|h<;>rw[h]<;>simp
  have hq:q∈zs:=by rcases hz with h|h<;>rw[h]<;>simp
  have hne:p≠q:=by
    have:=S.nd
    rcases hz with h|h
    ·rw[h]at this;simp at this;exact this
    ·rw[h]at this;simp at this;exact fun h=>this h.symm
  obtain⟨zp,sp,np,np1⟩:=S.z0 p hp
  obtain⟨zq,sq,nq,nq1⟩:=S.z0 q hq
  have keep:∀{y:Nat} {o:Obj},y≠p->y≠q->w.heap[y]? =some o->w2.heap[y]? =some o:=fun{y o} h1 h2 h3=>by
    have k1:=(hf1.block y (zv h3) h1).trans h3
    exact(hf2.block y (zv k1) h2).trans k1
  have kc:∀{t:Option Addr} {l:List Value},CellsAt w t l->(∀y,qi t=some y->y ∉ zs)->CellsAt w2 t l:=fun h hn=>(h.fr hf1 (fun y hy hh=>hn y hy (by rw[hh];exact hp))).fr hf2 (fun y hy hh=>hn y hy (by rw[hh];exact hq))
  obtain⟨t7,l7,n7⟩:=S.t7 _ rfl
  obtain⟨t8,l8,n8⟩:=S.t8 _ rfl
  have hb1':zb3 w2 p ⟨a7,c7,g.g1⟩:=(hf2.block p (zv hb1) hne).trans hb1
  refine⟨⟨b,b1,p,q,a7,c7,a8,c8⟩,rfl,rfl,⟨zhn hf2 (zhn hf1 S.ext (fun y hy=>by omega)) (fun y hy=>by omega),keep (Ne.symm np) (Ne.symm nq) S.b3,keep (Ne.symm np1) (Ne.symm nq1) S.b4,hb1',hb2,kc t7 n7,kc t8 n8,l7,l8⟩,rfl,rfl⟩
theorem S3.zero(S:S3 g w00 b b1 zs tx ty w){p:Nat}(hp:p∈zs):w.heap[p]? =some (.cells #[.int .i64 0, .int .i64 0, .slice none 0 0, .int .i64 0, .int .i64 0] 24):=(S.z0 p hp).1
theorem S3.zero2{w1:World}(S:S3 g w00 b b1 zs tx ty w){p q:Nat}(hz:zs=[p,q]\/zs=[q,p])(hf:Fr (fun y=>y=p) w w1):w1.heap[q]? =some (.cells #[.int .i64 0, .int .i64 0, .slice none 0 0, .int .i64 0, .int .i64 0] 24):=by
  have hq:q∈zs:=by rcases hz with h|h<;>rw[h]<;>simp
  have hne:q≠p:=by
    have:=S.nd
    rcases hz with h|h
    ·rw[h]at this;simp at this;exact fun h=>this h.symm
    ·rw[h]at this;simp at this;exact this
  exact(hf.block q (zv (S.z0 q hq).1) hne).trans (S.z0 q hq).1
end
section
variable {g : GRt3} {w00 w : World} {x : RtX}
theorem RtF.next{w':World}(R:RtF g w00 x w)(hx:Ext w w'):RtF g w00 x w':=
  ⟨Ext.trans R.ext hx,Ext.heap hx R.b3,Ext.heap hx R.b4,Ext.heap hx R.b7,Ext.heap hx R.b8,R.t7.ext hx,R.t8.ext hx,R.l7,R.l8⟩
structure RtP(g:GRt3)(w00:World)(x:RtX)(w:World):Prop where
  r:RtF g w00 x w
  u:UP w00
  i1:CellsAt w00 g.a1 (zE g.g1.cs)/\zi g.g1.cs<=1048576
  i2:CellsAt w00 g.a2 (zE g.g2.cs)/\zi g.g2.cs<=1048576
theorem RtP.next{w':World}(R:RtP g w00 x w)(hx:Ext w w'):RtP g w00 x w':=⟨R.r.next hx,R.u,R.i1,R.i2⟩
theorem ztl(l m:List Ce):zE (l++m)=zE l++zE m:=by unfold zE;rw[List.flatMap_append]
theorem zoE{ad:Option Addr}{l:List Ce}(h:CellsAt w ad (zE (l++[qP]))):CellsAt w ad (zE l):=by
  have:=h.take (zE l).length
  rwa [ztl,List.take_left']at this
  rfl
theorem RtP.n1(R:RtP g w00 x w):qb w g.a1 g.g1.cs:=⟨R.i1.1.ext R.r.ext,by have:=R.i1.2;omega⟩
theorem RtP.n2(R:RtP g w00 x w):qb w g.a2 g.g2.cs:=⟨R.i2.1.ext R.r.ext,by have:=R.i2.2;omega⟩
theorem RtP.n7(R:RtP g w00 x w):qb w x.a7 g.g1.cs:=⟨zoE R.r.t7,by have:=R.i1.2;omega⟩
theorem RtP.n8(R:RtP g w00 x w):qb w x.a8 g.g2.cs:=⟨zoE R.r.t8,by have:=R.i2.2;omega⟩
end
end

section
open Go Go.RowKit Vc Ut Tb Cl
def zmM:CallSpec where
  G:=GThs
  args:=fun g=> #[.slice g.ad g.l.length g.c, .bool g.wd]
  pre:=fun g w=>UP w/\grsIn w g.ad g.l
  X:=Unit
  res:=fun _=> .bool true
  post:=fun _ w _ w'=>Ext w w'
def zjg:List (Nat×CallSpec):=[(7,zfy),(6,zfE),(15,zjr),(20,zfB),(21,zfA),(10,Q7),(18,zkG),(12,zbE),(19,zn2),(8,znU),(13,zn3)]
structure DfA where
  A:GlP
  g:Gs
  hl:List Int
  m:Nat
def Qk(o:Option DfA):Option Addr:=o.map fun t=>⟨t.A.p,0,none⟩
structure DfX where
  i:Nat
  o:Option DfA
  was:GrE
structure dfG(w00:World)(wd:Bool)(k:Nat)(b6:Nat)(t:DfA)(w:World):Prop where
  b:t.A.B=w00.heap.size
  rk:rkIn w t.A t.g t.hl t.m
  rd:RlRd w t.A ⟨#[]⟩
  mb:t.m<=k*67108864
  stt:t.g.stt=0
  wd:t.g.wd=wd
  n6:¬zbJ t.A b6
structure DfI(g:GThs)(w00:World)(i:Nat)(o:Option DfA)(was:GrE)(w:World)(b6:Nat):Prop where
  le:i<=g.l.length
  l12:g.l.length<=12
  ext:Ext w00 w
  hb:w00.heap.size<=b6
  box:zb3 w b6 was
  cs:CellsAt w00 was.ad (zE was.g.cs)
  bk:zi was.g.cs+was.g.cs.length<=1048576
  gl:∀t,o=some t->dfG w00 g.wd i b6 t w/\(was.g.w= -1\/qa (qQ t.g) was.g=true)
structure DfJ(g:GThs)(w00:World)(i:Nat)(o:Option DfA)(was e:GrE)(w:World)(b6 b8:Nat):Prop where
  is:DfI g w00 i o was w b6
  rt:zm e.g g.wd=true->∃t,o=some t/\(t.g.w:Int)=e.g.w/\(t.g.h:Int)=e.g.h
  bx:zb3 w b8 e
  lt:w00.heap.size<=b8
  ne:b8≠b6
  n8:∀t,o=some t->¬zbJ t.A b8
structure DfK(g:GThs)(w00:World)(i:Nat)(o:Option DfA)(was e f:GrE)(w:World)(b6 b8 bf:Nat):Prop where
  is:DfJ g w00 i o was e w b6 b8
  fr:f=was\/f.g.w= -1
  bx:zb3 w bf f
  cs:CellsAt w00 f.ad (zE f.g.cs)
  bk:zi f.g.cs+f.g.cs.length<=1048576
  lt:w00.heap.size<=bf
  ne:bf≠b6/\bf≠b8
  nf:∀t,o=some t->¬zbJ t.A bf
def g3F(g:GThs)(f e:GrE):GRt3:=⟨f.ad,f.c,f.g,e.ad,e.c,e.g,g.wd⟩
def ZS(v:Value):Nat:=match v with| .pointer (some a)=>a.block|_=>0
def eAt(g:GThs)(i:Nat):GrE:=g.l.getD i noE
structure DkX where
  o:Option DfA
  was:GrE
  f:GrE
def zun(g:GThs)(w00:World):Ann where
  sp:=zjg
  cuts:=[(16,18,{X:=Option DfA×GrE,sh:=fun _ x=>[(6, .pointer (Qk x.1))],inv:=fun e _ x w=>DfJ g w00 (gi e 8).toNat x.1 x.2 (eAt g (gi e 8).toNat) w (ZS (gv e 7)) (ZS (gv e 9))}),
    (20,21,{X:=DkX,sh:=fun _ _=>[],inv:=fun e _ x w=>gv e 6= .pointer (Qk x.o)/\DfK g w00 (gi e 8).toNat x.o x.was (eAt g (gi e 8).toNat) x.f w (ZS (gv e 7)) (ZS (gv e 9)) (ZS (gv e 11))}),
    (22,22,{X:=DkX×RtX,sh:=fun _ x=>[(12, .pointer (some ⟨x.2.b7,0,none⟩)),(13, .pointer (some ⟨x.2.b8,0,none⟩))],inv:=fun e w0 x w=>gv e 6= .pointer (Qk x.1.o)/\DfK g w00 (gi e 8).toNat x.1.o x.1.was (eAt g (gi e 8).toNat) x.1.f w (ZS (gv e 7)) (ZS (gv e 9)) (ZS (gv e 11))/\RtF (g3F g x.1.f (eAt g (gi e 8).toNat)) w0 x.2 w/\gv e 11= .pointer (some ⟨x.2.b3,0,none⟩)/\gv e 9= .pointer (some ⟨x.2.b4,0,none⟩)}),
    (24,25,{X:=Unit,sh:=fun _ _=>[],inv:=fun _ w0 _ w=>Ext w0 w}),
    (26,28,{X:=Unit,sh:=fun _ _=>[],inv:=fun e w0 _ w=>Ext w0 w/\gv e 10= .bool true}),
    (30,31,{X:=Unit,sh:=fun _ _=>[],inv:=fun _ w0 _ w=>Ext w0 w})]
  loops:=[(4,{
    X:=Nat
    sh:=fun _ i=>[(21, .int .i64 i)]
    inv:=fun _ _ i w=>i<=g.l.length/\Ext w00 w
    mu:=fun _ _ i _=>g.l.length - i}),
    (12,{
    X:=DfX
    sh:=fun _ x=>[(43, .int .i64 x.i),(6, .pointer (Qk x.o))]
    inv:=fun e _ x w=>DfI g w00 x.i x.o x.was w (ZS (gv e 7))
    mu:=fun _ _ x _=>g.l.length - x.i})]
end
end Go.Proofs.YtjdohhididpomaaGreatDoor
