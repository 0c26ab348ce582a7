/-
  Texts joined by program: Sw, SpSf, SpSa, Qa, SpXa, Qe, SpR, SpI.
-/
import Derived.Test.YtjdohhididpomaaGreatDoorWf05
import Derived.Test.YtjdohhididpomaaGreatDoorWf04
import Derived.Lib.ItoaNum
import Derived.Test.YtjdohhididpomaaGreatDoorProg
set_option linter.unusedVariables false
set_option linter.unusedSimpArgs false

namespace Go.Proofs.YtjdohhididpomaaGreatDoor
section
open Go Vc Ut Tb Cl
structure Lk where
  tab:Int
  wide:Bool
  want:Int
  join:Bool
  raw:Bool
def lkV(l:Lk):Value:= .agg #[.int .i64 l.tab, .bool l.wide, .int .i8 l.want, .bool l.join, .bool l.raw]
def zfY(t:Int):Nat:=if t<1\/16<t then 8 else t.toNat
def qs(c:Int)(t:Int):Nat:=zfY t - c.toNat%zfY t
def zdM(d:Nat):UInt8:=if d<10 then UInt8.ofNat (48+d)else UInt8.ofNat (87+d)
def zqk(b:Nat):ByteArray:=⟨#[60,zdM (b / 16),zdM (b%16),62]⟩
def Z7(n:Nat):ByteArray:=⟨(List.replicate n 32).toArray⟩
def qQ(x:Nat):Nat->List UInt8
  |0=>[]
  |j+1=>zdM (x / 16^j%16)::qQ x j
def qA(l:List UInt8):ByteArray:=⟨l.toArray⟩
def Qn(x:Nat):Nat:=if x<256 then 2 else if x<4096 then 3 else if x<65536 then 4 else if x<1048576 then 5 else 6
def Qy(x:Nat):Nat:=if Qn x<4 then 4 else Qn x
def ZF(x:Nat):ByteArray:=(qA [60]++qA (qQ x (Qy x)))++qA [62]
def qb(k:ByteArray):Int:=if 1<cnt k then sg k 1 else 0
def ZT(x:Int):Bool:=decide (128<=x/\x<=159)||(x==8232||x==8233)||(zl x==1&& !qe x)
def zch(k:ByteArray):ByteArray:=if cnt k=32 then k.extract 0 (pos k 31)else k
def zeD(x:Int):ByteArray:=qA [94,if x=127 then 63 else UInt8.ofNat (x.toNat+64)]
def zQ(k:ByteArray)(col:Int)(l:Lk):ByteArray×Nat:=
  if zu k 0=true then(zqk (bt k 0),4)
  else if sg k 0=9 then(Z7 (qs col l.tab),qs col l.tab)
  else if sg k 0=10\/qb k=10 then(⟨#[]⟩,0)
  else if sg k 0<32\/sg k 0=127 then(zeD (sg k 0),2)
  else if ZT (sg k 0)=true then(if l.raw=true then(ZF (sg k 0).toNat,(ZF (sg k 0).toNat).size)else(⟨#[]⟩,0))
  else if zl (sg k 0)=2\/qe (sg k 0)=true then(⟨#[226,151,140]⟩++zch k,1)
  else if(qd (sg k 0)=true/\qd (qb k)=true)\/(zl (sg k 0)=7/\zU (sg k 0) l.wide=1/\qb k=65039)then(k,2)
  else if zU (sg k 0) l.wide=0 then(⟨#[]⟩,0)else(k,(zU (sg k 0) l.wide).toNat)
def Zb(c:ByteArray)(col:Int)(l:Lk):ByteArray×Nat:=if c.size=0 then(⟨#[]⟩,0)else zQ (pcP c 0).2 col l
end

section
open Go Go.RowKit Vc Ut Tb Cl
def DB(w:World):Prop:=w.cell? ⟨5,15,none⟩=some (.int .u8 4)
def sTz(k:IntKind):CallSpec where
  G:=Unit
  args:=fun _=> #[.int k 16]
  pre:=fun _ w=>DB w
  X:=Unit
  res:=fun _=> .int .i64 4
  post:=fun _ w _ w'=>w'=w
def zuz:CallSpec where
  G:=Unit
  args:=fun _=> #[.int .i64 16]
  pre:=fun _ _=>True
  X:=Unit
  res:=fun _=> .bool true
  post:=fun _ w _ w'=>w'=w
def u8L(l:List UInt8):List Value:=l.map fun b=> .int .u8 (b.toNat:Nat)
def zao(d:Nat):CallSpec where
  G:=Nat
  args:=fun u=> #[.slice none 0 0, .int .u64 u, .int .i64 16, .bool false, .bool false]
  pre:=fun u w=>DB w/\16^(d - 1)<=u/\u<16^d
  X:=Unit×ByteArray
  res:=fun x=> .tuple #[.slice none 0 0, .string x.2]
  post:=fun u w x w'=>x.2=qA (qQ u d)/\Ext w w'
def zw0:CallSpec where
  G:=Nat
  args:=fun u=> #[.slice none 0 0, .int .u64 u, .int .i64 16, .bool false, .bool false]
  pre:=fun u w=>DB w/\16<=u/\u<16777216
  X:=Unit×ByteArray
  res:=fun x=> .tuple #[.slice none 0 0, .string x.2]
  post:=fun u w x w'=>x.2=qA (qQ u (Qn u))/\Ext w w'
def zxr:List (Nat×CallSpec):=[(151,sTz .u64)]
def zbU:List (Nat×CallSpec):=[(145,zuz),(146,sTz .u64)]
def Zw(u j:Nat):List Value:=List.replicate (65 - j) (.int .u8 0)++u8L (qQ u j)
def zdY(d:Nat)(i:Int)(u:Nat)(w00:World):Ann where
  sp:=zbU
  loops:=[(11,{
    X:=Nat
    sh:=fun _ j=>[(13, .int .i64 (65 - j)),(1, .int .u64 (u / 16^j:Nat))]
    inv:=fun e w0 j w=>j+1<=d/\(∃b,gv e 12= .pointer (some ⟨b,0,none⟩)/\w00.heap.size<=b/\w.heap[b]? =some (.cells (Zw u j).toArray 184))/\Ext w00 w
    mu:=fun _ _ j _=>d - j})]
  cuts:=[(11,14,{X:=Unit,sh:=fun _ _=>[(13, .int .i64 i),(1, .int .u64 (u / 16^(d - 1):Nat))],inv:=fun e w0 _ w=>(∃b j,gv e 12= .pointer (some ⟨b,0,none⟩)/\w00.heap.size<=b/\j+1=d/\w.heap[b]? =some (.cells (Zw u j).toArray 184))/\Ext w00 w})]
def zeP:CallSpec where
  G:=Nat
  args:=fun u=> #[.int .i64 u, .int .i64 16]
  pre:=fun u w=>DB w/\16<=u/\u<16777216
  X:=ByteArray
  res:=fun x=> .string x
  post:=fun u w x w'=>x=qA (qQ u (Qn u))/\Ext w w'
def zmh:List (Nat×CallSpec):=[(133,zw0)]
def zrb:List (Nat×CallSpec):=[(139,zeP)]
def zjd:CallSpec where
  G:=Nat
  args:=fun u=> #[.int .i32 u]
  pre:=fun u w=>DB w/\16<=u/\u<=1114111
  X:=ByteArray
  res:=fun x=> .string x
  post:=fun u w x w'=>x=ZF u/\Ext w w'
def ziV:List (Nat×CallSpec):=[(124,zeP)]
def zt2(u:Nat)(_:World):Ann where
  sp:=ziV
  loops:=[(2,{
    X:=Nat
    sh:=fun _ j=>[(3, .string (qA (qQ u j)))]
    inv:=fun _ w0 j w=>Qn u<=j/\j<=Qy u/\w=w0
    mu:=fun _ _ j _=>4 - j})]
def znK:CallSpec where
  G:=Nat
  args:=fun u=> #[.int .i32 u]
  pre:=fun u w=>16<=u/\u<=1114111
  X:=ByteArray
  res:=fun x=> .string x
  post:=fun u w x w'=>x=qA (qQ u (Qy u))/\Ext w w'
structure GNm where
  j:Nat
  a:Option Addr
  c:Nat
def zwB(u:Nat)(w00:World):Ann where
  sp:=[]
  loops:=[(3,{
    X:=GNm
    sh:=fun _ x=>[(4, .int .i64 (u / 16^x.j:Nat)),(3, .slice x.a x.j x.c)]
    inv:=fun _ _ x w=>x.j<=Qy u/\Made w00 w 5 1 x.a x.j (u8L (qQ u x.j)) x.c
    mu:=fun _ _ x _=>10 - x.j})]
def zfs:CallSpec where
  G:=Nat
  args:=fun n=> #[.int .i64 n]
  pre:=fun n w=>n<=16
  X:=ByteArray
  res:=fun x=> .string x
  post:=fun n w x w'=>x=Z7 n/\Ext w w'
def zqw(n:Nat)(w00:World):Ann where
  sp:=[]
  loops:=[(3,{
    X:=GNm
    sh:=fun _ x=>[(4, .int .i64 x.j),(3, .slice x.a x.j x.c)]
    inv:=fun _ _ x w=>x.j<=n/\Made w00 w 5 1 x.a x.j (u8L (List.replicate x.j 32)) x.c
    mu:=fun _ _ x _=>n - x.j})]
end

section
open Go Go.RowKit Vc Ut Tb Cl
def zeO:CallSpec where
  G:=Int×Lk
  args:=fun g=> #[.int .i64 g.1,lkV g.2]
  pre:=fun _ _=>True
  X:=Nat
  res:=fun x=> .int .i64 x
  post:=fun g w x w'=>x=qs g.1 g.2.tab/\Ext w w'
def zyB:CallSpec where
  G:=Nat
  args:=fun n=> #[.string ⟨#[32]⟩, .int .i64 n]
  pre:=fun n _=>n<=16
  X:=ByteArray
  res:=fun x=> .string x
  post:=fun n w x w'=>x=Z7 n/\Ext w w'
structure GK6 where
  k:ByteArray
  col:Int
  l:Lk
  a:Option Addr
  c:Nat
def qK(k:ByteArray)(l:Lk):Bool:=(qd (sg k 0)&&qd (qb k))||(zl (sg k 0)==7&&zU (sg k 0) l.wide==1&&qb k==65039)
def Qu(x:Int):Bool:=x==8232||x==8233||(zl x==1&& !qe x)
def zrq:CallSpec where
  G:=GK6
  args:=fun g=> #[.string g.k, .slice g.a (cnt g.k) g.c, .int .i64 g.col,lkV g.l]
  pre:=fun g w=>DB w/\g.k.size<=67108864/\qW g.k=1/\zu g.k 0=false/\cnt g.k<=g.c/\CellsAt w g.a ((zo g.k).map (Value.int .i32))
  X:=ByteArray×Nat
  res:=fun x=> .tuple #[.string x.1, .int .i64 x.2]
  post:=fun g w x w'=>x=zQ g.k g.col g.l/\Ext w w'
def zhR(b:Bool):CallSpec where
  G:=GK6
  args:=fun g=> #[.string g.k, .slice g.a (cnt g.k) g.c, .int .i64 g.col,lkV g.l]
  pre:=fun g w=>Qu (sg g.k 0)=b/\zrq.pre g w
  X:=ByteArray×Nat
  res:=fun x=> .tuple #[.string x.1, .int .i64 x.2]
  post:=fun g w x w'=>x=zQ g.k g.col g.l/\Ext w w'
def zec:List (Nat×CallSpec):=[(97,zeO),(98,zyB),(61,zbW .i8 zl),(99,zjd),(100,zcK (fun w w'=>Ext w w')),(101,sRB qd)]
def zoD(g:GK6):List (Nat×Nat×CutAnn):=
  [(3,4,{X:=Unit,sh:=fun _ _=>[(11, .int .i32 (qb g.k))],inv:=fun _ w0 _ w=>w=w0}),
    (28,29,{X:=Unit,sh:=fun _ _=>[(99, .bool (qK g.k g.l))],inv:=fun _ w0 _ w=>Ext w0 w})]
def zwy(g:GK6)(_:World):Ann where
  sp:=zec
  cuts:=zoD g
def zwA(g:GK6)(_:World):Ann where
  sp:=zec
  cuts:=(11,13,{X:=Unit,sh:=fun _ _=>[(45, .bool (Qu (sg g.k 0)))],inv:=fun _ w0 _ w=>Ext w0 w})::zoD g
structure GT6 where
  s:ByteArray
  col:Int
  l:Lk
def zaO:CallSpec where
  G:=GT6
  args:=fun g=> #[.string g.s, .int .i64 g.col,lkV g.l]
  pre:=fun g w=>U8 w/\DB w/\g.s.size<=67108864
  X:=ByteArray×Nat
  res:=fun x=> .tuple #[.string x.1, .int .i64 x.2]
  post:=fun g w x w'=>x=Zb g.s g.col g.l/\Ext w w'
def ziI:List (Nat×CallSpec):=[(67,sSN zz),(50,zc0 Q4 QB),(68,zrq)]
def znJ:CallSpec where
  G:=GK6
  args:=fun g=> #[.slice g.a (cnt g.k) g.c, .string g.k, .int .i64 g.col,lkV g.l]
  pre:=fun g w=>g.k.size<=67108864/\qW g.k=1/\cnt g.k<=g.c/\CellsAt w g.a ((List.range (cnt g.k)).flatMap (ZN g.k))
  X:=ByteArray×Nat
  res:=fun x=> .tuple #[.string x.1, .int .i64 x.2]
  post:=fun g w x w'=>x=zQ g.k g.col g.l/\Ext w w'
def zma:List (Nat×CallSpec):=[(103,zeO),(104,zfs),(54,zae .i8 zl),(105,sRB qe),(106,znK),(107,sLS runesBytes),(108,sRB qd),(109,zcK (fun w w'=>w'=w))]
def zwz(g:GK6)(_:World):Ann where
  sp:=zma
  cuts:=[(14,14,{X:=Unit,sh:=fun _ _=>[(83, .bool (ZT (sg g.k 0)))],inv:=fun _ w0 _ w=>Ext w0 w}),
    (19,19,{X:=Unit,sh:=fun _ _=>[(100, .bool (zl (sg g.k 0)==2||qe (sg g.k 0)))],inv:=fun _ w0 _ w=>Ext w0 w}),
    (21,21,{X:=Unit,sh:=fun _ _=>[(1, .string (zch g.k))],inv:=fun _ w0 _ w=>w=w0}),
    (23,23,{X:=Unit,sh:=fun _ _=>[(130, .bool (qd (sg g.k 0)&&qd (qb g.k)))],inv:=fun _ w0 _ w=>Ext w0 w}),
    (26,26,{X:=Unit,sh:=fun _ _=>[(153, .bool (zl (sg g.k 0)==7&&zU (sg g.k 0) g.l.wide==1&&qb g.k==65039))],inv:=fun _ w0 _ w=>Ext w0 w})]
def ziH:List (Nat×CallSpec):=[(69,sSN zz),(71,zef),(70,znJ)]
end

section
open Go Vc Ut Tb Cl
structure Ce where
  t:ByteArray
  p:Int
  a:Int
  n:Int
  r:Bool
  st:Nat
 deriving DecidableEq
def ceV(c:Ce):List Value:=[.string c.t, .int .i8 c.p, .int .i64 c.a, .int .i64 c.n, .bool c.r, .int .u16 c.st]
def zr(st:Nat):Ce:=⟨⟨#[]⟩,0,0,0,false,st⟩
def Zs(st:Nat):Ce:=⟨⟨#[]⟩,1,0,0,false,st⟩
def zL(c:Ce):ByteArray:=if c.p=0/\c.t.size=0 then⟨#[32]⟩else c.t
def qv(a b:Ce):Bool:=a.p==b.p&&(a.st==b.st&&decide (zL a=zL b))
def lkW(wd:Bool):Lk:=⟨0,wd,0,false,false⟩
def plN(s:ByteArray)(wd:Bool):Nat:=if zw s=true/\qW s=1/\(Zb s 0 (lkW wd)).1=s/\(Zb s 0 (lkW wd)).2<=2 then(Zb s 0 (lkW wd)).2 else 0
structure Gr where
  w:Int
  h:Int
  cs:List Ce
  x:Int
  y:Int
def qo(w h:Int):Bool:=decide (0<=w/\w<=1024/\0<=h/\h<=1024)
def Qm(w:Nat)(wd:Bool):List Ce->Nat->Bool
  |[],_=>true
  |c::r,i=>c.p==0&&(if plN (zL c) wd=0 then false else if plN (zL c) wd=2 then
    (match r with
      |[]=>false
      |d::r'=> !((i+1)%w==0)&&(d.p==1&&(d.st==c.st&&decide (d.t.size=0)))&&Qm w wd r' (i+2))
    else Qm w wd r (i+1))
def zde(g:Gr):Bool:=(g.x== -1&&g.y== -1)||decide (0<=g.x/\g.x<g.w/\0<=g.y/\g.y<g.h)
def zA(g:Gr)(wd:Bool):Bool:=qo g.w g.h&&((g.cs.length:Int)==g.w*g.h&&(zde g&&Qm g.w.toNat wd g.cs 0))
def ZW:List Ce->List Ce->Bool
  |[],[]=>true
  |a::l,b::m=>qv a b&&ZW l m
  |_,_=>false
def qw(a b:Gr):Bool:=a.w==b.w&&(a.h==b.h&&(a.x==b.x&&(a.y==b.y&&ZW a.cs b.cs)))
structure Gs where
  w:Nat
  h:Nat
  wd:Bool
  cs:List Ce
  x:Nat
  y:Nat
  hid:Bool
  sty:Nat
  last:Nat
  stt:Nat
  num:List Int
  asked:Bool
  void:Bool
def Zg(w h:Nat)(wd:Bool):Gs:=⟨w,h,wd,List.replicate (w*h) (zr 0),0,0,false,0,0,0,[],false,false⟩
def zg(l:List Ce)(i:Nat):Ce:=l.getD i (zr 0)
def qq(g:Gs):Gs:=if g.w<=g.x then {g with x:=g.w - 1}else g
def zZ(g:Gs):Gs:=if g.y+1<g.h then {g with y:=g.y+1}else {g with cs:=g.cs.drop g.w++List.replicate (min g.w g.cs.length) (zr 0)}
def zC(l:List Ce)(w i:Nat)(c:Ce):List Ce:=
  (if(zg l i).p=1 then l.set (i - 1) (zr (zg l (i - 1)).st)else if(i+1)%w≠0/\(zg l (i+1)).p=1 then l.set (i+1) (zr (zg l (i+1)).st)else l).set i c
def Zo(r:Int):ByteArray:=Utf8.encode r
def zX(g:Gs)(r:Int):Option Gs:=
  if g.last=0 then none else
  if plN (zL (zg g.cs (g.last - 1))++Zo r) g.wd<plN (zL (zg g.cs (g.last - 1))) g.wd then none else
  if plN (zL (zg g.cs (g.last - 1))) g.wd<plN (zL (zg g.cs (g.last - 1))++Zo r) g.wd then
   (if g.last%g.w=0 then some {g with last:=0}else
     some {g with cs:=(zC g.cs g.w g.last (Zs (zg g.cs (g.last - 1)).st)).set (g.last - 1) {zg (zC g.cs g.w g.last (Zs (zg g.cs (g.last - 1)).st)) (g.last - 1)with t:=zL (zg g.cs (g.last - 1))++Zo r},x:=g.x+1})
  else some {g with cs:=g.cs.set (g.last - 1) {zg g.cs (g.last - 1)with t:=zL (zg g.cs (g.last - 1))++Zo r}}
def Qc(g:Gs)(s:ByteArray)(n:Nat):Gs:=
  let i:=g.y*g.w+g.x
  let c1:=if n=2 then zC g.cs g.w (i+1) (zr g.sty)else g.cs
  let c2:=zC c1 g.w i ⟨s,0,0,0,false,g.sty⟩
  let c3:=if n=2 then c2.set (i+1) {zg c2 (i+1)with p:=1}else c2
  {g with cs:=c3,x:=g.x+n,last:=i+1}
def qD(g:Gs)(r:Int):Gs:=
  match zX g r with
  |some g'=>g'
  |none=>
   let s:=(Zb (Zo r) 0 (lkW g.wd)).1
   let n:=plN s g.wd
   if n=0\/g.w<n\/g.h=0 then {g with last:=0}
   else Qc (if g.w<g.x+n then zZ {g with last:=0,x:=0}else {g with last:=0}) s n
def zK:Nat->List Int->Nat->Nat
  |0,_,st=>st
  |_,[],st=>st
  |f+1,n::l,st=>
   if n= -1\/n=0 then zK f l 0
   else if n=1 then zK f l (st|||256)
   else if n=3 then zK f l (st|||512)
   else if n=4 then zK f l (st|||1024)
   else if n=7 then zK f l (st|||2048)
   else match l with
     |a::k::l'=>
      if n=38/\a=5/\0<=k/\k<=255 then zK f l' ((st / 256*256)|||k.toNat)
      else if n=48/\a=5/\0<=k/\k<=15 then zK f l' ((st%4096)|||(k.toNat*4096))
      else zK f l st
     |_=>zK f l st
def Zl(l:List Int)(st:Nat):Nat:=zK l.length l st
def zS(l:List Int)(i:Nat):Int:=l.getD i (-1)
def qS(n:Int)(m:Nat):Nat:=(max (min n (m:Int) - 1) 0).toNat
def zH(g:Gs)(r:Int):Gs:=
  if g.void=true then g
  else if g.asked=true then(if zS g.num 0=25/\(r=104\/r=108)then {g with hid:=r==108}else g)
  else if r=72 then {g with y:=qS (zS g.num 0) g.h,x:=qS (zS g.num 1) g.w}
  else if r=74/\zS g.num 0=2 then qq {g with cs:=List.replicate g.cs.length (zr 0)}
  else if r=109 then {g with sty:=Zl g.num g.sty}
  else g
def qp(g:Gs)(r:Int)(first:Bool):Gs:=
  if r=63/\first=true then {g with asked:=true}
  else if r=59 then {g with num:=g.num++[-1]}
  else if 48<=r/\r<=57 then {g with num:=g.num.set (g.num.length - 1) (min (max (zS g.num (g.num.length - 1)) 0*10+(r - 48)) 9999)}
  else {g with void:=true}
def qy(g:Gs)(r:Int):Gs:=
  if zl r≠0 then qD g r
  else if r=27 then {g with last:=0,stt:=1}
  else if r=13 then {g with last:=0,x:=0}
  else if r=10 then zZ (qq {g with last:=0})
  else {g with last:=0}
def zi(g:Gs)(r:Int):Gs:=
  if g.stt=1 then(if r=91 then {g with stt:=2,num:=[],asked:=false,void:=false}else {g with stt:=0})
  else if g.stt=2 then
    let g1:=if g.num=[]then {g with num:=[-1]}else g
    if 32<=r/\r<=63 then qp g1 r (decide (g.num=[]))
    else if 64<=r/\r<=126 then zH {g1 with stt:=0} r
    else qy {g1 with stt:=0} r
  else qy g r
def zB(g:Gs)(l:List Int):Gs:=l.foldl zi g
def zR(g:Gs):Gr:=⟨g.w,g.h,g.cs,if g.hid=false/\g.cs≠[]then(min (g.x:Int) ((g.w:Int) - 1))else -1,if g.hid=false/\g.cs≠[]then(g.y:Int)else -1⟩
end

section
open Go Go.RowKit Vc Ut Tb Cl
def UD(w:World):Prop:=U8 w/\DB w
def qn(cs:List Ce):List Value:=cs.flatMap ceV
def ceA(c:Ce):Value:= .agg #[.string c.t, .int .i8 c.p, .int .i64 c.a, .int .i64 c.n, .bool c.r, .int .u16 c.st]
def grA(ad:Option Addr)(c:Nat)(g:Gr):Value:= .agg #[.int .i64 g.w, .int .i64 g.h, .slice ad g.cs.length c, .int .i64 g.x, .int .i64 g.y]
def Q8:CallSpec where
  G:=Ce
  args:=fun c=> #[ceA c]
  pre:=fun _ _=>True
  X:=ByteArray
  res:=fun x=> .string x
  post:=fun c w x w'=>x=zL c/\Ext w w'
def QS:CallSpec where
  G:=Ce×Ce
  args:=fun c=> #[ceA c.1,ceA c.2]
  pre:=fun _ _=>True
  X:=Bool
  res:=fun x=> .bool x
  post:=fun c w x w'=>x=qv c.1 c.2/\Ext w w'
def zbp:CallSpec where
  G:=ByteArray×Bool
  args:=fun g=> #[.string g.1, .bool g.2]
  pre:=fun g w=>UD w/\g.1.size<=67108864
  X:=Nat
  res:=fun x=> .int .i64 x
  post:=fun g w x w'=>x=plN g.1 g.2/\Ext w w'
def zdw:CallSpec where
  G:=ByteArray×Bool
  args:=fun g=> #[.string g.1, .bool g.2]
  pre:=fun g w=>UD w/\g.1.size<=67108864
  X:=Nat×Bool
  res:=fun x=> .tuple #[.int .i64 x.1, .bool x.2]
  post:=fun g w x w'=>x.2=decide (plN g.1 g.2≠0)/\(x.2=true->x.1=plN g.1 g.2)/\Ext w w'
def zbn:CallSpec where
  G:=Int×Int
  args:=fun g=> #[.int .i64 g.1, .int .i64 g.2]
  pre:=fun _ _=>True
  X:=Bool
  res:=fun x=> .bool x
  post:=fun g w x w'=>x=qo g.1 g.2/\Ext w w'
def zm(cs:List Ce):Nat:=(cs.map fun c=>1+c.t.size).sum
structure GGr where
  ad:Option Addr
  c:Nat
  g:Gr
  wd:Bool
def ZC(w:World)(ad:Option Addr)(cs:List Ce):Prop:=CellsAt w ad (qn cs)/\zm cs<=67108864
def zdu:CallSpec where
  G:=GGr
  args:=fun g=> #[grA g.ad g.c g.g, .bool g.wd]
  pre:=fun g w=>UD w/\ZC w g.ad g.g.cs
  X:=Bool
  res:=fun x=> .bool x
  post:=fun g w x w'=>x=zA g.g g.wd/\Ext w w'
structure GGg where
  a1:Option Addr
  c1:Nat
  g1:Gr
  a2:Option Addr
  c2:Nat
  g2:Gr
def zbo:CallSpec where
  G:=GGg
  args:=fun g=> #[grA g.a1 g.c1 g.g1,grA g.a2 g.c2 g.g2]
  pre:=fun g w=>ZC w g.a1 g.g1.cs/\ZC w g.a2 g.g2.cs
  X:=Bool
  res:=fun x=> .bool x
  post:=fun g w x w'=>x=qw g.g1 g.g2/\Ext w w'
def zgk:List (Nat×CallSpec):=[(26,Q8)]
def zgg:List (Nat×CallSpec):=[(43,zaF zw),(44,sSN qW),(45,zaO)]
def zf9:List (Nat×CallSpec):=[(24,zbn),(26,Q8),(25,zbp)]
def zqq(g:GGr)(_:World):Ann where
  sp:=zf9
  cuts:=[(3,3,{X:=Unit,sh:=fun _ _=>[(5, .bool (g.g.x== -1&&g.g.y== -1))],inv:=fun _ w0 _ w=>w=w0}),(4,5,{X:=Unit,sh:=fun _ _=>[],inv:=fun _ w0 _ w=>w=w0/\zde g.g=true})]
  loops:=[(7,{
    X:=Nat
    sh:=fun _ i=>[(6, .int .i64 i)]
    inv:=fun _ w0 i w=>i<=g.g.cs.length/\Qm g.g.w.toNat g.wd (g.g.cs.drop i) i=Qm g.g.w.toNat g.wd g.g.cs 0/\Ext w0 w
    mu:=fun _ _ i _=>g.g.cs.length - i})]
def ziN:List (Nat×CallSpec):=[(30,QS)]
def ztT(g:GGg)(_:World):Ann where
  sp:=ziN
  loops:=[(4,{
    X:=Nat
    sh:=fun _ i=>[(44, .int .i64 i)]
    inv:=fun _ w0 i w=>i<=g.g1.cs.length/\ZW (g.g1.cs.drop i) (g.g2.cs.drop i)=ZW g.g1.cs g.g2.cs/\Ext w0 w
    mu:=fun _ _ i _=>g.g1.cs.length - i})]
def zgl:List (Nat×CallSpec):=[(29,Q8)]
def zgh:List (Nat×CallSpec):=[(46,zaO),(47,zaF zw),(48,sSN qW)]
def zqs(g:ByteArray×Bool)(_:World):Ann where
  sp:=zgh
def ziO:List (Nat×CallSpec):=[(31,QS)]
def ztU(g:GGg)(_:World):Ann where
  sp:=ziO
  loops:=[(4,{
    X:=Nat
    sh:=fun _ i=>[(5, .int .i64 i)]
    inv:=fun _ w0 i w=>i<=g.g1.cs.length/\ZW (g.g1.cs.drop i) (g.g2.cs.drop i)=ZW g.g1.cs g.g2.cs/\Ext w0 w
    mu:=fun _ _ i _=>g.g1.cs.length - i})]
end

section
open Go Vc Ut Tb Cl
structure Te where
  b:ByteArray
  ps:Int
  last:ByteArray
  st:Nat
  w:Int
  wd:Bool
def qE(n:Int):ByteArray:=⟨(Lib.itoa n).toArray⟩
def qT:Bool->List Int->ByteArray
  |_,[]=>⟨#[]⟩
  |first,n::l=>(if first then⟨#[]⟩else⟨#[59]⟩)++qE n++qT false l
def za1(c:UInt8)(l:List Int):ByteArray:=⟨#[27,91]⟩++qT true l++⟨#[c]⟩
def zhC(t:Te)(c:UInt8)(l:List Int):Te:={t with b:=t.b++za1 c l,last:=⟨#[]⟩}
def Qj(t:Te)(i:Int):Te:={zhC t 72 [i / t.w+1,i%t.w+1]with ps:=i}
def qN(st i:Nat):List Int:=((List.range i).filter fun j=>st / 2^(8+j)%2=1).map fun j=>[1,3,4,7].getD j 0
def qR(st:Nat):List Int:=[0]++qN st 4++(if st%256≠0 then [38,5,((st%256:Nat):Int)]else [])++(if st / 4096≠0 then [48,5,((st / 4096:Nat):Int)]else [])
def Qe(t:Te)(st:Nat):Te:={zhC t 109 (qR st)with st:=st}
def zew(t:Te)(s:ByteArray):Bool:=decide (t.last.size≠0)&&decide (qW (t.last++s.extract 0 (QB s))=1)
def te1(t:Te)(i:Int):Te:=if t.ps≠i then Qj t i else t
def te2(t:Te)(st:Nat):Te:=if t.st≠st then Qe t st else t
def te3(t:Te)(i:Int)(s:ByteArray):Te:=if zew t s=true then Qj t i else t
def te4(t:Te)(i:Int)(s:ByteArray):Te:={t with b:=t.b++s,last:=s,ps:=if(i+plN s t.wd)%t.w=0 then -1 else i+plN s t.wd}
def Qq(t:Te)(i:Int)(c:Ce):Te:=te4 (te3 (te2 (te1 t i) c.st) i (zL c)) i (zL c)
def zcc(a b:List Ce)(i:Nat):Bool:=decide (i+1<b.length)&&((zg b (i+1)).p==1&& !qv (zg a (i+1)) (zg b (i+1)))
def QE(kn:Bool)(a b:List Ce)(i:Nat):Bool:=(zg b i).p==0&&(!kn||(!qv (zg a i) (zg b i)||zcc a b i))
def qB(kn:Bool)(a b:List Ce)(t:Te):Nat->Te
  |0=>t
  |i+1=>if QE kn a b i=true then Qq (qB kn a b t i) i (zg b i)else qB kn a b t i
def zM(a b:Gr)(wd:Bool):Bool:=zA a wd&&(a.w==b.w&&a.h==b.h)
def Qo(kn:Bool)(b:Gr)(wd:Bool):Te:=
  let t:=Qe ⟨⟨#[]⟩, -1,⟨#[]⟩,0,b.w,wd⟩ 0
  if kn then t else zhC t 74 [2]
def zlp(t:Te)(b:Gr):Te:=if b.x<0 then {t with b:=t.b++⟨#[27,91,63,50,53,108]⟩}else Qj {t with b:=t.b++⟨#[27,91,63,50,53,104]⟩} (b.y*t.w+b.x)
def Z5(a b:Gr)(wd:Bool):Option ByteArray:=
  if zA b wd=false\/(zA a wd=true/\qw a b=true)then none
  else some (zlp (qB (zM a b wd) a.cs b.cs (Qo (zM a b wd) b wd) b.cs.length) b).b
end

section
open Go Go.RowKit Vc
structure Grow(W:World)(box:Nat)(t e:TypeId)(a:Option Addr)(c:Nat)(vs:List Value):Prop where
  hb:W.heap[box]? =some (.cells #[.slice a vs.length c] t)
  row:Row W e 1 a vs.length vs c
end

section
open Go Go.RowKit Vc Ut Tb Cl
def zbK(p:Nat×ByteArray):List Value:=[.int .i64 (p.1:Int), .string p.2]
def itV(f b:Nat):Value:= .func (.func f) #[] #[.pointer (some ⟨b,0,none⟩)]
def zek(v:Value):Nat:=match v with| .pointer (some ⟨b,_,_⟩)=>b|_=>0
def zsJ:IterSpec where
  G:=ByteArray×Nat
  cap:=fun g=>[.pointer (some ⟨g.2,0,none⟩)]
  xs:=fun g=>(pcL g.1).map zbK
  C:=fun g q=>q=g.2\/q=0\/q=1
  pre:=fun g w=>w.heap[g.2]? =some (.cells #[.string g.1] 9)/\U8 w/\g.1.size<=67108864
def zme:List (Nat×CallSpec):=[(67,sSN zz)]
def zwD(g:ByteArray×Nat)(i:ItG)(W:World):Ann where
  sp:=zme
  yl:=some (zyn (zsJ.xs g) i W)
  loops:=[(1,{
    X:=Nat×(Nat->Prop)
    sh:=fun _ x=>[(3, .int .i64 (bp g.1 x.1))]
    inv:=fun _ _ x w=>x.1<=qW g.1/\i.J x.1 x.2 w/\Mid W i.D0 x.2 w
    mu:=fun _ _ x _=>qW g.1 - x.1})]
def znM(f:Nat):CallSpec where
  G:=ByteArray
  args:=fun s=> #[.string s]
  pre:=fun s w=>True
  X:=Nat
  res:=fun b=>itV f b
  post:=fun s w b w'=>w.heap.size<=b/\w'.heap[b]? =some (.cells #[.string s] 9)/\Ext w w'
def zmm:List (Nat×CallSpec):=[(91,znM 116)]
def Ql(s:ByteArray):List Int:=(List.range (qW s)).map fun i=>(bp s (i+1):Int)
def zwI(s:ByteArray)(w00:World):Ann where
  sp:=zmm
  ranges:=[(3,{
    α:=Nat×ByteArray
    enc:=zbK
    J:=fun e w0 xs k D W=>∃a c,D=(fun q=>q=zek (gv e 3)\/zV a=some q)/\Grow W (zek (gv e 3)) 61 3 a c (((Ql s).take k).map (Value.int .i64))
    Jx:=fun e w0 _ _ D W=>(1:Nat)=0})]
def zrd:List (Nat×CallSpec):=[(66,sSL .i64 3 Ql)]
end
end Go.Proofs.YtjdohhididpomaaGreatDoor
