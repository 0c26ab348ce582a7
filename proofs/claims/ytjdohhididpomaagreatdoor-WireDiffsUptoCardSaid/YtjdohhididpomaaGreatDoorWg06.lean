/-
  Texts joined by program: SpSf, SpSa, Qa, SpXa, Qe, SpR, SpI, SpXd.
-/
import Derived.Test.YtjdohhididpomaaGreatDoorWg05
import Derived.Lib.ItoaNum
import Derived.Test.YtjdohhididpomaaGreatDoorWg03
import Derived.Test.YtjdohhididpomaaGreatDoorProg
import Derived.Lib.AppendIntMem
import Derived.Lib.OthersKept
set_option linter.unusedVariables false
set_option linter.unusedSimpArgs false

namespace Go.Proofs.YtjdohhididpomaaGreatDoor
section
open Go Go.RowKit Vc Ut Tb Cl
def DB(w:World):Prop:=w.cell? ⟨5,15,none⟩=some (.int .u8 4)
def sTz(k:IntKind):CallSpec where
  G:=Unit
  args:=fun _=> #[.int k 16]
  pre:=fun _ w=>DB w
  X:=Unit
  res:=fun _=> .int .i64 4
  post:=fun _ w _ w'=>w'=w
def zuS:CallSpec where
  G:=Unit
  args:=fun _=> #[.int .i64 16]
  pre:=fun _ _=>True
  X:=Unit
  res:=fun _=> .bool true
  post:=fun _ w _ w'=>w'=w
def u8L(l:List UInt8):List Value:=l.map fun b=> .int .u8 (b.toNat:Nat)
def zaF(d:Nat):CallSpec where
  G:=Nat
  args:=fun u=> #[.slice none 0 0, .int .u64 u, .int .i64 16, .bool false, .bool false]
  pre:=fun u w=>DB w/\16^(d - 1)<=u/\u<16^d
  X:=Unit×ByteArray
  res:=fun x=> .tuple #[.slice none 0 0, .string x.2]
  post:=fun u w x w'=>x.2=qA (qT u d)/\Ext w w'
def zxj:CallSpec where
  G:=Nat
  args:=fun u=> #[.slice none 0 0, .int .u64 u, .int .i64 16, .bool false, .bool false]
  pre:=fun u w=>DB w/\16<=u/\u<16777216
  X:=Unit×ByteArray
  res:=fun x=> .tuple #[.slice none 0 0, .string x.2]
  post:=fun u w x w'=>x.2=qA (qT u (Qx u))/\Ext w w'
def zxI:List (Nat×CallSpec):=[(151,sTz .u64)]
def zca:List (Nat×CallSpec):=[(145,zuS),(146,sTz .u64)]
def ZE(u j:Nat):List Value:=List.replicate (65 - j) (.int .u8 0)++u8L (qT u j)
def zeb(d:Nat)(i:Int)(u:Nat)(w00:World):Ann where
  sp:=zca
  loops:=[(11,{
    X:=Nat
    sh:=fun _ j=>[(13, .int .i64 (65 - j)),(1, .int .u64 (u / 16^j:Nat))]
    inv:=fun e w0 j w=>j+1<=d/\(∃b,gv e 12= .pointer (some ⟨b,0,none⟩)/\w00.heap.size<=b/\w.heap[b]? =some (.cells (ZE u j).toArray 184))/\Ext w00 w
    mu:=fun _ _ j _=>d - j})]
  cuts:=[(11,14,{X:=Unit,sh:=fun _ _=>[(13, .int .i64 i),(1, .int .u64 (u / 16^(d - 1):Nat))],inv:=fun e w0 _ w=>(∃b j,gv e 12= .pointer (some ⟨b,0,none⟩)/\w00.heap.size<=b/\j+1=d/\w.heap[b]? =some (.cells (ZE u j).toArray 184))/\Ext w00 w})]
def ze1:CallSpec where
  G:=Nat
  args:=fun u=> #[.int .i64 u, .int .i64 16]
  pre:=fun u w=>DB w/\16<=u/\u<16777216
  X:=ByteArray
  res:=fun x=> .string x
  post:=fun u w x w'=>x=qA (qT u (Qx u))/\Ext w w'
def zmz:List (Nat×CallSpec):=[(133,zxj)]
def zrw:List (Nat×CallSpec):=[(139,ze1)]
def zjv:CallSpec where
  G:=Nat
  args:=fun u=> #[.int .i32 u]
  pre:=fun u w=>DB w/\16<=u/\u<=1114111
  X:=ByteArray
  res:=fun x=> .string x
  post:=fun u w x w'=>x=ZM u/\Ext w w'
def zjb:List (Nat×CallSpec):=[(124,ze1)]
def zui(u:Nat)(_:World):Ann where
  sp:=zjb
  loops:=[(2,{
    X:=Nat
    sh:=fun _ j=>[(3, .string (qA (qT u j)))]
    inv:=fun _ w0 j w=>Qx u<=j/\j<=QJ u/\w=w0
    mu:=fun _ _ j _=>4 - j})]
def zn0:CallSpec where
  G:=Nat
  args:=fun u=> #[.int .i32 u]
  pre:=fun u w=>16<=u/\u<=1114111
  X:=ByteArray
  res:=fun x=> .string x
  post:=fun u w x w'=>x=qA (qT u (QJ u))/\Ext w w'
structure GNm where
  j:Nat
  a:Option Addr
  c:Nat
def zwY(u:Nat)(w00:World):Ann where
  sp:=[]
  loops:=[(3,{
    X:=GNm
    sh:=fun _ x=>[(4, .int .i64 (u / 16^x.j:Nat)),(3, .slice x.a x.j x.c)]
    inv:=fun _ _ x w=>x.j<=QJ u/\Made w00 w 5 1 x.a x.j (u8L (qT u x.j)) x.c
    mu:=fun _ _ x _=>10 - x.j})]
def zfD:CallSpec where
  G:=Nat
  args:=fun n=> #[.int .i64 n]
  pre:=fun n w=>n<=16
  X:=ByteArray
  res:=fun x=> .string x
  post:=fun n w x w'=>x=Qf n/\Ext w w'
def zqP(n:Nat)(w00:World):Ann where
  sp:=[]
  loops:=[(3,{
    X:=GNm
    sh:=fun _ x=>[(4, .int .i64 x.j),(3, .slice x.a x.j x.c)]
    inv:=fun _ _ x w=>x.j<=n/\Made w00 w 5 1 x.a x.j (u8L (List.replicate x.j 32)) x.c
    mu:=fun _ _ x _=>n - x.j})]
end

section
open Go Go.RowKit Vc Ut Tb Cl
def ze0:CallSpec where
  G:=Int×Lk
  args:=fun g=> #[.int .i64 g.1,lkV g.2]
  pre:=fun _ _=>True
  X:=Nat
  res:=fun x=> .int .i64 x
  post:=fun g w x w'=>x=qw g.1 g.2.tab/\Ext w w'
def zyV:CallSpec where
  G:=Nat
  args:=fun n=> #[.string ⟨#[32]⟩, .int .i64 n]
  pre:=fun n _=>n<=16
  X:=ByteArray
  res:=fun x=> .string x
  post:=fun n w x w'=>x=Qf n/\Ext w w'
structure GK6 where
  k:ByteArray
  col:Int
  l:Lk
  a:Option Addr
  c:Nat
def qM(k:ByteArray)(l:Lk):Bool:=(qh (sg k 0)&&qh (qf k))||(zn (sg k 0)==7&&zY (sg k 0) l.wide==1&&qf k==65039)
def QG(x:Int):Bool:=x==8232||x==8233||(zn x==1&& !qj x)
def zrJ:CallSpec where
  G:=GK6
  args:=fun g=> #[.string g.k, .slice g.a (cnt g.k) g.c, .int .i64 g.col,lkV g.l]
  pre:=fun g w=>DB w/\g.k.size<=67108864/\Zc g.k=1/\zz g.k 0=false/\cnt g.k<=g.c/\CellsAt w g.a ((zo g.k).map (Value.int .i32))
  X:=ByteArray×Nat
  res:=fun x=> .tuple #[.string x.1, .int .i64 x.2]
  post:=fun g w x w'=>x=zU g.k g.col g.l/\Ext w w'
def zh4(b:Bool):CallSpec where
  G:=GK6
  args:=fun g=> #[.string g.k, .slice g.a (cnt g.k) g.c, .int .i64 g.col,lkV g.l]
  pre:=fun g w=>QG (sg g.k 0)=b/\zrJ.pre g w
  X:=ByteArray×Nat
  res:=fun x=> .tuple #[.string x.1, .int .i64 x.2]
  post:=fun g w x w'=>x=zU g.k g.col g.l/\Ext w w'
def zeo:List (Nat×CallSpec):=[(97,ze0),(98,zyV),(61,zcc .i8 zn),(99,zjv),(100,zcZ (fun w w'=>Ext w w')),(101,sRB qh)]
def zoR(g:GK6):List (Nat×Nat×CutAnn):=
  [(3,4,{X:=Unit,sh:=fun _ _=>[(11, .int .i32 (qf g.k))],inv:=fun _ w0 _ w=>w=w0}),
    (28,29,{X:=Unit,sh:=fun _ _=>[(99, .bool (qM g.k g.l))],inv:=fun _ w0 _ w=>Ext w0 w})]
def zwV(g:GK6)(_:World):Ann where
  sp:=zeo
  cuts:=zoR g
def zwX(g:GK6)(_:World):Ann where
  sp:=zeo
  cuts:=(11,13,{X:=Unit,sh:=fun _ _=>[(45, .bool (QG (sg g.k 0)))],inv:=fun _ w0 _ w=>Ext w0 w})::zoR g
structure GT6 where
  s:ByteArray
  col:Int
  l:Lk
def za3:CallSpec where
  G:=GT6
  args:=fun g=> #[.string g.s, .int .i64 g.col,lkV g.l]
  pre:=fun g w=>U8 w/\DB w/\g.s.size<=67108864
  X:=ByteArray×Nat
  res:=fun x=> .tuple #[.string x.1, .int .i64 x.2]
  post:=fun g w x w'=>x=Zi g.s g.col g.l/\Ext w w'
def ziZ:List (Nat×CallSpec):=[(67,sSN zD),(50,zdg nxR QM),(68,zrJ)]
def znZ:CallSpec where
  G:=GK6
  args:=fun g=> #[.slice g.a (cnt g.k) g.c, .string g.k, .int .i64 g.col,lkV g.l]
  pre:=fun g w=>g.k.size<=67108864/\Zc g.k=1/\cnt g.k<=g.c/\CellsAt w g.a ((List.range (cnt g.k)).flatMap (ZV g.k))
  X:=ByteArray×Nat
  res:=fun x=> .tuple #[.string x.1, .int .i64 x.2]
  post:=fun g w x w'=>x=zU g.k g.col g.l/\Ext w w'
def zmq:List (Nat×CallSpec):=[(103,ze0),(104,zfD),(54,zas .i8 zn),(105,sRB qj),(106,zn0),(107,sLS runesBytes),(108,sRB qh),(109,zcZ (fun w w'=>w'=w))]
def zwW(g:GK6)(_:World):Ann where
  sp:=zmq
  cuts:=[(14,14,{X:=Unit,sh:=fun _ _=>[(83, .bool (Z2 (sg g.k 0)))],inv:=fun _ w0 _ w=>Ext w0 w}),
    (19,19,{X:=Unit,sh:=fun _ _=>[(100, .bool (zn (sg g.k 0)==2||qj (sg g.k 0)))],inv:=fun _ w0 _ w=>Ext w0 w}),
    (21,21,{X:=Unit,sh:=fun _ _=>[(1, .string (zcv g.k))],inv:=fun _ w0 _ w=>w=w0}),
    (23,23,{X:=Unit,sh:=fun _ _=>[(130, .bool (qh (sg g.k 0)&&qh (qf g.k)))],inv:=fun _ w0 _ w=>Ext w0 w}),
    (26,26,{X:=Unit,sh:=fun _ _=>[(153, .bool (zn (sg g.k 0)==7&&zY (sg g.k 0) g.l.wide==1&&qf g.k==65039))],inv:=fun _ w0 _ w=>Ext w0 w})]
def ziY:List (Nat×CallSpec):=[(69,sSN zD),(71,zer),(70,znZ)]
end

section
open Go Vc Ut Tb Cl
structure Ce where
  t:ByteArray
  p:Int
  a:Int
  n:Int
  r:Bool
  st:Nat
 deriving DecidableEq
def ceV(c:Ce):List Value:=[.string c.t, .int .i8 c.p, .int .i64 c.a, .int .i64 c.n, .bool c.r, .int .u16 c.st]
def zw(st:Nat):Ce:=⟨⟨#[]⟩,0,0,0,false,st⟩
def ZA(st:Nat):Ce:=⟨⟨#[]⟩,1,0,0,false,st⟩
def zM(c:Ce):ByteArray:=if c.p=0/\c.t.size=0 then⟨#[32]⟩else c.t
def qm(a b:Ce):Bool:=a.p==b.p&&(a.st==b.st&&decide (zM a=zM b))
def lkW(wd:Bool):Lk:=⟨0,wd,0,false,false⟩
def plN(s:ByteArray)(wd:Bool):Nat:=if zC s=true/\Zc s=1/\(Zi s 0 (lkW wd)).1=s/\(Zi s 0 (lkW wd)).2<=2 then(Zi s 0 (lkW wd)).2 else 0
structure Gr where
  w:Int
  h:Int
  cs:List Ce
  x:Int
  y:Int
def Zv(w h:Int):Bool:=decide (0<=w/\w<=1024/\0<=h/\h<=1024)
def Zg(w:Nat)(wd:Bool):List Ce->Nat->Bool
  |[],_=>true
  |c::r,i=>c.p==0&&(if plN (zM c) wd=0 then false else if plN (zM c) wd=2 then
    (match r with
      |[]=>false
      |d::r'=> !((i+1)%w==0)&&(d.p==1&&(d.st==c.st&&decide (d.t.size=0)))&&Zg w wd r' (i+2))
    else Zg w wd r (i+1))
def zav(g:Gr):Bool:=(g.x== -1&&g.y== -1)||decide (0<=g.x/\g.x<g.w/\0<=g.y/\g.y<g.h)
def zm(g:Gr)(wd:Bool):Bool:=Zv g.w g.h&&((g.cs.length:Int)==g.w*g.h&&(zav g&&Zg g.w.toNat wd g.cs 0))
def Zx:List Ce->List Ce->Bool
  |[],[]=>true
  |a::l,b::m=>qm a b&&Zx l m
  |_,_=>false
def qa(a b:Gr):Bool:=a.w==b.w&&(a.h==b.h&&(a.x==b.x&&(a.y==b.y&&Zx a.cs b.cs)))
structure Gs where
  w:Nat
  h:Nat
  wd:Bool
  cs:List Ce
  x:Nat
  y:Nat
  hid:Bool
  sty:Nat
  last:Nat
  stt:Nat
  num:List Int
  asked:Bool
  void:Bool
def zaO(w h:Nat)(wd:Bool):Gs:=⟨w,h,wd,List.replicate (w*h) (zw 0),0,0,false,0,0,0,[],false,false⟩
def zg(l:List Ce)(i:Nat):Ce:=l.getD i (zw 0)
def qu(g:Gs):Gs:=if g.w<=g.x then {g with x:=g.w - 1}else g
def qc(g:Gs):Gs:=if g.y+1<g.h then {g with y:=g.y+1}else {g with cs:=g.cs.drop g.w++List.replicate (min g.w g.cs.length) (zw 0)}
def zF(l:List Ce)(w i:Nat)(c:Ce):List Ce:=
  (if(zg l i).p=1 then l.set (i - 1) (zw (zg l (i - 1)).st)else if(i+1)%w≠0/\(zg l (i+1)).p=1 then l.set (i+1) (zw (zg l (i+1)).st)else l).set i c
def Zt(r:Int):ByteArray:=Utf8.encode r
def zZ(g:Gs)(r:Int):Option Gs:=
  if g.last=0 then none else
  if plN (zM (zg g.cs (g.last - 1))++Zt r) g.wd<plN (zM (zg g.cs (g.last - 1))) g.wd then none else
  if plN (zM (zg g.cs (g.last - 1))) g.wd<plN (zM (zg g.cs (g.last - 1))++Zt r) g.wd then
   (if g.last%g.w=0 then some {g with last:=0}else
     some {g with cs:=(zF g.cs g.w g.last (ZA (zg g.cs (g.last - 1)).st)).set (g.last - 1) {zg (zF g.cs g.w g.last (ZA (zg g.cs (g.last - 1)).st)) (g.last - 1)with t:=zM (zg g.cs (g.last - 1))++Zt r},x:=g.x+1})
  else some {g with cs:=g.cs.set (g.last - 1) {zg g.cs (g.last - 1)with t:=zM (zg g.cs (g.last - 1))++Zt r}}
def Ql(g:Gs)(s:ByteArray)(n:Nat):Gs:=
  let i:=g.y*g.w+g.x
  let c1:=if n=2 then zF g.cs g.w (i+1) (zw g.sty)else g.cs
  let c2:=zF c1 g.w i ⟨s,0,0,0,false,g.sty⟩
  let c3:=if n=2 then c2.set (i+1) {zg c2 (i+1)with p:=1}else c2
  {g with cs:=c3,x:=g.x+n,last:=i+1}
def qD(g:Gs)(r:Int):Gs:=
  match zZ g r with
  |some g'=>g'
  |none=>
   let s:=(Zi (Zt r) 0 (lkW g.wd)).1
   let n:=plN s g.wd
   if n=0\/g.w<n\/g.h=0 then {g with last:=0}
   else Ql (if g.w<g.x+n then qc {g with last:=0,x:=0}else {g with last:=0}) s n
def zO:Nat->List Int->Nat->Nat
  |0,_,st=>st
  |_,[],st=>st
  |f+1,n::l,st=>
   if n= -1\/n=0 then zO f l 0
   else if n=1 then zO f l (st|||256)
   else if n=3 then zO f l (st|||512)
   else if n=4 then zO f l (st|||1024)
   else if n=7 then zO f l (st|||2048)
   else match l with
     |a::k::l'=>
      if n=38/\a=5/\0<=k/\k<=255 then zO f l' ((st / 256*256)|||k.toNat)
      else if n=48/\a=5/\0<=k/\k<=15 then zO f l' ((st%4096)|||(k.toNat*4096))
      else zO f l st
     |_=>zO f l st
def Zq(l:List Int)(st:Nat):Nat:=zO l.length l st
def zV(l:List Int)(i:Nat):Int:=l.getD i (-1)
def qV(n:Int)(m:Nat):Nat:=(max (min n (m:Int) - 1) 0).toNat
def zL(g:Gs)(r:Int):Gs:=
  if g.void=true then g
  else if g.asked=true then(if zV g.num 0=25/\(r=104\/r=108)then {g with hid:=r==108}else g)
  else if r=72 then {g with y:=qV (zV g.num 0) g.h,x:=qV (zV g.num 1) g.w}
  else if r=74/\zV g.num 0=2 then qu {g with cs:=List.replicate g.cs.length (zw 0)}
  else if r=109 then {g with sty:=Zq g.num g.sty}
  else g
def qt(g:Gs)(r:Int)(first:Bool):Gs:=
  if r=63/\first=true then {g with asked:=true}
  else if r=59 then {g with num:=g.num++[-1]}
  else if 48<=r/\r<=57 then {g with num:=g.num.set (g.num.length - 1) (min (max (zV g.num (g.num.length - 1)) 0*10+(r - 48)) 9999)}
  else {g with void:=true}
def qz(g:Gs)(r:Int):Gs:=
  if zn r≠0 then qD g r
  else if r=27 then {g with last:=0,stt:=1}
  else if r=13 then {g with last:=0,x:=0}
  else if r=10 then qc (qu {g with last:=0})
  else {g with last:=0}
def zj(g:Gs)(r:Int):Gs:=
  if g.stt=1 then(if r=91 then {g with stt:=2,num:=[],asked:=false,void:=false}else {g with stt:=0})
  else if g.stt=2 then
    let g1:=if g.num=[]then {g with num:=[-1]}else g
    if 32<=r/\r<=63 then qt g1 r (decide (g.num=[]))
    else if 64<=r/\r<=126 then zL {g1 with stt:=0} r
    else qz {g1 with stt:=0} r
  else qz g r
def zH(g:Gs)(l:List Int):Gs:=l.foldl zj g
def qQ(g:Gs):Gr:=⟨g.w,g.h,g.cs,if g.hid=false/\g.cs≠[]then(min (g.x:Int) ((g.w:Int) - 1))else -1,if g.hid=false/\g.cs≠[]then(g.y:Int)else -1⟩
end

section
open Go Go.RowKit Vc Ut Tb Cl
def UD(w:World):Prop:=U8 w/\DB w
def zE(cs:List Ce):List Value:=cs.flatMap ceV
def ceA(c:Ce):Value:= .agg #[.string c.t, .int .i8 c.p, .int .i64 c.a, .int .i64 c.n, .bool c.r, .int .u16 c.st]
def ZT(ad:Option Addr)(c:Nat)(g:Gr):Value:= .agg #[.int .i64 g.w, .int .i64 g.h, .slice ad g.cs.length c, .int .i64 g.x, .int .i64 g.y]
def QT:CallSpec where
  G:=Ce
  args:=fun c=> #[ceA c]
  pre:=fun _ _=>True
  X:=ByteArray
  res:=fun x=> .string x
  post:=fun c w x w'=>x=zM c/\Ext w w'
def QC:CallSpec where
  G:=Ce×Ce
  args:=fun c=> #[ceA c.1,ceA c.2]
  pre:=fun _ _=>True
  X:=Bool
  res:=fun x=> .bool x
  post:=fun c w x w'=>x=qm c.1 c.2/\Ext w w'
def zbF:CallSpec where
  G:=ByteArray×Bool
  args:=fun g=> #[.string g.1, .bool g.2]
  pre:=fun g w=>UD w/\g.1.size<=67108864
  X:=Nat
  res:=fun x=> .int .i64 x
  post:=fun g w x w'=>x=plN g.1 g.2/\Ext w w'
def zcD:CallSpec where
  G:=ByteArray×Bool
  args:=fun g=> #[.string g.1, .bool g.2]
  pre:=fun g w=>UD w/\g.1.size<=67108864
  X:=Nat×Bool
  res:=fun x=> .tuple #[.int .i64 x.1, .bool x.2]
  post:=fun g w x w'=>x.2=decide (plN g.1 g.2≠0)/\(x.2=true->x.1=plN g.1 g.2)/\Ext w w'
def za4:CallSpec where
  G:=Int×Int
  args:=fun g=> #[.int .i64 g.1, .int .i64 g.2]
  pre:=fun _ _=>True
  X:=Bool
  res:=fun x=> .bool x
  post:=fun g w x w'=>x=Zv g.1 g.2/\Ext w w'
def zi(cs:List Ce):Nat:=(cs.map fun c=>1+c.t.size).sum
structure GGr where
  ad:Option Addr
  c:Nat
  g:Gr
  wd:Bool
def qb(w:World)(ad:Option Addr)(cs:List Ce):Prop:=CellsAt w ad (zE cs)/\zi cs<=67108864
def Q7:CallSpec where
  G:=GGr
  args:=fun g=> #[ZT g.ad g.c g.g, .bool g.wd]
  pre:=fun g w=>UD w/\qb w g.ad g.g.cs
  X:=Bool
  res:=fun x=> .bool x
  post:=fun g w x w'=>x=zm g.g g.wd/\Ext w w'
structure GGg where
  a1:Option Addr
  c1:Nat
  g1:Gr
  a2:Option Addr
  c2:Nat
  g2:Gr
def zbE:CallSpec where
  G:=GGg
  args:=fun g=> #[ZT g.a1 g.c1 g.g1,ZT g.a2 g.c2 g.g2]
  pre:=fun g w=>qb w g.a1 g.g1.cs/\qb w g.a2 g.g2.cs
  X:=Bool
  res:=fun x=> .bool x
  post:=fun g w x w'=>x=qa g.g1 g.g2/\Ext w w'
def zgB:List (Nat×CallSpec):=[(26,QT)]
def zgz:List (Nat×CallSpec):=[(43,zaV zC),(44,sSN Zc),(45,za3)]
def zgq:List (Nat×CallSpec):=[(24,za4),(26,QT),(25,zbF)]
def zqK(g:GGr)(_:World):Ann where
  sp:=zgq
  cuts:=[(3,3,{X:=Unit,sh:=fun _ _=>[(5, .bool (g.g.x== -1&&g.g.y== -1))],inv:=fun _ w0 _ w=>w=w0}),(4,5,{X:=Unit,sh:=fun _ _=>[],inv:=fun _ w0 _ w=>w=w0/\zav g.g=true})]
  loops:=[(7,{
    X:=Nat
    sh:=fun _ i=>[(6, .int .i64 i)]
    inv:=fun _ w0 i w=>i<=g.g.cs.length/\Zg g.g.w.toNat g.wd (g.g.cs.drop i) i=Zg g.g.w.toNat g.wd g.g.cs 0/\Ext w0 w
    mu:=fun _ _ i _=>g.g.cs.length - i})]
def zi3:List (Nat×CallSpec):=[(30,QC)]
def zt9(g:GGg)(_:World):Ann where
  sp:=zi3
  loops:=[(4,{
    X:=Nat
    sh:=fun _ i=>[(44, .int .i64 i)]
    inv:=fun _ w0 i w=>i<=g.g1.cs.length/\Zx (g.g1.cs.drop i) (g.g2.cs.drop i)=Zx g.g1.cs g.g2.cs/\Ext w0 w
    mu:=fun _ _ i _=>g.g1.cs.length - i})]
def zgC:List (Nat×CallSpec):=[(29,QT)]
def zgA:List (Nat×CallSpec):=[(46,za3),(47,zaV zC),(48,sSN Zc)]
def zqN(g:ByteArray×Bool)(_:World):Ann where
  sp:=zgA
def zgr:List (Nat×CallSpec):=[(27,za4),(29,QT),(28,zcD)]
def zqL(g:GGr)(_:World):Ann where
  sp:=zgr
  cuts:=[(3,4,{X:=Unit,sh:=fun _ _=>[],inv:=fun _ w0 _ w=>w=w0/\zav g.g=true})]
  loops:=[(6,{
    X:=Nat
    sh:=fun _ y=>[(5, .int .i64 y)]
    inv:=fun _ w0 y w=>(y:Int)<=g.g.h/\Zg g.g.w.toNat g.wd (g.g.cs.drop (y*g.g.w.toNat)) (y*g.g.w.toNat)=Zg g.g.w.toNat g.wd g.g.cs 0/\Ext w0 w
    mu:=fun _ _ y _=>g.g.h.toNat - y}),(9,{
    X:=Nat
    sh:=fun _ x=>[(6, .int .i64 x)]
    inv:=fun e w0 x w=>x<=g.g.w.toNat/\(∃y:Nat,gv e 5= .int .i64 (y:Int)/\(y:Int)<g.g.h/\Zg g.g.w.toNat g.wd (g.g.cs.drop (y*g.g.w.toNat+x)) (y*g.g.w.toNat+x)=Zg g.g.w.toNat g.wd g.g.cs 0)/\Ext w0 w
    mu:=fun _ _ x _=>g.g.w.toNat - x})]
def zi4:List (Nat×CallSpec):=[(31,QC)]
def zua(g:GGg)(_:World):Ann where
  sp:=zi4
  loops:=[(4,{
    X:=Nat
    sh:=fun _ i=>[(5, .int .i64 i)]
    inv:=fun _ w0 i w=>i<=g.g1.cs.length/\Zx (g.g1.cs.drop i) (g.g2.cs.drop i)=Zx g.g1.cs g.g2.cs/\Ext w0 w
    mu:=fun _ _ i _=>g.g1.cs.length - i})]
end

section
open Go Vc Ut Tb Cl
structure Te where
  b:ByteArray
  ps:Int
  last:ByteArray
  st:Nat
  w:Int
  wd:Bool
def qE(n:Int):ByteArray:=⟨(Lib.itoa n).toArray⟩
def qW:Bool->List Int->ByteArray
  |_,[]=>⟨#[]⟩
  |first,n::l=>(if first then⟨#[]⟩else⟨#[59]⟩)++qE n++qW false l
def zbd(c:UInt8)(l:List Int):ByteArray:=⟨#[27,91]⟩++qW true l++⟨#[c]⟩
def zhS(t:Te)(c:UInt8)(l:List Int):Te:={t with b:=t.b++zbd c l,last:=⟨#[]⟩}
def Qt(t:Te)(i:Int):Te:={zhS t 72 [i / t.w+1,i%t.w+1]with ps:=i}
def qO(st i:Nat):List Int:=((List.range i).filter fun j=>st / 2^(8+j)%2=1).map fun j=>[1,3,4,7].getD j 0
def qU(st:Nat):List Int:=[0]++qO st 4++(if st%256≠0 then [38,5,((st%256:Nat):Int)]else [])++(if st / 4096≠0 then [48,5,((st / 4096:Nat):Int)]else [])
def Qo(t:Te)(st:Nat):Te:={zhS t 109 (qU st)with st:=st}
def zeJ(t:Te)(s:ByteArray):Bool:=decide (t.last.size≠0)&&decide (Zc (t.last++s.extract 0 (QM s))=1)
def te1(t:Te)(i:Int):Te:=if t.ps≠i then Qt t i else t
def te2(t:Te)(st:Nat):Te:=if t.st≠st then Qo t st else t
def te3(t:Te)(i:Int)(s:ByteArray):Te:=if zeJ t s=true then Qt t i else t
def te4(t:Te)(i:Int)(s:ByteArray):Te:={t with b:=t.b++s,last:=s,ps:=if(i+plN s t.wd)%t.w=0 then -1 else i+plN s t.wd}
def QA(t:Te)(i:Int)(c:Ce):Te:=te4 (te3 (te2 (te1 t i) c.st) i (zM c)) i (zM c)
def zcs(a b:List Ce)(i:Nat):Bool:=decide (i+1<b.length)&&((zg b (i+1)).p==1&& !qm (zg a (i+1)) (zg b (i+1)))
def QQ(kn:Bool)(a b:List Ce)(i:Nat):Bool:=(zg b i).p==0&&(!kn||(!qm (zg a i) (zg b i)||zcs a b i))
def qB(kn:Bool)(a b:List Ce)(t:Te):Nat->Te
  |0=>t
  |i+1=>if QQ kn a b i=true then QA (qB kn a b t i) i (zg b i)else qB kn a b t i
def zI(a b:Gr)(wd:Bool):Bool:=zm a wd&&(a.w==b.w&&a.h==b.h)
def Qy(kn:Bool)(b:Gr)(wd:Bool):Te:=
  let t:=Qo ⟨⟨#[]⟩, -1,⟨#[]⟩,0,b.w,wd⟩ 0
  if kn then t else zhS t 74 [2]
def zlE(t:Te)(b:Gr):Te:=if b.x<0 then {t with b:=t.b++⟨#[27,91,63,50,53,108]⟩}else Qt {t with b:=t.b++⟨#[27,91,63,50,53,104]⟩} (b.y*t.w+b.x)
def Zb(a b:Gr)(wd:Bool):Option ByteArray:=
  if zm b wd=false\/(zm a wd=true/\qa a b=true)then none
  else some (zlE (qB (zI a b wd) a.cs b.cs (Qy (zI a b wd) b wd) b.cs.length) b).b
end

section
open Go Go.RowKit Vc
structure Grow(W:World)(box:Nat)(t e:TypeId)(a:Option Addr)(c:Nat)(vs:List Value):Prop where
  hb:W.heap[box]? =some (.cells #[.slice a vs.length c] t)
  row:Row W e 1 a vs.length vs c
end

section
open Go Go.RowKit Vc Ut Tb Cl
def zb2(p:Nat×ByteArray):List Value:=[.int .i64 (p.1:Int), .string p.2]
def itV(f b:Nat):Value:= .func (.func f) #[] #[.pointer (some ⟨b,0,none⟩)]
def zev(v:Value):Nat:=match v with| .pointer (some ⟨b,_,_⟩)=>b|_=>0
def zs0:IterSpec where
  G:=ByteArray×Nat
  cap:=fun g=>[.pointer (some ⟨g.2,0,none⟩)]
  xs:=fun g=>(pcL g.1).map zb2
  C:=fun g q=>q=g.2\/q=0\/q=1
  pre:=fun g w=>w.heap[g.2]? =some (.cells #[.string g.1] 9)/\U8 w/\g.1.size<=67108864
def zmw:List (Nat×CallSpec):=[(67,sSN zD)]
def zw1(g:ByteArray×Nat)(i:ItG)(W:World):Ann where
  sp:=zmw
  yl:=some (zyH (zs0.xs g) i W)
  loops:=[(1,{
    X:=Nat×(Nat->Prop)
    sh:=fun _ x=>[(3, .int .i64 (bp g.1 x.1))]
    inv:=fun _ _ x w=>x.1<=Zc g.1/\i.J x.1 x.2 w/\Mid W i.D0 x.2 w
    mu:=fun _ _ x _=>Zc g.1 - x.1})]
def zn4(f:Nat):CallSpec where
  G:=ByteArray
  args:=fun s=> #[.string s]
  pre:=fun s w=>True
  X:=Nat
  res:=fun b=>itV f b
  post:=fun s w b w'=>w.heap.size<=b/\w'.heap[b]? =some (.cells #[.string s] 9)/\Ext w w'
def zmC:List (Nat×CallSpec):=[(91,zn4 116)]
def Qw(s:ByteArray):List Int:=(List.range (Zc s)).map fun i=>(bp s (i+1):Int)
def zw4(s:ByteArray)(w00:World):Ann where
  sp:=zmC
  ranges:=[(3,{
    α:=Nat×ByteArray
    enc:=zb2
    J:=fun e w0 xs k D W=>∃a c,D=(fun q=>q=zev (gv e 3)\/qi a=some q)/\Grow W (zev (gv e 3)) 61 3 a c (((Qw s).take k).map (Value.int .i64))
    Jx:=fun e w0 _ _ D W=>(1:Nat)=0})]
def zry:List (Nat×CallSpec):=[(66,sSL .i64 3 Qw)]
end

section
open Go Go.RowKit Vc Ut Tb Cl
def P10(B:Nat)(w:World):Prop:=Lib.TabBelow Tryz.prog B w "internal/strconv.uint64pow10" .u64 Lib.pow10Tab
structure Kp(B:Nat)(q:Option Nat)(w w':World):Prop where
  below:Below B w w'
  oth:Lib.OthersKept 5 q w w'
structure GApp where
  B:Nat
  ad:Option Addr
  c:Nat
  s:ByteArray
  i:Int
def zxk:CallSpec where
  G:=GApp
  args:=fun g=> #[.slice g.ad g.s.size g.c, .int .i64 g.i, .int .i64 10]
  pre:=fun g w=>P10 g.B w/\Row w 5 1 g.ad g.s.size (zu g.s) g.c/\(∀q,qi g.ad=some q->g.B<=q)/\g.B<=w.heap.size/\g.s.size<=1073741824/\ -9223372036854775808<=g.i/\g.i<=9223372036854775807
  X:=Option Addr×Nat×Nat
  res:=fun x=> .slice x.1 x.2.1 x.2.2
  post:=fun g w x w'=>x.2.1=(g.s++qE g.i).size/\Row w' 5 1 x.1 x.2.1 (zu (g.s++qE g.i)) x.2.2/\(∀q,qi x.1=some q->g.B<=q)/\Kp g.B none w w'
structure TeP where
  B:Nat
  q:Nat
  ad:Option Addr
  c:Nat
def teV(p:TeP)(t:Te):Array Value:= #[.slice p.ad t.b.size p.c, .int .i64 t.ps, .string t.last, .int .u16 t.st, .int .i64 t.w, .bool t.wd]
def UDB(B:Nat)(w:World):Prop:=∀w',Below B w w'->UD w'
structure TeIn(w:World)(p:TeP)(t:Te):Prop where
  box:w.heap[p.q]? =some (.cells (teV p t) 74)
  row:Row w 5 1 p.ad t.b.size (zu t.b) p.c
  bq:p.B<=p.q
  bad:∀g,qi p.ad=some g->p.B<=g
  bw:p.B<=w.heap.size
  tab:P10 p.B w
  u:UDB p.B w
structure TeOut(w w':World)(p p':TeP)(t':Te):Prop where
  is:TeIn w' p' t'
  b:p'.B=p.B
  q:p'.q=p.q
  kp:Kp p.B (some p.q) w w'
structure GSay where
  p:TeP
  t:Te
  c:UInt8
  la:Option Addr
  lc:Nat
  l:List Int
def zrI:CallSpec where
  G:=GSay
  args:=fun g=> #[.pointer (some ⟨g.p.q,0,none⟩), .int .u8 (g.c.toNat:Int), .slice g.la g.l.length g.lc]
  pre:=fun g w=>TeIn w g.p g.t/\Row w 3 1 g.la g.l.length (g.l.map (Value.int .i64)) g.lc/\g.t.b.size<=536870912/\g.l.length<=16/\∀n∈g.l, -9223372036854775808<=n/\n<=9223372036854775807
  X:=TeP
  res:=fun _=> .tuple #[]
  post:=fun g w x w'=>TeOut w w' g.p x (zhS g.t g.c g.l)
def pfx(l:List Int)(i:Nat):ByteArray:=qW true (l.take i)
def teB(t:Te)(b:ByteArray):Te:={t with b:=b}
def zdH(t:Te)(l:List Int)(i:Nat):Te:=teB t (t.b++⟨#[27,91]⟩++pfx l i)
def zfi(t:Te)(l:List Int)(i:Nat):Te:=teB t ((zdH t l i).b++(if i=0 then⟨#[]⟩else⟨#[59]⟩))
def zru:List (Nat×CallSpec):=[(49,zxk)]
def zyu(g:GSay)(w00:World):Ann where
  sp:=zru
  cuts:=[(4,5,{X:=TeP,sh:=fun _ _=>[],inv:=fun e w0 x w=>∃i:Nat,gv e 6= .int .i64 (i:Int)/\TeOut w00 w g.p x (zfi g.t g.l i)})]
  loops:=[(2,{
    X:=Nat×TeP
    sh:=fun _ x=>[(19, .int .i64 x.1)]
    inv:=fun _ _ x w=>x.1<=g.l.length/\TeOut w00 w g.p x.2 (zdH g.t g.l x.1)
    mu:=fun _ _ x _=>g.l.length - x.1})]
structure GMove where
  p:TeP
  t:Te
  i:Nat
def teOk(t:Te):Prop:=0<t.w/\t.w<=1024/\t.st<65536
def zkE:CallSpec where
  G:=GMove
  args:=fun g=> #[.pointer (some ⟨g.p.q,0,none⟩), .int .i64 g.i]
  pre:=fun g w=>TeIn w g.p g.t/\teOk g.t/\g.i<=1048576/\g.t.b.size<=536870912
  X:=TeP
  res:=fun _=> .tuple #[]
  post:=fun g w x w'=>TeOut w w' g.p x (Qt g.t g.i)
def zep:List (Nat×CallSpec):=[(35,zrI)]
def zkA:CallSpec where
  G:=GMove
  args:=fun g=> #[.pointer (some ⟨g.p.q,0,none⟩), .int .u16 g.i]
  pre:=fun g w=>TeIn w g.p g.t/\g.i<65536/\g.t.b.size<=536870912
  X:=TeP
  res:=fun _=> .tuple #[]
  post:=fun g w x w'=>TeOut w w' g.p x (Qo g.t g.i)
def Qg(st:Nat):List Int:=[0]++qO st 4++(if st%256≠0 then [38,5,((st%256:Nat):Int)]else [])
def zwP(g:GMove)(w00:World):Ann where
  sp:=zep
  cuts:=[(7,9,{X:=Option Addr×Nat,sh:=fun _ x=>[(4, .slice x.1 (Qg g.i).length x.2)],inv:=fun _ _ x w=>Made w00 w 3 1 x.1 (Qg g.i).length ((Qg g.i).map (Value.int .i64)) x.2}),
    (10,12,{X:=Option Addr×Nat,sh:=fun _ x=>[(4, .slice x.1 (qU g.i).length x.2)],inv:=fun _ _ x w=>Made w00 w 3 1 x.1 (qU g.i).length ((qU g.i).map (Value.int .i64)) x.2})]
  loops:=[(2,{
    X:=Nat×Option Addr×Nat
    sh:=fun _ x=>[(11, .int .i64 x.1),(4, .slice x.2.1 (1+(qO g.i x.1).length) x.2.2)]
    inv:=fun _ _ x w=>x.1<=4/\Made w00 w 3 1 x.2.1 (1+(qO g.i x.1).length) (([0]++qO g.i x.1).map (Value.int .i64)) x.2.2
    mu:=fun _ _ x _=>4 - x.1})]
structure GTell where
  p:TeP
  t:Te
  i:Nat
  c:Ce
def znV:CallSpec where
  G:=GTell
  args:=fun g=> #[.pointer (some ⟨g.p.q,0,none⟩), .int .i64 g.i,ceA g.c]
  pre:=fun g w=>TeIn w g.p g.t/\teOk g.t/\g.i<=1048576/\g.c.st<65536/\g.t.b.size<=536000000/\g.c.t.size<=16777216/\g.t.last.size<=16777216
  X:=TeP
  res:=fun _=> .tuple #[]
  post:=fun g w x w'=>TeOut w w' g.p x (QA g.t g.i g.c)
def zml:List (Nat×CallSpec):=[(26,QT),(38,zkE),(34,zkA),(50,zdg nxR QM),(44,sSN Zc),(25,zbF)]
def zb6(g:GTell)(w00:World)(t:Te)(x:TeP×Nat)(w:World):Prop:=TeOut w00 w g.p x.1 t/\w.heap[x.2]? =some (.cells #[.string g.c.t, .int .i8 g.c.p, .int .i64 g.c.a, .int .i64 g.c.n, .bool g.c.r, .int .u16 g.c.st] 52)
def zrh(g:GTell)(w00:World)(t:Te):CutAnn:={X:=TeP×Nat,sh:=fun _ x=>[(5, .pointer (some ⟨x.2,0,none⟩))],inv:=fun _ _ x w=>zb6 g w00 t x w}
def zwQ(g:GTell)(w00:World):Ann where
  sp:=zml
  cuts:=[(2,3,zrh g w00 (te1 g.t g.i)),(4,5,zrh g w00 (te2 (te1 g.t g.i) g.c.st)),(6,8,zrh g w00 (te3 (te2 (te1 g.t g.i) g.c.st) g.i (zM g.c)))]
end
end Go.Proofs.YtjdohhididpomaaGreatDoor
