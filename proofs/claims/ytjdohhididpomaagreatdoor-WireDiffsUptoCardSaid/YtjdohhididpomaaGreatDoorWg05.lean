/-
  Texts joined by program: SpP, SpA, Up, SpB, SpN, SpRd, Pc, Sw.
-/
import Derived.Test.YtjdohhididpomaaGreatDoorWg04
import Derived.Test.YtjdohhididpomaaGreatDoorWg03
import Derived.Laws.Cover4
set_option linter.unusedVariables false
set_option linter.unusedSimpArgs false

namespace Go.Proofs.YtjdohhididpomaaGreatDoor
section
open Go Go.RowKit Vc Tb Cl
def sRB(f:Int->Bool):CallSpec where
  G:=Int
  args:=fun r=> #[.int .i32 r]
  pre:=fun _ _=>True
  X:=Bool
  res:=fun x=> .bool x
  post:=fun r w x w'=>x=f r/\Ext w w'
def sRN(f:Int->Nat):CallSpec where
  G:=Int
  args:=fun r=> #[.int .i32 r]
  pre:=fun _ _=>True
  X:=Nat
  res:=fun x=> .int .i64 x
  post:=fun r w x w'=>x=f r/\Ext w w'
def zeZ(f:Int->Int->Bool):CallSpec where
  G:=Int×Int
  args:=fun g=> #[.int .i32 g.1, .int .i32 g.2]
  pre:=fun _ _=>True
  X:=Bool
  res:=fun x=> .bool x
  post:=fun g w x w'=>x=f g.1 g.2/\Ext w w'
structure GTk where
  x:Int
  z:Int
  y:Int
  n:Nat
def zjn:CallSpec where
  G:=GTk
  args:=fun g=> #[.int .i32 g.x, .int .i32 g.z, .int .i32 g.y, .int .i64 g.n]
  pre:=fun _ _=>True
  X:=Bool
  res:=fun x=> .bool x
  post:=fun g w x w'=>x=qg g.x g.z g.y g.n/\Ext w w'
def zdx:Nat->Nat
  |1=>1
  |2=>2
  |3=>4
  |4=>8
  |5=>16
  |_=>0
def Qd(r:Int):Nat:=zdx (qr r)
def zrv:List (Nat×CallSpec):=[(61,zcc .i8 zn),(100,zcZ (fun w w'=>Ext w w'))]
def zmn:List (Nat×CallSpec):=[(54,zas .i8 zn),(109,zcZ (fun w w'=>w'=w))]
def zji:List (Nat×CallSpec):=[(61,zcc .i8 zn),(93,sRB qj)]
def zgy:List (Nat×CallSpec):=[(54,zas .i8 zn),(105,sRB qj)]
def zmy:List (Nat×CallSpec):=[(117,sRN Qd)]
def zrt:List (Nat×CallSpec):=[(149,sRN qr)]
def zi0:List (Nat×CallSpec):=[(54,zas .i8 zn),(105,sRB qj),(108,sRB qh),(140,sRB qS),(141,zeZ qs)]
end

section
open Go Go.RowKit Vc Ut
def U8(w:World):Prop:=Lib.Utf8Tabs 0 1 w
def zdg(fr:ByteArray->Int)(fn:ByteArray->Nat):CallSpec where
  G:=ByteArray
  args:=fun s=> #[.string s]
  pre:=fun s w=>U8 w/\s.size<=67108864
  X:=Int×Nat
  res:=fun x=> .tuple #[.int .i32 x.1, .int .i64 x.2]
  post:=fun s w x w'=>x.1=fr s/\x.2=fn s/\Ext w w'
def zaV(f:ByteArray->Bool):CallSpec where
  G:=ByteArray
  args:=fun s=> #[.string s]
  pre:=fun s w=>U8 w/\s.size<=67108864
  X:=Bool
  res:=fun x=> .bool x
  post:=fun s w x w'=>x=f s/\Ext w w'
def zcC:CallSpec where
  G:=Nat×Nat×Nat
  args:=fun g=> #[.int .u8 g.1, .int .u8 g.2.1, .int .u8 g.2.2]
  pre:=fun _ _=>True
  X:=Bool
  res:=fun x=> .bool x
  post:=fun g w x w'=>x=decide (g.2.1<=g.1/\g.1<=g.2.2)/\w'=w
def zdI:CallSpec where
  G:=Nat
  args:=fun g=> #[.int .u8 g]
  pre:=fun _ _=>True
  X:=Nat×Nat×Nat
  res:=fun x=> .tuple #[.int .u8 x.1, .int .u8 x.2.1, .int .i64 x.2.2]
  post:=fun g w x w'=>x=zT g/\w'=w
def zdK:CallSpec where
  G:=ByteArray
  args:=fun s=> #[.string s]
  pre:=fun s _=>s.size<=67108864
  X:=Nat×Nat
  res:=fun x=> .tuple #[.int .i64 x.1, .int .i64 x.2]
  post:=fun s w x w'=>x.1=Zy s/\x.2=Zu s/\w'=w
def zqR(s:ByteArray)(w00:World):Ann where
  sp:=[(113,zdI),(114,zcC)]
  loops:=[(9,{
    X:=Nat
    sh:=fun _ n=>[(7, .int .i64 n),(4, .int .u8 (loB s n)),(5, .int .u8 (hiB s n))]
    inv:=fun e w0 n w=>w=w0/\1<=n/\n<=(zT (bt s 0)).2.2/\n<=s.size/\Zf s ((zT (bt s 0)).2.2 - n) n=Zf s ((zT (bt s 0)).2.2 - 1) 1
    mu:=fun _ _ n _=>s.size - n})]
def zfC:CallSpec where
  G:=ByteArray
  args:=fun s=> #[.string s]
  pre:=fun s _=>1<=s.size/\s.size<=4
  X:=Nat
  res:=fun x=> .int .i32 x
  post:=fun s w x w'=>x=zdn s s.size/\Ext w w'
def zqO(s:ByteArray)(w00:World):Ann where
  sp:=[]
  loops:=[(4,{
    X:=Nat
    sh:=fun _ n=>[(5, .int .i64 (n+1)),(4, .int .i32 (zaq s s.size n))]
    inv:=fun _ w0 n w=>n+1<=s.size/\Ext w0 w
    mu:=fun _ _ n _=>s.size - n})]
def zgp:List (Nat×CallSpec):=[(114,zcC)]
def zkp:List (Nat×CallSpec):=[(113,zdI),(114,zcC)]
def zi7:List (Nat×CallSpec):=[(76,zdK),(77,zfC)]
def zgs:List (Nat×CallSpec):=[(76,zdK)]
def zmr:List (Nat×CallSpec):=[(75,zdg nxR QM)]
end

section
namespace Ut
open Go Vc
def zG(r:Int):Nat:=if 0<=r/\r<55296\/57344<=r/\r<=1114111 then r.toNat else 65533
def Za(c:Nat):List Nat:=
  if c<128 then [c]else if c<2048 then [192+c / 64,128+c%64]else if c<65536 then [224+c / 4096,128+c / 64%64,128+c%64]
  else [240+c / 262144,128+c / 4096%64,128+c / 64%64,128+c%64]
def Zh(r:Int):List Int:=(Za (zG r)).map fun b:Nat=>(b:Int)
theorem zoO(r:Int):zG r<=1114111:=by unfold zG;split<;>omega
theorem zwl{c:Nat}(h:c<=1114111):∀b∈Za c,b<256:=by
  unfold Za
  intro b hb
  repeat' split at hb
  all_goals simp only[List.mem_cons,List.not_mem_nil,or_false]at hb
  all_goals omega
theorem zht(c:Nat):1<=(Za c).length/\(Za c).length<=4:=by
  unfold Za
  repeat' split
  all_goals simp
theorem ztv(r:Int):1<=(Zh r).length/\(Zh r).length<=4:=by unfold Zh;rw[List.length_map];exact zht _
theorem ziB(r:Int):(Utf8.encode r).data.toList=(Za (zG r)).map UInt8.ofNat:=by
  have hv:Utf8.valid r=decide (0<=r/\r<55296\/57344<=r/\r<=1114111):=by
    unfold Utf8.valid
    by_cases h:0<=r/\r<55296\/57344<=r/\r<=1114111
    ·rw[decide_eq_true h];simp only[Bool.or_eq_true,Bool.and_eq_true,decide_eq_true_eq];exact h
    ·rw[decide_eq_false h]
     by_cases hh:(decide (0<=r)&&decide (r<55296)||decide (57344<=r)&&decide (r<=1114111))=true
     ·simp only[Bool.or_eq_true,Bool.and_eq_true,decide_eq_true_eq]at hh;exact absurd hh h
     ·simpa using hh
  have hc:(if Utf8.valid r then r.toNat else Utf8.runeError)=zG r:=by
    unfold zG;rw[hv];simp only[decide_eq_true_eq];rfl
  unfold Utf8.encode
  simp only[hc]
  unfold Za
  repeat' split
  all_goals rfl
theorem zaG(xs ys:List Int):runesBytes (xs++ys)=runesBytes xs++runesBytes ys:=by
  have key:∀(l:List Int) (s:ByteArray),l.foldl (fun r n=>r++Utf8.encode n) s=s++l.foldl (fun r n=>r++Utf8.encode n) ByteArray.empty:=by
    intro l
    induction l with
    |nil=>intro s;simp
    |cons x l ih=>intro s;rw[List.foldl_cons,ih,List.foldl_cons,ih (ByteArray.empty++Utf8.encode x),ByteArray.empty_append,ByteArray.append_assoc]
  unfold runesBytes
  rw[List.foldl_append,key]
theorem zbY(x:Int)(xs:List Int):runesBytes (x::xs)=Utf8.encode x++runesBytes xs:=by
  have:=zaG [x] xs
  rw[List.singleton_append]at this
  rw[this];unfold runesBytes;simp
theorem zan(xs:List Int):(runesBytes xs).data.toList=(xs.flatMap fun r=>Za (zG r)).map UInt8.ofNat:=by
  induction xs with
  |nil=>rfl
  |cons x xs ih=>
   rw[zbY,ByteArray.data_append,Array.toList_append,ih,ziB,List.flatMap_cons,List.map_append]
theorem Qv(xs:List Int):xs.flatMap Zh=(xs.flatMap fun r=>Za (zG r)).map fun b:Nat=>(b:Int):=by
  induction xs with
  |nil=>rfl
  |cons x xs ih=>rw[List.flatMap_cons,List.flatMap_cons,List.map_append,ih];rfl
theorem zd2(xs:List Int):∀b∈xs.flatMap fun r=>Za (zG r),b<256:=by
  intro b hb
  obtain⟨x,_,hx⟩:=List.mem_flatMap.1 hb
  exact zwl (zoO x) b hx
theorem Qj(xs:List Int):(runesBytes xs).size=(xs.flatMap Zh).length:=by
  rw[<-qH,zan,Qv,List.length_map,List.length_map]
theorem zc1(xs:List Int)(j:Nat)(h:j<(xs.flatMap Zh).length):((runesBytes xs).data.toList.getD j 0).toNat=((xs.flatMap Zh).getD j 0).toNat:=by
  have hl:=zd2 xs
  rw[zan]
  rw[Qv,List.length_map]at h
  rw[Qv]
  simp only[List.getD_eq_getElem?_getD,List.getElem?_map,List.getElem?_eq_getElem h,Option.map_some,Option.getD_some]
  have:=hl _ (List.getElem_mem h)
  rw[UInt8.toNat_ofNat'];omega
theorem zhV(xs:List Int):(xs.flatMap Zh).length<=4*xs.length:=by
  induction xs with
  |nil=>simp
  |cons x xs ih=>have:=ztv x;rw[List.flatMap_cons,List.length_append,List.length_cons];omega
theorem zeM(xs:List Int):∀b∈xs.flatMap Zh,0<=b/\b<256:=by
  intro b hb
  rw[Qv]at hb
  obtain⟨n,hn,rfl⟩:=List.mem_map.1 hb
  have:=zd2 xs n hn
  omega
end Ut
end

section
open Go Go.RowKit Vc Ut
def zcg(s:ByteArray)(n:Nat):List Value:=[.int .i64 (pos s n), .int .i32 (dcR s (pos s n)), .int .i64 (Qh s (pos s n)), .bool (zz s n)]
def zfo(s:ByteArray):List Nat:=List.range (cnt s)
def sSL(k:IntKind)(e:TypeId)(f:ByteArray->List Int):CallSpec where
  G:=ByteArray
  args:=fun s=> #[.string s]
  pre:=fun s w=>U8 w/\s.size<=67108864
  X:=Option Addr×Nat×Nat
  res:=fun x=> .slice x.1 x.2.1 x.2.2
  post:=fun s w x w'=>x.2.1=(f s).length/\Made w w' e 1 x.1 x.2.1 ((f s).map (Value.int k)) x.2.2
def zax(s:ByteArray)(n:Nat):List Int:=((List.range n).filter (zz s)).map fun n=>(pos s n:Int)
def sSN(f:ByteArray->Nat):CallSpec where
  G:=ByteArray
  args:=fun s=> #[.string s]
  pre:=fun s w=>U8 w/\s.size<=67108864
  X:=Nat
  res:=fun x=> .int .i64 x
  post:=fun s w x w'=>x=f s/\Ext w w'
def sLS(f:List Int->ByteArray):CallSpec where
  G:=GSl
  args:=fun g=> #[.slice g.ad g.xs.length g.c]
  pre:=fun g w=>g.at .i32 w/\g.xs.length<=67108864
  X:=ByteArray
  res:=fun x=> .string x
  post:=fun g w x w'=>x=f g.xs/\Ext w w'
structure GPut where
  W:World
  ad:Option Addr
  c:Nat
  vs:List Int
  r:Int
def zuR:CallSpec where
  G:=GPut
  args:=fun g=> #[.slice g.ad g.vs.length g.c, .int .i32 g.r]
  pre:=fun g w=>Made g.W w 5 1 g.ad g.vs.length (g.vs.map (Value.int .u8)) g.c/\g.vs.length<=1073741824
  X:=Option Addr×Nat×Nat
  res:=fun x=> .slice x.1 x.2.1 x.2.2
  post:=fun g w x w'=>x.2.1=(g.vs++Zh g.r).length/\Made g.W w' 5 1 x.1 x.2.1 ((g.vs++Zh g.r).map (Value.int .u8)) x.2.2
def zyv(g:GPut)(w00:World):Ann where
  sp:=[]
  cuts:=[(1,2,{X:=Unit,sh:=fun _ _=>[(1, .int .i32 (zG g.r:Int))],inv:=fun _ w0 _ w=>w=w0})]
end

section
open Go Go.RowKit Vc Ut Tb Cl
def zD(s:ByteArray):Nat:=bp s 1
def zjh:List (Nat×CallSpec):=[(50,zdg nxR QM),(92,sRB qe),(61,zcc .i8 zn),(93,sRB qj),(94,sRB qh),(95,sRB qS),(96,zeZ qs)]
def zuo(s:ByteArray)(_:World):Ann where
  sp:=zjh
  cuts:=[(12,11,{X:=Nat,sh:=fun _ _=>[],inv:=fun e w0 n w=>gi e 6=(n:Int)/\qR s 0 n=true/\Ext w0 w})]
  jumps:=[(1,{
    X:=Nat
    sh:=fun _ n=>[(3, .int .i32 (sg s 0)),(4, .int .i32 (sg s (n - 1))),(6, .int .i64 n),(7, .int .i64 (pos s n))]
    inv:=fun _ w0 n w=>1<=n/\n<=cnt s/\n<=32/\0<s.size/\goN s 0 (33 - n) n=zy s 0/\Ext w0 w
    mu:=fun _ _ n _=>40 - n}),(0,{
    X:=Unit
    sh:=fun _ _=>[(3, .int .i32 (sg s 0)),(7, .int .i64 (pos s 1))]
    inv:=fun _ w0 _ w=>0<s.size/\(zz s 0=true\/qe (sg s 0)=true)/\Ext w0 w
    mu:=fun _ _ _ _=>0})]
def ZV(s:ByteArray)(k:Nat):List Value:=[.int .i32 (sg s k), .int .i64 (pos s k), .bool (zz s k)]
def zer:CallSpec where
  G:=ByteArray
  args:=fun s=> #[.string s]
  pre:=fun s w=>U8 w/\s.size<=67108864
  X:=Option Addr×Nat×Nat
  res:=fun x=> .slice x.1 x.2.1 x.2.2
  post:=fun s w x w'=>x.2.1=cnt s/\Made w w' 134 3 x.1 x.2.1 ((List.range (cnt s)).flatMap (ZV s)) x.2.2
def zi2:List (Nat×CallSpec):=[(52,zdg nxR QM)]
def zt8(s:ByteArray)(_:World):Ann where
  sp:=zi2
  loops:=[(3,{
    X:=Nat×Option Addr×Nat
    sh:=fun _ x=>[(4, .int .i64 (pos s x.1)),(3, .slice x.2.1 x.1 x.2.2)]
    inv:=fun _ w0 x w=>x.1<=cnt s/\Made w0 w 134 3 x.2.1 x.1 ((List.range x.1).flatMap (ZV s)) x.2.2
    mu:=fun _ _ x _=>cnt s - x.1})]
structure GFst where
  s:ByteArray
  k:Nat
  a:Option Addr
  c:Nat
def zgI:CallSpec where
  G:=GFst
  args:=fun g=> #[.slice g.a (cnt g.s - g.k) g.c]
  pre:=fun g w=>g.k<cnt g.s/\g.s.size<=67108864/\CellsAt w g.a (((List.range (cnt g.s)).drop g.k).flatMap (ZV g.s))
  X:=Nat
  res:=fun x=> .int .i64 x
  post:=fun g w x w'=>x=zy g.s g.k/\Ext w w'
def zjd:List (Nat×CallSpec):=[(126,sRB qe),(127,zjn)]
def zul(g:GFst)(_:World):Ann where
  sp:=zjd
  cuts:=[(3,3,{X:=Unit,sh:=fun _ _=>[(24, .bool (crB g.s g.k))],inv:=fun _ w0 _ w=>Ext w0 w})]
  loops:=[(8,{
    X:=Nat
    sh:=fun _ n=>[(3, .int .i64 n)]
    inv:=fun _ w0 n w=>1<=n/\g.k+n<=cnt g.s/\n<=32/\goN g.s g.k (33 - n) n=zy g.s g.k/\Ext w0 w
    mu:=fun _ _ n _=>40 - n})]
def pcV(s:ByteArray)(i:Nat):List Value:=[.int .i64 (bp s i), .string (s.extract (bp s i) (bp s (i+1)))]
def zju:CallSpec where
  G:=ByteArray
  args:=fun s=> #[.string s]
  pre:=fun s w=>U8 w/\s.size<=67108864
  X:=Option Addr×Nat×Nat
  res:=fun x=> .slice x.1 x.2.1 x.2.2
  post:=fun s w x w'=>x.2.1=Zc s/\Made w w' 142 2 x.1 x.2.1 ((List.range (Zc s)).flatMap (pcV s)) x.2.2
structure GAl where
  i:Nat
  la:Option Addr
  lc:Nat
  oa:Option Addr
  oc:Nat
def zja:List (Nat×CallSpec):=[(71,zer),(102,zgI)]
def zuh(s:ByteArray)(_:World):Ann where
  sp:=zja
  loops:=[(3,{
    X:=GAl
    sh:=fun _ x=>[(3, .slice x.la (cnt s - bk s x.i) x.lc),(4, .slice x.oa x.i x.oc)]
    inv:=fun _ w0 x w=>x.i<=Zc s/\cnt s - bk s x.i<=x.lc/\CellsAt w0 x.la (((List.range (cnt s)).drop (bk s x.i)).flatMap (ZV s))/\Made w0 w 142 2 x.oa x.i ((List.range x.i).flatMap (pcV s)) x.oc
    mu:=fun _ _ x _=>Zc s - x.i})]
def zgu:List (Nat×CallSpec):=[(71,zer),(102,zgI)]
end

section
open Go Go.RowKit Vc Ut Tb Cl
def ziX:List (Nat×CallSpec):=[(65,zaV zC)]
def znY(f:ByteArray->List Nat):CallSpec where
  G:=ByteArray
  args:=fun s=> #[.string s]
  pre:=fun s w=>U8 w/\s.size<=67108864
  X:=Option Addr×Nat×Nat
  res:=fun x=> .slice x.1 x.2.1 x.2.2
  post:=fun s w x w'=>x.2.1=(f s).length/\Made w w' 140 4 x.1 x.2.1 ((f s).flatMap (zcg s)) x.2.2
def zyw(s:ByteArray)(w00:World):Ann where
  sp:=[(52,zdg nxR QM)]
  loops:=[(3,{
    X:=Nat×Option Addr×Nat
    sh:=fun _ x=>[(4, .int .i64 (pos s x.1)),(3, .slice x.2.1 x.1 x.2.2)]
    inv:=fun _ w0 x w=>x.1<=cnt s/\Made w0 w 140 4 x.2.1 x.1 ((List.range x.1).flatMap (zcg s)) x.2.2
    mu:=fun _ _ x _=>cnt s - x.1})]
def zrz:List (Nat×CallSpec):=[(52,zdg nxR QM)]
def spR:List (Nat×CallSpec):=[(110,znY zfo)]
def zwT(s:ByteArray)(w00:World):Ann where
  sp:=spR
  loops:=[(4,{
    X:=Nat×Option Addr×Nat
    sh:=fun _ x=>[(5, .int .i64 x.1),(4, .slice x.2.1 (zax s x.1).length x.2.2)]
    inv:=fun _ w0 x w=>x.1<=cnt s/\Made w0 w 3 1 x.2.1 (zax s x.1).length ((zax s x.1).map (Value.int .i64)) x.2.2
    mu:=fun _ _ x _=>cnt s - x.1})]
def zgt:List (Nat×CallSpec):=[(72,sSL .i64 3 zj1)]
def zgx:List (Nat×CallSpec):=[(73,zju)]
def zu(s:ByteArray):List Value:=s.data.toList.map fun b=> .int .u8 (b.toNat:Int)
def fdN(s:ByteArray):Nat:=((List.range (cnt s)).takeWhile fun n=>zW (s.extract (pos s n) s.size)).length
def ZF(s:ByteArray):List Int:=(zo s).take (fdN s)
def fdH(s:ByteArray):ByteArray:=s.extract (pos s (fdN s)) s.size
structure GBy where
  ad:Option Addr
  c:Nat
  s:ByteArray
def zjA:CallSpec where
  G:=GBy
  args:=fun g=> #[.slice g.ad g.s.size g.c]
  pre:=fun g w=>U8 w/\CellsAt w g.ad (zu g.s)
  X:=Bool
  res:=fun x=> .bool x
  post:=fun g w x w'=>x=zW g.s/\Ext w w'
def zxi:CallSpec where
  G:=GBy
  args:=fun g=> #[.slice g.ad g.s.size g.c]
  pre:=fun g w=>U8 w/\CellsAt w g.ad (zu g.s)/\0<g.s.size
  X:=Int×Nat
  res:=fun x=> .tuple #[.int .i32 x.1, .int .i64 x.2]
  post:=fun g w x w'=>x.1=nxR g.s/\x.2=QM g.s/\Ext w w'
structure RdIn(w:World)(rb:Nat)(ha:Option Addr)(hc:Nat)(h:ByteArray):Prop where
  box:w.heap[rb]? =some (.cells #[.slice ha h.size hc] 89)
  cells:CellsAt w ha (zu h)
  le:h.size<=hc
structure NewRow(w w':World)(e:TypeId)(a:Option Addr)(n:Nat)(vs:List Value)(c:Nat):Prop where
  row:Row w' e 1 a n vs c
  new:∀g,qi a=some g->w.heap.size<=g
structure GRd where
  rb:Nat
  ha:Option Addr
  hc:Nat
  h:ByteArray
  ad:Option Addr
  c:Nat
  b:ByteArray
def zn7:CallSpec where
  G:=GRd
  args:=fun g=> #[.pointer (some ⟨g.rb,0,none⟩), .slice g.ad g.b.size g.c]
  pre:=fun g w=>U8 w/\RdIn w g.rb g.ha g.hc g.h/\CellsAt w g.ad (zu g.b)/\g.h.size<=67108864/\g.b.size<=67108864
  X:=(Option Addr×Nat×Nat)×Option Addr×Nat
  res:=fun x=> .slice x.1.1 x.1.2.1 x.1.2.2
  post:=fun g w x w'=>x.1.2.1=(ZF (g.h++g.b)).length/\NewRow w w' 21 x.1.1 x.1.2.1 ((ZF (g.h++g.b)).map (Value.int .i32)) x.1.2.2/\RdIn w' g.rb x.2.1 x.2.2 (fdH (g.h++g.b))/\(∀q,qi x.2.1=some q->w.heap.size<=q)/\(∀q,qi x.1.1=some q->qi x.2.1≠some q)/\Fr (fun q=>q=g.rb) w w'
def zmA:List (Nat×CallSpec):=[(57,zjA),(58,zxi)]
def zw3(g:GRd)(w00:World):Ann where
  sp:=zmA
  loops:=[(5,{
    X:=Nat×(Option Addr×Nat)×(Option Addr×Nat)
    sh:=fun _ x=>[(5, .slice x.2.1.1 ((g.h++g.b).size - pos (g.h++g.b) x.1) x.2.1.2),(6, .slice x.2.2.1 x.1 x.2.2.2)]
    inv:=fun _ w0 x w=>x.1<=cnt (g.h++g.b)/\(∀j,j<x.1->zW ((g.h++g.b).extract (pos (g.h++g.b) j) (g.h++g.b).size)=true)/\CellsAt w0 x.2.1.1 (zu ((g.h++g.b).extract (pos (g.h++g.b) x.1) (g.h++g.b).size))/\(g.h++g.b).size - pos (g.h++g.b) x.1<=x.2.1.2/\Made w0 w 21 1 x.2.2.1 x.1 (((zo (g.h++g.b)).take x.1).map (Value.int .i32)) x.2.2.2
    mu:=fun _ _ x _=>cnt (g.h++g.b) - x.1})]
def zuT:CallSpec where
  G:=Unit
  args:=fun _=> #[]
  pre:=fun _ _=>True
  X:=Nat
  res:=fun b=> .pointer (some ⟨b,0,none⟩)
  post:=fun _ w b w'=>b=w.heap.size/\RdIn w' b none 0 ⟨#[]⟩/\Ext w w'
def zl7(w:World)(rb:Nat)(h:ByteArray):Prop:=w.heap[rb]? =some (.cells #[.string h] 68)
structure GRf where
  rb:Nat
  h:ByteArray
  ad:Option Addr
  c:Nat
  b:ByteArray
def zjs:CallSpec where
  G:=GRf
  args:=fun g=> #[.pointer (some ⟨g.rb,0,none⟩), .slice g.ad g.b.size g.c]
  pre:=fun g w=>U8 w/\zl7 w g.rb g.h/\CellsAt w g.ad (zu g.b)/\(g.h++g.b).size<=67108864
  X:=Option Addr×Nat×Nat
  res:=fun x=> .slice x.1 x.2.1 x.2.2
  post:=fun g w x w'=>x.2.1=(ZF (g.h++g.b)).length/\NewRow w w' 21 x.1 x.2.1 ((ZF (g.h++g.b)).map (Value.int .i32)) x.2.2/\zl7 w' g.rb (fdH (g.h++g.b))/\Fr (fun q=>q=g.rb) w w'
def zi8:List (Nat×CallSpec):=[(51,zaV zW),(52,zdg nxR QM)]
def zue(g:GRf)(w00:World):Ann where
  sp:=zi8
  loops:=[(3,{
    X:=Nat×(Option Addr×Nat)
    sh:=fun _ x=>[(5, .string ((g.h++g.b).extract (pos (g.h++g.b) x.1) (g.h++g.b).size)),(6, .slice x.2.1 x.1 x.2.2)]
    inv:=fun _ w0 x w=>x.1<=cnt (g.h++g.b)/\(∀j,j<x.1->zW ((g.h++g.b).extract (pos (g.h++g.b) j) (g.h++g.b).size)=true)/\Made w0 w 21 1 x.2.1 x.1 (((zo (g.h++g.b)).take x.1).map (Value.int .i32)) x.2.2
    mu:=fun _ _ x _=>cnt (g.h++g.b) - x.1})]
end

section
open Go Vc Ut Tb Cl
def pcP(s:ByteArray)(i:Nat):Nat×ByteArray:=(bp s i,s.extract (bp s i) (bp s (i+1)))
def pcL(s:ByteArray):List (Nat×ByteArray):=(List.range (Zc s)).map (pcP s)
end

section
open Go Vc Ut Tb Cl
structure Lk where
  tab:Int
  wide:Bool
  want:Int
  join:Bool
  raw:Bool
def lkV(l:Lk):Value:= .agg #[.int .i64 l.tab, .bool l.wide, .int .i8 l.want, .bool l.join, .bool l.raw]
def zgd(t:Int):Nat:=if t<1\/16<t then 8 else t.toNat
def qw(c:Int)(t:Int):Nat:=zgd t - c.toNat%zgd t
def zdZ(d:Nat):UInt8:=if d<10 then UInt8.ofNat (48+d)else UInt8.ofNat (87+d)
def zqE(b:Nat):ByteArray:=⟨#[60,zdZ (b / 16),zdZ (b%16),62]⟩
def Qf(n:Nat):ByteArray:=⟨(List.replicate n 32).toArray⟩
def qT(x:Nat):Nat->List UInt8
  |0=>[]
  |j+1=>zdZ (x / 16^j%16)::qT x j
def qA(l:List UInt8):ByteArray:=⟨l.toArray⟩
def Qx(x:Nat):Nat:=if x<256 then 2 else if x<4096 then 3 else if x<65536 then 4 else if x<1048576 then 5 else 6
def QJ(x:Nat):Nat:=if Qx x<4 then 4 else Qx x
def ZM(x:Nat):ByteArray:=(qA [60]++qA (qT x (QJ x)))++qA [62]
def qf(k:ByteArray):Int:=if 1<cnt k then sg k 1 else 0
def Z2(x:Int):Bool:=decide (128<=x/\x<=159)||(x==8232||x==8233)||(zn x==1&& !qj x)
def zcv(k:ByteArray):ByteArray:=if cnt k=32 then k.extract 0 (pos k 31)else k
def zeP(x:Int):ByteArray:=qA [94,if x=127 then 63 else UInt8.ofNat (x.toNat+64)]
def zU(k:ByteArray)(col:Int)(l:Lk):ByteArray×Nat:=
  if zz k 0=true then(zqE (bt k 0),4)
  else if sg k 0=9 then(Qf (qw col l.tab),qw col l.tab)
  else if sg k 0=10\/qf k=10 then(⟨#[]⟩,0)
  else if sg k 0<32\/sg k 0=127 then(zeP (sg k 0),2)
  else if Z2 (sg k 0)=true then(if l.raw=true then(ZM (sg k 0).toNat,(ZM (sg k 0).toNat).size)else(⟨#[]⟩,0))
  else if zn (sg k 0)=2\/qj (sg k 0)=true then(⟨#[226,151,140]⟩++zcv k,1)
  else if(qh (sg k 0)=true/\qh (qf k)=true)\/(zn (sg k 0)=7/\zY (sg k 0) l.wide=1/\qf k=65039)then(k,2)
  else if zY (sg k 0) l.wide=0 then(⟨#[]⟩,0)else(k,(zY (sg k 0) l.wide).toNat)
def Zi(c:ByteArray)(col:Int)(l:Lk):ByteArray×Nat:=if c.size=0 then(⟨#[]⟩,0)else zU (pcP c 0).2 col l
end
end Go.Proofs.YtjdohhididpomaaGreatDoor
