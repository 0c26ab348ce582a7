/-
  Texts joined by program: SpK, SpP, SpA, Up, SpB, SpN, SpRd, Pc.
-/
import Derived.Test.YtjdohhididpomaaGreatDoorWf04
import Derived.Laws.Cover4
set_option linter.unusedVariables false
set_option linter.unusedSimpArgs false

namespace Go.Proofs.YtjdohhididpomaaGreatDoor
section
open Go Go.RowKit Vc Tb Cl
def zae(k:IntKind)(f:Int->Int):CallSpec where
  G:=Int
  args:=fun r=> #[.int .i32 r]
  pre:=fun _ _=>True
  X:=Int
  res:=fun x=> .int k x
  post:=fun r w x w'=>x=f r/\w'=w
def zbW(k:IntKind)(f:Int->Int):CallSpec where
  G:=Int
  args:=fun r=> #[.int .i32 r]
  pre:=fun _ _=>True
  X:=Int
  res:=fun x=> .int k x
  post:=fun r w x w'=>x=f r/\Ext w w'
structure GFind where
  b:Nat
  T:List (Int×Int)
  r:Int
def zhz(w:World)(b:Nat)(T:List (Int×Int)):Prop:=
  ∀j,j<T.length->w.cell? ⟨b,0+j*2,none⟩=some (.int .i32 (T.getD j (0,0)).1)/\w.cell? ⟨b,0+j*2+1,none⟩=some (.int .u8 (T.getD j (0,0)).2)
def znO:CallSpec where
  G:=GFind
  args:=fun g=> #[.slice (some ⟨g.b,0,none⟩) g.T.length g.T.length, .int .i32 g.r]
  pre:=fun g w=>zhz w g.b g.T/\0<g.T.length/\g.T.length<=1000/\zaB g.T=true/\(g.T.getD 0 (0,0)).1=0
  X:=Int×Int
  res:=fun x=> .tuple #[.int .u8 x.1, .int .i32 x.2]
  post:=fun g w x w'=>FindOk g.T (zF g.r) x.1 x.2/\Ext w w'
def zwE(g:GFind):Ann where
  sp:=[]
  loops:=[(4,{
    X:=Nat×Nat
    sh:=fun _ x=>[(6, .int .i64 x.1),(7, .int .i64 x.2)]
    inv:=fun _ w0 x w=>x.1<x.2/\x.2<=g.T.length/\(g.T.getD x.1 (0,0)).1<=zF g.r/\(x.2=g.T.length\/zF g.r<(g.T.getD x.2 (0,0)).1)/\w=w0
    mu:=fun _ _ x _=>x.2 - x.1})]
  cuts:=[(1,2,{X:=Unit,sh:=fun _ _=>[(1, .int .i32 (zF g.r))],inv:=fun _ w0 _ w=>w=w0})]
def zkl(T:List (Int×Int)):CallSpec where
  G:=Int
  args:=fun r=> #[.int .i32 r]
  pre:=fun _ _=>True
  X:=Int×Int
  res:=fun x=> .tuple #[.int .u8 x.1, .int .i32 x.2]
  post:=fun r w x w'=>FindOk T (zF r) x.1 x.2/\Ext w w'
def zcK(p:World->World->Prop):CallSpec where
  G:=Int×Bool
  args:=fun g=> #[.int .i32 g.1, .bool g.2]
  pre:=fun _ _=>True
  X:=Int
  res:=fun x=> .int .i64 x
  post:=fun g w x w'=>x=zU g.1 g.2/\p w w'
def zco:List (Nat×CallSpec):=[(81,zae .i32 zF)]
def zee:List (Nat×CallSpec):=[(115,znO)]
def zmd:List (Nat×CallSpec):=[(87,zkl zb9)]
def zq7:List (Nat×CallSpec):=[(125,zkl zdl)]
def zrc:List (Nat×CallSpec):=[(129,zae .i64 zaM)]
end

section
open Go Go.RowKit Vc Tb Cl
def sRB(f:Int->Bool):CallSpec where
  G:=Int
  args:=fun r=> #[.int .i32 r]
  pre:=fun _ _=>True
  X:=Bool
  res:=fun x=> .bool x
  post:=fun r w x w'=>x=f r/\Ext w w'
def sRN(f:Int->Nat):CallSpec where
  G:=Int
  args:=fun r=> #[.int .i32 r]
  pre:=fun _ _=>True
  X:=Nat
  res:=fun x=> .int .i64 x
  post:=fun r w x w'=>x=f r/\Ext w w'
def zeN(f:Int->Int->Bool):CallSpec where
  G:=Int×Int
  args:=fun g=> #[.int .i32 g.1, .int .i32 g.2]
  pre:=fun _ _=>True
  X:=Bool
  res:=fun x=> .bool x
  post:=fun g w x w'=>x=f g.1 g.2/\Ext w w'
structure GTk where
  x:Int
  z:Int
  y:Int
  n:Nat
def zi5:CallSpec where
  G:=GTk
  args:=fun g=> #[.int .i32 g.x, .int .i32 g.z, .int .i32 g.y, .int .i64 g.n]
  pre:=fun _ _=>True
  X:=Bool
  res:=fun x=> .bool x
  post:=fun g w x w'=>x=qc g.x g.z g.y g.n/\Ext w w'
def zdj:Nat->Nat
  |1=>1
  |2=>2
  |3=>4
  |4=>8
  |5=>16
  |_=>0
def Z4(r:Int):Nat:=zdj (ql r)
def zra:List (Nat×CallSpec):=[(61,zbW .i8 zl),(100,zcK (fun w w'=>Ext w w'))]
def zl8:List (Nat×CallSpec):=[(54,zae .i8 zl),(109,zcK (fun w w'=>w'=w))]
def zi0:List (Nat×CallSpec):=[(61,zbW .i8 zl),(93,sRB qe)]
def zgf:List (Nat×CallSpec):=[(54,zae .i8 zl),(105,sRB qe)]
def zmg:List (Nat×CallSpec):=[(117,sRN Z4)]
def zq8:List (Nat×CallSpec):=[(149,sRN ql)]
def ziJ:List (Nat×CallSpec):=[(54,zae .i8 zl),(105,sRB qe),(108,sRB qd),(140,sRB qP),(141,zeN qm)]
end

section
open Go Go.RowKit Vc Ut
def U8(w:World):Prop:=Lib.Utf8Tabs 0 1 w
def zc0(fr:ByteArray->Int)(fn:ByteArray->Nat):CallSpec where
  G:=ByteArray
  args:=fun s=> #[.string s]
  pre:=fun s w=>U8 w/\s.size<=67108864
  X:=Int×Nat
  res:=fun x=> .tuple #[.int .i32 x.1, .int .i64 x.2]
  post:=fun s w x w'=>x.1=fr s/\x.2=fn s/\Ext w w'
def zaF(f:ByteArray->Bool):CallSpec where
  G:=ByteArray
  args:=fun s=> #[.string s]
  pre:=fun s w=>U8 w/\s.size<=67108864
  X:=Bool
  res:=fun x=> .bool x
  post:=fun s w x w'=>x=f s/\Ext w w'
def zcq:CallSpec where
  G:=Nat×Nat×Nat
  args:=fun g=> #[.int .u8 g.1, .int .u8 g.2.1, .int .u8 g.2.2]
  pre:=fun _ _=>True
  X:=Bool
  res:=fun x=> .bool x
  post:=fun g w x w'=>x=decide (g.2.1<=g.1/\g.1<=g.2.2)/\w'=w
def zdt:CallSpec where
  G:=Nat
  args:=fun g=> #[.int .u8 g]
  pre:=fun _ _=>True
  X:=Nat×Nat×Nat
  res:=fun x=> .tuple #[.int .u8 x.1, .int .u8 x.2.1, .int .i64 x.2.2]
  post:=fun g w x w'=>x=zP g/\w'=w
def zdx:CallSpec where
  G:=ByteArray
  args:=fun s=> #[.string s]
  pre:=fun s _=>s.size<=67108864
  X:=Nat×Nat
  res:=fun x=> .tuple #[.int .i64 x.1, .int .i64 x.2]
  post:=fun s w x w'=>x.1=Zr s/\x.2=Zp s/\w'=w
def zqx(s:ByteArray)(w00:World):Ann where
  sp:=[(113,zdt),(114,zcq)]
  loops:=[(9,{
    X:=Nat
    sh:=fun _ n=>[(7, .int .i64 n),(4, .int .u8 (loB s n)),(5, .int .u8 (hiB s n))]
    inv:=fun e w0 n w=>w=w0/\1<=n/\n<=(zP (bt s 0)).2.2/\n<=s.size/\q7 s ((zP (bt s 0)).2.2 - n) n=q7 s ((zP (bt s 0)).2.2 - 1) 1
    mu:=fun _ _ n _=>s.size - n})]
def zfr:CallSpec where
  G:=ByteArray
  args:=fun s=> #[.string s]
  pre:=fun s _=>1<=s.size/\s.size<=4
  X:=Nat
  res:=fun x=> .int .i32 x
  post:=fun s w x w'=>x=zc7 s s.size/\Ext w w'
def zqt(s:ByteArray)(w00:World):Ann where
  sp:=[]
  loops:=[(4,{
    X:=Nat
    sh:=fun _ n=>[(5, .int .i64 (n+1)),(4, .int .i32 (zac s s.size n))]
    inv:=fun _ w0 n w=>n+1<=s.size/\Ext w0 w
    mu:=fun _ _ n _=>s.size - n})]
def zf8:List (Nat×CallSpec):=[(114,zcq)]
def zj9:List (Nat×CallSpec):=[(113,zdt),(114,zcq)]
def ziR:List (Nat×CallSpec):=[(76,zdx),(77,zfr)]
def zga:List (Nat×CallSpec):=[(76,zdx)]
def zmb:List (Nat×CallSpec):=[(75,zc0 Q4 QB)]
end

section
namespace Ut
open Go Vc
def zD(r:Int):Nat:=if 0<=r/\r<55296\/57344<=r/\r<=1114111 then r.toNat else 65533
def qX(c:Nat):List Nat:=
  if c<128 then [c]else if c<2048 then [192+c / 64,128+c%64]else if c<65536 then [224+c / 4096,128+c / 64%64,128+c%64]
  else [240+c / 262144,128+c / 4096%64,128+c / 64%64,128+c%64]
def Za(r:Int):List Int:=(qX (zD r)).map fun b:Nat=>(b:Int)
theorem zoB(r:Int):zD r<=1114111:=by unfold zD;split<;>omega
theorem zvX{c:Nat}(h:c<=1114111):∀b∈qX c,b<256:=by
  unfold qX
  intro b hb
  repeat' split at hb
  all_goals simp only[List.mem_cons,List.not_mem_nil,or_false]at hb
  all_goals omega
theorem zhc(c:Nat):1<=(qX c).length/\(qX c).length<=4:=by
  unfold qX
  repeat' split
  all_goals simp
theorem ztg(r:Int):1<=(Za r).length/\(Za r).length<=4:=by unfold Za;rw[List.length_map];exact zhc _
theorem zil(r:Int):(Utf8.encode r).data.toList=(qX (zD r)).map UInt8.ofNat:=by
  have hv:Utf8.valid r=decide (0<=r/\r<55296\/57344<=r/\r<=1114111):=by
    unfold Utf8.valid
    by_cases h:0<=r/\r<55296\/57344<=r/\r<=1114111
    ·rw[decide_eq_true h];simp only[Bool.or_eq_true,Bool.and_eq_true,decide_eq_true_eq];exact h
    ·rw[decide_eq_false h]
     by_cases hh:(decide (0<=r)&&decide (r<55296)||decide (57344<=r)&&decide (r<=1114111))=true
     ·simp only[Bool.or_eq_true,Bool.and_eq_true,decide_eq_true_eq]at hh;exact absurd hh h
     ·simpa using hh
  have hc:(if Utf8.valid r then r.toNat else Utf8.runeError)=zD r:=by
    unfold zD;rw[hv];simp only[decide_eq_true_eq];rfl
  unfold Utf8.encode
  simp only[hc]
  unfold qX
  repeat' split
  all_goals rfl
theorem zap(xs ys:List Int):runesBytes (xs++ys)=runesBytes xs++runesBytes ys:=by
  have key:∀(l:List Int) (s:ByteArray),l.foldl (fun r n=>r++Utf8.encode n) s=s++l.foldl (fun r n=>r++Utf8.encode n) ByteArray.empty:=by
    intro l
    induction l with
    |nil=>intro s;simp
    |cons x l ih=>intro s;rw[List.foldl_cons,ih,List.foldl_cons,ih (ByteArray.empty++Utf8.encode x),ByteArray.empty_append,ByteArray.append_assoc]
  unfold runesBytes
  rw[List.foldl_append,key]
theorem zbG(x:Int)(xs:List Int):runesBytes (x::xs)=Utf8.encode x++runesBytes xs:=by
  have:=zap [x] xs
  rw[List.singleton_append]at this
  rw[this];unfold runesBytes;simp
theorem Q9(xs:List Int):(runesBytes xs).data.toList=(xs.flatMap fun r=>qX (zD r)).map UInt8.ofNat:=by
  induction xs with
  |nil=>rfl
  |cons x xs ih=>
   rw[zbG,ByteArray.data_append,Array.toList_append,ih,zil,List.flatMap_cons,List.map_append]
theorem Qk(xs:List Int):xs.flatMap Za=(xs.flatMap fun r=>qX (zD r)).map fun b:Nat=>(b:Int):=by
  induction xs with
  |nil=>rfl
  |cons x xs ih=>rw[List.flatMap_cons,List.flatMap_cons,List.map_append,ih];rfl
theorem zdP(xs:List Int):∀b∈xs.flatMap fun r=>qX (zD r),b<256:=by
  intro b hb
  obtain⟨x,_,hx⟩:=List.mem_flatMap.1 hb
  exact zvX (zoB x) b hx
theorem Qb(xs:List Int):(runesBytes xs).size=(xs.flatMap Za).length:=by
  rw[<-qH,Q9,Qk,List.length_map,List.length_map]
theorem zcM(xs:List Int)(j:Nat)(h:j<(xs.flatMap Za).length):((runesBytes xs).data.toList.getD j 0).toNat=((xs.flatMap Za).getD j 0).toNat:=by
  have hl:=zdP xs
  rw[Q9]
  rw[Qk,List.length_map]at h
  rw[Qk]
  simp only[List.getD_eq_getElem?_getD,List.getElem?_map,List.getElem?_eq_getElem h,Option.map_some,Option.getD_some]
  have:=hl _ (List.getElem_mem h)
  rw[UInt8.toNat_ofNat'];omega
theorem zhG(xs:List Int):(xs.flatMap Za).length<=4*xs.length:=by
  induction xs with
  |nil=>simp
  |cons x xs ih=>have:=ztg x;rw[List.flatMap_cons,List.length_append,List.length_cons];omega
theorem zeA(xs:List Int):∀b∈xs.flatMap Za,0<=b/\b<256:=by
  intro b hb
  rw[Qk]at hb
  obtain⟨n,hn,rfl⟩:=List.mem_map.1 hb
  have:=zdP xs n hn
  omega
end Ut
end

section
open Go Go.RowKit Vc Ut
def zb0(s:ByteArray)(n:Nat):List Value:=[.int .i64 (pos s n), .int .i32 (Q5 s (pos s n)), .int .i64 (Z9 s (pos s n)), .bool (zu s n)]
def zfb(s:ByteArray):List Nat:=List.range (cnt s)
def sSL(k:IntKind)(e:TypeId)(f:ByteArray->List Int):CallSpec where
  G:=ByteArray
  args:=fun s=> #[.string s]
  pre:=fun s w=>U8 w/\s.size<=67108864
  X:=Option Addr×Nat×Nat
  res:=fun x=> .slice x.1 x.2.1 x.2.2
  post:=fun s w x w'=>x.2.1=(f s).length/\Made w w' e 1 x.1 x.2.1 ((f s).map (Value.int k)) x.2.2
def zai(s:ByteArray)(n:Nat):List Int:=((List.range n).filter (zu s)).map fun n=>(pos s n:Int)
def sSN(f:ByteArray->Nat):CallSpec where
  G:=ByteArray
  args:=fun s=> #[.string s]
  pre:=fun s w=>U8 w/\s.size<=67108864
  X:=Nat
  res:=fun x=> .int .i64 x
  post:=fun s w x w'=>x=f s/\Ext w w'
def sLS(f:List Int->ByteArray):CallSpec where
  G:=GSl
  args:=fun g=> #[.slice g.ad g.xs.length g.c]
  pre:=fun g w=>g.at .i32 w/\g.xs.length<=67108864
  X:=ByteArray
  res:=fun x=> .string x
  post:=fun g w x w'=>x=f g.xs/\Ext w w'
structure GPut where
  W:World
  ad:Option Addr
  c:Nat
  vs:List Int
  r:Int
def zuy:CallSpec where
  G:=GPut
  args:=fun g=> #[.slice g.ad g.vs.length g.c, .int .i32 g.r]
  pre:=fun g w=>Made g.W w 5 1 g.ad g.vs.length (g.vs.map (Value.int .u8)) g.c/\g.vs.length<=1073741824
  X:=Option Addr×Nat×Nat
  res:=fun x=> .slice x.1 x.2.1 x.2.2
  post:=fun g w x w'=>x.2.1=(g.vs++Za g.r).length/\Made g.W w' 5 1 x.1 x.2.1 ((g.vs++Za g.r).map (Value.int .u8)) x.2.2
def zyb(g:GPut)(w00:World):Ann where
  sp:=[]
  cuts:=[(1,2,{X:=Unit,sh:=fun _ _=>[(1, .int .i32 (zD g.r:Int))],inv:=fun _ w0 _ w=>w=w0})]
end

section
open Go Go.RowKit Vc Ut Tb Cl
def zz(s:ByteArray):Nat:=bp s 1
def ziZ:List (Nat×CallSpec):=[(50,zc0 Q4 QB),(92,sRB z7),(61,zbW .i8 zl),(93,sRB qe),(94,sRB qd),(95,sRB qP),(96,zeN qm)]
def zt6(s:ByteArray)(_:World):Ann where
  sp:=ziZ
  cuts:=[(12,11,{X:=Nat,sh:=fun _ _=>[],inv:=fun e w0 n w=>gi e 6=(n:Int)/\qO s 0 n=true/\Ext w0 w})]
  jumps:=[(1,{
    X:=Nat
    sh:=fun _ n=>[(3, .int .i32 (sg s 0)),(4, .int .i32 (sg s (n - 1))),(6, .int .i64 n),(7, .int .i64 (pos s n))]
    inv:=fun _ w0 n w=>1<=n/\n<=cnt s/\n<=32/\0<s.size/\goN s 0 (33 - n) n=zq s 0/\Ext w0 w
    mu:=fun _ _ n _=>40 - n}),(0,{
    X:=Unit
    sh:=fun _ _=>[(3, .int .i32 (sg s 0)),(7, .int .i64 (pos s 1))]
    inv:=fun _ w0 _ w=>0<s.size/\(zu s 0=true\/z7 (sg s 0)=true)/\Ext w0 w
    mu:=fun _ _ _ _=>0})]
def ZN(s:ByteArray)(k:Nat):List Value:=[.int .i32 (sg s k), .int .i64 (pos s k), .bool (zu s k)]
def zef:CallSpec where
  G:=ByteArray
  args:=fun s=> #[.string s]
  pre:=fun s w=>U8 w/\s.size<=67108864
  X:=Option Addr×Nat×Nat
  res:=fun x=> .slice x.1 x.2.1 x.2.2
  post:=fun s w x w'=>x.2.1=cnt s/\Made w w' 134 3 x.1 x.2.1 ((List.range (cnt s)).flatMap (ZN s)) x.2.2
def ziL:List (Nat×CallSpec):=[(52,zc0 Q4 QB)]
def ztR(s:ByteArray)(_:World):Ann where
  sp:=ziL
  loops:=[(3,{
    X:=Nat×Option Addr×Nat
    sh:=fun _ x=>[(4, .int .i64 (pos s x.1)),(3, .slice x.2.1 x.1 x.2.2)]
    inv:=fun _ w0 x w=>x.1<=cnt s/\Made w0 w 134 3 x.2.1 x.1 ((List.range x.1).flatMap (ZN s)) x.2.2
    mu:=fun _ _ x _=>cnt s - x.1})]
structure GFst where
  s:ByteArray
  k:Nat
  a:Option Addr
  c:Nat
def zgt:CallSpec where
  G:=GFst
  args:=fun g=> #[.slice g.a (cnt g.s - g.k) g.c]
  pre:=fun g w=>g.k<cnt g.s/\g.s.size<=67108864/\CellsAt w g.a (((List.range (cnt g.s)).drop g.k).flatMap (ZN g.s))
  X:=Nat
  res:=fun x=> .int .i64 x
  post:=fun g w x w'=>x=zq g.s g.k/\Ext w w'
def ziX:List (Nat×CallSpec):=[(126,sRB z7),(127,zi5)]
def zt4(g:GFst)(_:World):Ann where
  sp:=ziX
  cuts:=[(3,3,{X:=Unit,sh:=fun _ _=>[(24, .bool (crB g.s g.k))],inv:=fun _ w0 _ w=>Ext w0 w})]
  loops:=[(8,{
    X:=Nat
    sh:=fun _ n=>[(3, .int .i64 n)]
    inv:=fun _ w0 n w=>1<=n/\g.k+n<=cnt g.s/\n<=32/\goN g.s g.k (33 - n) n=zq g.s g.k/\Ext w0 w
    mu:=fun _ _ n _=>40 - n})]
def pcV(s:ByteArray)(i:Nat):List Value:=[.int .i64 (bp s i), .string (s.extract (bp s i) (bp s (i+1)))]
def zjc:CallSpec where
  G:=ByteArray
  args:=fun s=> #[.string s]
  pre:=fun s w=>U8 w/\s.size<=67108864
  X:=Option Addr×Nat×Nat
  res:=fun x=> .slice x.1 x.2.1 x.2.2
  post:=fun s w x w'=>x.2.1=qW s/\Made w w' 142 2 x.1 x.2.1 ((List.range (qW s)).flatMap (pcV s)) x.2.2
structure GAl where
  i:Nat
  la:Option Addr
  lc:Nat
  oa:Option Addr
  oc:Nat
def ziU:List (Nat×CallSpec):=[(71,zef),(102,zgt)]
def zt1(s:ByteArray)(_:World):Ann where
  sp:=ziU
  loops:=[(3,{
    X:=GAl
    sh:=fun _ x=>[(3, .slice x.la (cnt s - bk s x.i) x.lc),(4, .slice x.oa x.i x.oc)]
    inv:=fun _ w0 x w=>x.i<=qW s/\cnt s - bk s x.i<=x.lc/\CellsAt w0 x.la (((List.range (cnt s)).drop (bk s x.i)).flatMap (ZN s))/\Made w0 w 142 2 x.oa x.i ((List.range x.i).flatMap (pcV s)) x.oc
    mu:=fun _ _ x _=>qW s - x.i})]
def zgc:List (Nat×CallSpec):=[(71,zef),(102,zgt)]
end

section
open Go Go.RowKit Vc Ut Tb Cl
def ziG:List (Nat×CallSpec):=[(65,zaF zw)]
def znI(f:ByteArray->List Nat):CallSpec where
  G:=ByteArray
  args:=fun s=> #[.string s]
  pre:=fun s w=>U8 w/\s.size<=67108864
  X:=Option Addr×Nat×Nat
  res:=fun x=> .slice x.1 x.2.1 x.2.2
  post:=fun s w x w'=>x.2.1=(f s).length/\Made w w' 140 4 x.1 x.2.1 ((f s).flatMap (zb0 s)) x.2.2
def zyc(s:ByteArray)(w00:World):Ann where
  sp:=[(52,zc0 Q4 QB)]
  loops:=[(3,{
    X:=Nat×Option Addr×Nat
    sh:=fun _ x=>[(4, .int .i64 (pos s x.1)),(3, .slice x.2.1 x.1 x.2.2)]
    inv:=fun _ w0 x w=>x.1<=cnt s/\Made w0 w 140 4 x.2.1 x.1 ((List.range x.1).flatMap (zb0 s)) x.2.2
    mu:=fun _ _ x _=>cnt s - x.1})]
def zre:List (Nat×CallSpec):=[(52,zc0 Q4 QB)]
def spR:List (Nat×CallSpec):=[(110,znI zfb)]
def zww(s:ByteArray)(w00:World):Ann where
  sp:=spR
  loops:=[(4,{
    X:=Nat×Option Addr×Nat
    sh:=fun _ x=>[(5, .int .i64 x.1),(4, .slice x.2.1 (zai s x.1).length x.2.2)]
    inv:=fun _ w0 x w=>x.1<=cnt s/\Made w0 w 3 1 x.2.1 (zai s x.1).length ((zai s x.1).map (Value.int .i64)) x.2.2
    mu:=fun _ _ x _=>cnt s - x.1})]
def zgb:List (Nat×CallSpec):=[(72,sSL .i64 3 zjL)]
def zge:List (Nat×CallSpec):=[(73,zjc)]
def zh(s:ByteArray):List Value:=s.data.toList.map fun b=> .int .u8 (b.toNat:Int)
def fdN(s:ByteArray):Nat:=((List.range (cnt s)).takeWhile fun n=>zT (s.extract (pos s n) s.size)).length
def Zh(s:ByteArray):List Int:=(zo s).take (fdN s)
def fdH(s:ByteArray):ByteArray:=s.extract (pos s (fdN s)) s.size
structure GBy where
  ad:Option Addr
  c:Nat
  s:ByteArray
def zjg:CallSpec where
  G:=GBy
  args:=fun g=> #[.slice g.ad g.s.size g.c]
  pre:=fun g w=>U8 w/\CellsAt w g.ad (zh g.s)
  X:=Bool
  res:=fun x=> .bool x
  post:=fun g w x w'=>x=zT g.s/\Ext w w'
def zwZ:CallSpec where
  G:=GBy
  args:=fun g=> #[.slice g.ad g.s.size g.c]
  pre:=fun g w=>U8 w/\CellsAt w g.ad (zh g.s)/\0<g.s.size
  X:=Int×Nat
  res:=fun x=> .tuple #[.int .i32 x.1, .int .i64 x.2]
  post:=fun g w x w'=>x.1=Q4 g.s/\x.2=QB g.s/\Ext w w'
structure RdIn(w:World)(rb:Nat)(ha:Option Addr)(hc:Nat)(h:ByteArray):Prop where
  box:w.heap[rb]? =some (.cells #[.slice ha h.size hc] 89)
  cells:CellsAt w ha (zh h)
  le:h.size<=hc
structure NewRow(w w':World)(e:TypeId)(a:Option Addr)(n:Nat)(vs:List Value)(c:Nat):Prop where
  row:Row w' e 1 a n vs c
  new:∀g,zV a=some g->w.heap.size<=g
structure GRd where
  rb:Nat
  ha:Option Addr
  hc:Nat
  h:ByteArray
  ad:Option Addr
  c:Nat
  b:ByteArray
def znP:CallSpec where
  G:=GRd
  args:=fun g=> #[.pointer (some ⟨g.rb,0,none⟩), .slice g.ad g.b.size g.c]
  pre:=fun g w=>U8 w/\RdIn w g.rb g.ha g.hc g.h/\CellsAt w g.ad (zh g.b)/\g.h.size<=67108864/\g.b.size<=67108864
  X:=(Option Addr×Nat×Nat)×Option Addr×Nat
  res:=fun x=> .slice x.1.1 x.1.2.1 x.1.2.2
  post:=fun g w x w'=>x.1.2.1=(Zh (g.h++g.b)).length/\NewRow w w' 21 x.1.1 x.1.2.1 ((Zh (g.h++g.b)).map (Value.int .i32)) x.1.2.2/\RdIn w' g.rb x.2.1 x.2.2 (fdH (g.h++g.b))/\(∀q,zV x.2.1=some q->w.heap.size<=q)/\(∀q,zV x.1.1=some q->zV x.2.1≠some q)/\Fr (fun q=>q=g.rb) w w'
def zmi:List (Nat×CallSpec):=[(57,zjg),(58,zwZ)]
def zwF(g:GRd)(w00:World):Ann where
  sp:=zmi
  loops:=[(5,{
    X:=Nat×(Option Addr×Nat)×(Option Addr×Nat)
    sh:=fun _ x=>[(5, .slice x.2.1.1 ((g.h++g.b).size - pos (g.h++g.b) x.1) x.2.1.2),(6, .slice x.2.2.1 x.1 x.2.2.2)]
    inv:=fun _ w0 x w=>x.1<=cnt (g.h++g.b)/\(∀j,j<x.1->zT ((g.h++g.b).extract (pos (g.h++g.b) j) (g.h++g.b).size)=true)/\CellsAt w0 x.2.1.1 (zh ((g.h++g.b).extract (pos (g.h++g.b) x.1) (g.h++g.b).size))/\(g.h++g.b).size - pos (g.h++g.b) x.1<=x.2.1.2/\Made w0 w 21 1 x.2.2.1 x.1 (((zo (g.h++g.b)).take x.1).map (Value.int .i32)) x.2.2.2
    mu:=fun _ _ x _=>cnt (g.h++g.b) - x.1})]
def zuA:CallSpec where
  G:=Unit
  args:=fun _=> #[]
  pre:=fun _ _=>True
  X:=Nat
  res:=fun b=> .pointer (some ⟨b,0,none⟩)
  post:=fun _ w b w'=>b=w.heap.size/\RdIn w' b none 0 ⟨#[]⟩/\Ext w w'
def zlR(w:World)(rb:Nat)(h:ByteArray):Prop:=w.heap[rb]? =some (.cells #[.string h] 68)
structure GRf where
  rb:Nat
  h:ByteArray
  ad:Option Addr
  c:Nat
  b:ByteArray
def zja:CallSpec where
  G:=GRf
  args:=fun g=> #[.pointer (some ⟨g.rb,0,none⟩), .slice g.ad g.b.size g.c]
  pre:=fun g w=>U8 w/\zlR w g.rb g.h/\CellsAt w g.ad (zh g.b)/\(g.h++g.b).size<=67108864
  X:=Option Addr×Nat×Nat
  res:=fun x=> .slice x.1 x.2.1 x.2.2
  post:=fun g w x w'=>x.2.1=(Zh (g.h++g.b)).length/\NewRow w w' 21 x.1 x.2.1 ((Zh (g.h++g.b)).map (Value.int .i32)) x.2.2/\zlR w' g.rb (fdH (g.h++g.b))/\Fr (fun q=>q=g.rb) w w'
def ziS:List (Nat×CallSpec):=[(51,zaF zT),(52,zc0 Q4 QB)]
def ztY(g:GRf)(w00:World):Ann where
  sp:=ziS
  loops:=[(3,{
    X:=Nat×(Option Addr×Nat)
    sh:=fun _ x=>[(5, .string ((g.h++g.b).extract (pos (g.h++g.b) x.1) (g.h++g.b).size)),(6, .slice x.2.1 x.1 x.2.2)]
    inv:=fun _ w0 x w=>x.1<=cnt (g.h++g.b)/\(∀j,j<x.1->zT ((g.h++g.b).extract (pos (g.h++g.b) j) (g.h++g.b).size)=true)/\Made w0 w 21 1 x.2.1 x.1 (((zo (g.h++g.b)).take x.1).map (Value.int .i32)) x.2.2
    mu:=fun _ _ x _=>cnt (g.h++g.b) - x.1})]
end

section
open Go Vc Ut Tb Cl
def pcP(s:ByteArray)(i:Nat):Nat×ByteArray:=(bp s i,s.extract (bp s i) (bp s (i+1)))
def pcL(s:ByteArray):List (Nat×ByteArray):=(List.range (qW s)).map (pcP s)
end
end Go.Proofs.YtjdohhididpomaaGreatDoor
