/-
  Texts joined by program: SpXd, SpXh, VgXh, VgXd.
-/
import Derived.Test.YtjdohhididpomaaGreatDoorWf05
import Derived.Test.YtjdohhididpomaaGreatDoorWf06
import Derived.Test.YtjdohhididpomaaGreatDoorProg
import Derived.Lib.AppendIntMem
import Derived.Lib.OthersKept
import Derived.KernelRfl
set_option linter.unusedVariables false
set_option linter.unusedSimpArgs false

namespace Go.Proofs.YtjdohhididpomaaGreatDoor
section
open Go Go.RowKit Vc Ut Tb Cl
def P10(B:Nat)(w:World):Prop:=Lib.TabBelow Tryz.prog B w "internal/strconv.uint64pow10" .u64 Lib.pow10Tab
structure Kp(B:Nat)(q:Option Nat)(w w':World):Prop where
  below:Below B w w'
  oth:Lib.OthersKept 5 q w w'
structure GApp where
  B:Nat
  ad:Option Addr
  c:Nat
  s:ByteArray
  i:Int
def zw1:CallSpec where
  G:=GApp
  args:=fun g=> #[.slice g.ad g.s.size g.c, .int .i64 g.i, .int .i64 10]
  pre:=fun g w=>P10 g.B w/\Row w 5 1 g.ad g.s.size (zh g.s) g.c/\(∀q,zV g.ad=some q->g.B<=q)/\g.B<=w.heap.size/\g.s.size<=1073741824/\ -9223372036854775808<=g.i/\g.i<=9223372036854775807
  X:=Option Addr×Nat×Nat
  res:=fun x=> .slice x.1 x.2.1 x.2.2
  post:=fun g w x w'=>x.2.1=(g.s++qE g.i).size/\Row w' 5 1 x.1 x.2.1 (zh (g.s++qE g.i)) x.2.2/\(∀q,zV x.1=some q->g.B<=q)/\Kp g.B none w w'
structure TeP where
  B:Nat
  q:Nat
  ad:Option Addr
  c:Nat
def teV(p:TeP)(t:Te):Array Value:= #[.slice p.ad t.b.size p.c, .int .i64 t.ps, .string t.last, .int .u16 t.st, .int .i64 t.w, .bool t.wd]
def UDB(B:Nat)(w:World):Prop:=∀w',Below B w w'->UD w'
structure TeIn(w:World)(p:TeP)(t:Te):Prop where
  box:w.heap[p.q]? =some (.cells (teV p t) 74)
  row:Row w 5 1 p.ad t.b.size (zh t.b) p.c
  bq:p.B<=p.q
  bad:∀g,zV p.ad=some g->p.B<=g
  bw:p.B<=w.heap.size
  tab:P10 p.B w
  u:UDB p.B w
structure TeOut(w w':World)(p p':TeP)(t':Te):Prop where
  is:TeIn w' p' t'
  b:p'.B=p.B
  q:p'.q=p.q
  kp:Kp p.B (some p.q) w w'
structure GSay where
  p:TeP
  t:Te
  c:UInt8
  la:Option Addr
  lc:Nat
  l:List Int
def zro:CallSpec where
  G:=GSay
  args:=fun g=> #[.pointer (some ⟨g.p.q,0,none⟩), .int .u8 (g.c.toNat:Int), .slice g.la g.l.length g.lc]
  pre:=fun g w=>TeIn w g.p g.t/\Row w 3 1 g.la g.l.length (g.l.map (Value.int .i64)) g.lc/\g.t.b.size<=536870912/\g.l.length<=16/\∀n∈g.l, -9223372036854775808<=n/\n<=9223372036854775807
  X:=TeP
  res:=fun _=> .tuple #[]
  post:=fun g w x w'=>TeOut w w' g.p x (zhC g.t g.c g.l)
def pfx(l:List Int)(i:Nat):ByteArray:=qT true (l.take i)
def teB(t:Te)(b:ByteArray):Te:={t with b:=b}
def zdr(t:Te)(l:List Int)(i:Nat):Te:=teB t (t.b++⟨#[27,91]⟩++pfx l i)
def ze4(t:Te)(l:List Int)(i:Nat):Te:=teB t ((zdr t l i).b++(if i=0 then⟨#[]⟩else⟨#[59]⟩))
def zq9:List (Nat×CallSpec):=[(49,zw1)]
def zya(g:GSay)(w00:World):Ann where
  sp:=zq9
  cuts:=[(4,5,{X:=TeP,sh:=fun _ _=>[],inv:=fun e w0 x w=>∃i:Nat,gv e 6= .int .i64 (i:Int)/\TeOut w00 w g.p x (ze4 g.t g.l i)})]
  loops:=[(2,{
    X:=Nat×TeP
    sh:=fun _ x=>[(19, .int .i64 x.1)]
    inv:=fun _ _ x w=>x.1<=g.l.length/\TeOut w00 w g.p x.2 (zdr g.t g.l x.1)
    mu:=fun _ _ x _=>g.l.length - x.1})]
structure GMove where
  p:TeP
  t:Te
  i:Nat
def teOk(t:Te):Prop:=0<t.w/\t.w<=1024/\t.st<65536
def zko:CallSpec where
  G:=GMove
  args:=fun g=> #[.pointer (some ⟨g.p.q,0,none⟩), .int .i64 g.i]
  pre:=fun g w=>TeIn w g.p g.t/\teOk g.t/\g.i<=1048576/\g.t.b.size<=536870912
  X:=TeP
  res:=fun _=> .tuple #[]
  post:=fun g w x w'=>TeOut w w' g.p x (Qj g.t g.i)
def zed:List (Nat×CallSpec):=[(35,zro)]
def zkk:CallSpec where
  G:=GMove
  args:=fun g=> #[.pointer (some ⟨g.p.q,0,none⟩), .int .u16 g.i]
  pre:=fun g w=>TeIn w g.p g.t/\g.i<65536/\g.t.b.size<=536870912
  X:=TeP
  res:=fun _=> .tuple #[]
  post:=fun g w x w'=>TeOut w w' g.p x (Qe g.t g.i)
def Z8(st:Nat):List Int:=[0]++qN st 4++(if st%256≠0 then [38,5,((st%256:Nat):Int)]else [])
def zws(g:GMove)(w00:World):Ann where
  sp:=zed
  cuts:=[(7,9,{X:=Option Addr×Nat,sh:=fun _ x=>[(4, .slice x.1 (Z8 g.i).length x.2)],inv:=fun _ _ x w=>Made w00 w 3 1 x.1 (Z8 g.i).length ((Z8 g.i).map (Value.int .i64)) x.2}),
    (10,12,{X:=Option Addr×Nat,sh:=fun _ x=>[(4, .slice x.1 (qR g.i).length x.2)],inv:=fun _ _ x w=>Made w00 w 3 1 x.1 (qR g.i).length ((qR g.i).map (Value.int .i64)) x.2})]
  loops:=[(2,{
    X:=Nat×Option Addr×Nat
    sh:=fun _ x=>[(11, .int .i64 x.1),(4, .slice x.2.1 (1+(qN g.i x.1).length) x.2.2)]
    inv:=fun _ _ x w=>x.1<=4/\Made w00 w 3 1 x.2.1 (1+(qN g.i x.1).length) (([0]++qN g.i x.1).map (Value.int .i64)) x.2.2
    mu:=fun _ _ x _=>4 - x.1})]
structure GTell where
  p:TeP
  t:Te
  i:Nat
  c:Ce
def znF:CallSpec where
  G:=GTell
  args:=fun g=> #[.pointer (some ⟨g.p.q,0,none⟩), .int .i64 g.i,ceA g.c]
  pre:=fun g w=>TeIn w g.p g.t/\teOk g.t/\g.i<=1048576/\g.c.st<65536/\g.t.b.size<=536000000/\g.c.t.size<=16777216/\g.t.last.size<=16777216
  X:=TeP
  res:=fun _=> .tuple #[]
  post:=fun g w x w'=>TeOut w w' g.p x (Qq g.t g.i g.c)
def zl6:List (Nat×CallSpec):=[(26,Q8),(38,zko),(34,zkk),(50,zc0 Q4 QB),(44,sSN qW),(25,zbp)]
def zbP(g:GTell)(w00:World)(t:Te)(x:TeP×Nat)(w:World):Prop:=TeOut w00 w g.p x.1 t/\w.heap[x.2]? =some (.cells #[.string g.c.t, .int .i8 g.c.p, .int .i64 g.c.a, .int .i64 g.c.n, .bool g.c.r, .int .u16 g.c.st] 52)
def zqX(g:GTell)(w00:World)(t:Te):CutAnn:={X:=TeP×Nat,sh:=fun _ x=>[(5, .pointer (some ⟨x.2,0,none⟩))],inv:=fun _ _ x w=>zbP g w00 t x w}
def zwt(g:GTell)(w00:World):Ann where
  sp:=zl6
  cuts:=[(2,3,zqX g w00 (te1 g.t g.i)),(4,5,zqX g w00 (te2 (te1 g.t g.i) g.c.st)),(6,8,zqX g w00 (te3 (te2 (te1 g.t g.i) g.c.st) g.i (zL g.c)))]
end

section
open Go Go.RowKit Vc Ut Tb Cl
structure GlP where
  B:Nat
  p:Nat
  ca:Option Addr
  cc:Nat
  rb:Nat
  na:Option Addr
  nc:Nat
def glV(A:GlP)(g:Gs):Array Value:= #[.int .i64 g.w, .int .i64 g.h, .bool g.wd, .slice A.ca g.cs.length A.cc, .int .i64 g.x, .int .i64 g.y, .bool g.hid, .int .u16 g.sty, .int .i64 g.last, .pointer (some ⟨A.rb,0,none⟩), .int .i64 g.stt, .slice A.na g.num.length A.nc, .bool g.asked, .bool g.void]
def own(A:GlP)(q:Nat):Prop:=q=A.p\/zV A.ca=some q\/zV A.na=some q
structure GlIn(w:World)(A:GlP)(g:Gs):Prop where
  box:w.heap[A.p]? =some (.cells (glV A g) 65)
  row:Row w 52 6 A.ca g.cs.length (qn g.cs) A.cc
  num:Row w 3 1 A.na g.num.length (g.num.map (Value.int .i64)) A.nc
  nil:g.num=[]->A.na=none
  bq:∀q,own A q->A.B<=q
  bw:A.B<=w.heap.size
  u:UDB A.B w
structure GlOut(w w':World)(A A':GlP)(g':Gs):Prop where
  is:GlIn w' A' g'
  p:A'.p=A.p
  b:A'.B=A.B
  rb:A'.rb=A.rb
  st:Step (own A) w w' (own A')
structure fitG(g:Gs):Prop where
  w:g.w<=1024
  h:g.h<=1024
  len:g.cs.length=g.w*g.h
  x:g.x<=2048
  y:g.y<=2048
  sty:g.sty<65536
  st:∀c∈g.cs,c.st<65536
  num:∀n∈g.num, -1<=n/\n<=9999
  numl:g.num.length<=1099511627776
  last:g.last<=g.cs.length
structure GGl where
  A:GlP
  g:Gs
def zgw:CallSpec where
  G:=GGl
  args:=fun g=> #[.pointer (some ⟨g.A.p,0,none⟩)]
  pre:=fun g w=>GlIn w g.A g.g/\fitG g.g
  X:=GlP
  res:=fun _=> .tuple #[]
  post:=fun g w x w'=>GlOut w w' g.A x (qq g.g)
def zgv:CallSpec where
  G:=GGl
  args:=fun g=> #[.pointer (some ⟨g.A.p,0,none⟩)]
  pre:=fun g w=>GlIn w g.A g.g/\fitG g.g
  X:=GlP
  res:=fun _=> .tuple #[]
  post:=fun g w x w'=>GlOut w w' g.A x (zZ g.g)
structure GLy where
  A:GlP
  g:Gs
  i:Nat
  c:Ce
def Z6(g:Gs)(i:Nat)(c:Ce):Gs:={g with cs:=zC g.cs g.w i c}
def zbI(g:Gs)(i:Nat):Prop:=i<g.cs.length/\0<g.w/\((zg g.cs i).p=1->0<i)/\((i+1)%g.w≠0->i+1<g.cs.length)
def zkp:CallSpec where
  G:=GLy
  args:=fun g=> #[.pointer (some ⟨g.A.p,0,none⟩), .int .i64 g.i,ceA g.c]
  pre:=fun g w=>GlIn w g.A g.g/\fitG g.g/\zbI g.g g.i
  X:=GlP
  res:=fun _=> .tuple #[]
  post:=fun g w x w'=>GlOut w w' g.A x (Z6 g.g g.i g.c)
def zhF(l:List Ce)(w i:Nat):List Ce:=if(zg l i).p=1 then l.set (i - 1) (zr (zg l (i - 1)).st)else if(i+1)%w≠0/\(zg l (i+1)).p=1 then l.set (i+1) (zr (zg l (i+1)).st)else l
def Qz(g:Gs)(i:Nat):Gs:={g with cs:=zhF g.cs g.w i}
def zwC(g:GLy)(w00:World):Ann where
  sp:=[]
  cuts:=[(2,5,{X:=GlP×Nat,sh:=fun _ x=>[(5, .pointer (some ⟨x.2,0,none⟩))],inv:=fun _ _ x w=>GlOut w00 w g.A x.1 (Qz g.g g.i)/\w.heap[x.2]? =some (.cells #[.string g.c.t, .int .i8 g.c.p, .int .i64 g.c.a, .int .i64 g.c.n, .bool g.c.r, .int .u16 g.c.st] 52)})]
structure GHo where
  A:GlP
  g:Gs
  r:Int
  f:Bool
def zjf:CallSpec where
  G:=GHo
  args:=fun g=> #[.pointer (some ⟨g.A.p,11,none⟩), .int .i32 g.r, .bool g.f]
  pre:=fun g w=>GlIn w g.A g.g/\fitG g.g/\g.g.num≠[]
  X:=GlP
  res:=fun _=> .tuple #[]
  post:=fun g w x w'=>GlOut w w' g.A x (qp g.g g.r g.f)
structure GNmG where
  b:Nat
  a:Option Addr
  c:Nat
  l:List Int
  i:Nat
def znL:CallSpec where
  G:=GNmG
  args:=fun g=> #[.int .i64 g.i, .pointer (some ⟨g.b,0,none⟩)]
  pre:=fun g w=>w.heap[g.b]? =some (.cells #[.slice g.a g.l.length g.c] 61)/\CellsAt w g.a (g.l.map (Value.int .i64))
  X:=Int
  res:=fun x=> .int .i64 x
  post:=fun g w x w'=>x=zS g.l g.i/\w'=w
def zaW(g:Gs)(s:Nat):Gs:={g with sty:=s}
def zi4:CallSpec where
  G:=GGl
  args:=fun g=> #[.pointer (some ⟨g.A.p,0,none⟩), .slice g.A.na g.g.num.length g.A.nc]
  pre:=fun g w=>GlIn w g.A g.g/\fitG g.g
  X:=GlP
  res:=fun _=> .tuple #[]
  post:=fun g w x w'=>GlOut w w' g.A x (zaW g.g (Zl g.g.num g.g.sty))
structure WgX where
  k:Nat
  a:Option Addr
  c:Nat
  s:Nat
def wgI(g:GGl)(w00:World)(x:WgX)(w:World):Prop:=x.k<=g.g.num.length/\GlOut w00 w g.A g.A (zaW g.g x.s)/\x.s<65536/\CellsAt w x.a ((g.g.num.drop x.k).map (Value.int .i64))/\zV x.a=zV g.A.na/\g.g.num.length - x.k<=x.c/\zK (g.g.num.length - x.k) (g.g.num.drop x.k) x.s=Zl g.g.num g.g.sty
def ZD(v:Value):Nat:=match v with| .slice _ n _=>n|_=>0
def wgJ(g:GGl)(w00:World)(x:WgX)(w:World):Prop:=x.k<g.g.num.length/\GlOut w00 w g.A g.A (zaW g.g x.s)/\x.s<65536/\CellsAt w x.a ((g.g.num.drop x.k).map (Value.int .i64))/\zV x.a=zV g.A.na/\g.g.num.length - x.k<=x.c/\zK (g.g.num.length - (x.k+1)) (g.g.num.drop (x.k+1)) x.s=Zl g.g.num g.g.sty
def ztP(g:GGl)(w00:World):Ann where
  sp:=[]
  cuts:=[(8,8,{X:=Nat,sh:=fun _ x=>[(4, .int .i64 x),(11, .int .i64 x),(27, .bool ((x:Int)==3))],inv:=fun e w0 x w=>w=w0/\gi e 4=(x:Int)}),(2,21,{X:=WgX,sh:=fun _ x=>[(1, .slice x.a (g.g.num.length - x.k) x.c)],inv:=fun e _ x w=>wgJ g w00 x w/\g.g.num.length - x.k<=ZD (gv e 1)})]
  loops:=[(0,{
    X:=WgX
    sh:=fun _ x=>[(1, .slice x.a (g.g.num.length - x.k) x.c)]
    inv:=fun _ _ x w=>wgI g w00 x w
    mu:=fun _ _ x _=>g.g.num.length - x.k})]
structure GDs where
  A:GlP
  g:Gs
  r:Int
def ziY:List (Nat×CallSpec):=[(85,znL),(63,zgw),(86,zi4)]
def zji:CallSpec where
  G:=GDs
  args:=fun g=> #[.pointer (some ⟨g.A.p,0,none⟩), .int .i32 g.r]
  pre:=fun g w=>GlIn w g.A g.g/\fitG g.g
  X:=GlP
  res:=fun _=> .tuple #[]
  post:=fun g w x w'=>GlOut w w' g.A x (zH g.g g.r)
end

section
set_option linter.unusedVariables false
open Go Go.RowKit Vc Ut Tb Cl
open Value
set_option maxRecDepth 1000000
theorem ztM(hsp:zf Tryz.prog [])(h:∀(g:GGl) (w:World),GlIn w g.A g.g/\fitG g.g->∀w1,Drew w w1->zv w g.A.p 4 fun n=>zv w g.A.p 0 fun n1=>zc (decide (n>=n1)) (zv w1 g.A.p 0 fun n2=>InR .i64 (n2 - 1)/\zp w1 g.A.p 4 (int .i64 (if(0:Int)>n2 - 1 then(0:Int)else n2 - 1)) fun w11=>∃(x:GlP),tuple #[]=tuple #[]/\GlOut w w11 g.A x (qq g.g)) (∃(x:GlP),tuple #[]=tuple #[]/\GlOut w w1 g.A x (qq g.g))):zgw.Ok Tryz.prog 63:=ze zgw (zI []) [] (fun _ _=>rfl) (fun _ _=>rfl) hsp Tryz.func63 rfl (n:=1) (fun _=>rfl) (by kernel_rfl) (zj (by kernel_rfl) h)
theorem ztj(hsp:zf Tryz.prog [])(h:∀(g:GGl) (w:World),GlIn w g.A g.g/\fitG g.g->∀w1,Drew w w1->zv w g.A.p 5 fun n=>InR .i64 (n+1)/\zv w g.A.p 1 fun n1=>zc (decide (n+1<n1)) (zv w1 g.A.p 5 fun n2=>InR .i64 (n2+1)/\zp w1 g.A.p 5 (int .i64 (n2+1)) fun w11=>∃(x:GlP),tuple #[]=tuple #[]/\GlOut w w11 g.A x (zZ g.g)) (∀w11,Drew w1 w11->qY w1 g.A.p 3 fun a3 n2 c=>qY w1 g.A.p 3 fun a4 n3 c1=>zv w1 g.A.p 0 fun n4=>qY w1 g.A.p 3 fun a5 n5 c2=>∃(ln:Nat),(if(n5:Int)<n4 then(n5:Int)else n4)=(ln:Int)/\ln<=n3/\∀(ad':Option Addr),SlAt a4 ad' c1 ln 6->∃(n6:Nat) (w':World),zcF Tryz.prog #[22,22] 3 (slice a3 n2 c) (slice ad' (n3 - ln) (c1 - ln)) w11 n6 w'/\KO w11 w'/\∀w12,Drew w' w12->qY w' g.A.p 3 fun a8 n7 c3=>qY w' g.A.p 3 fun a9 n8 c4=>zv w' g.A.p 0 fun n9=>InR .i64 ((n8:Int) - n9)/\∃(ln1:Nat),(if(0:Int)>(n8:Int) - n9 then(0:Int)else(n8:Int) - n9)=(ln1:Int)/\ln1<=n7/\∀(ad'1:Option Addr),SlAt a8 ad'1 c3 ln1 6->∃(w'1:World),Sem.run Tryz.prog (Builtin.clear_ #[22] 0 #[slice ad'1 (n7 - ln1) (c3 - ln1)]) w12=Result.ok (tuple #[]) w'1/\KO w12 w'1/\∃(x:GlP),tuple #[]=tuple #[]/\GlOut w w'1 g.A x (zZ g.g))):zgv.Ok Tryz.prog 64:=ze zgv (zI []) [] (fun _ _=>rfl) (fun _ _=>rfl) hsp Tryz.func64 rfl (n:=1) (fun _=>rfl) (by kernel_rfl) (zj (by kernel_rfl) h)
theorem zvu(hsp:zf Tryz.prog [])(h:∀(g:GLy) (w:World),GlIn w g.A g.g/\fitG g.g/\zbI g.g g.i->∀b w1,New w (Obj.cells #[string g.c.t,int .i8 g.c.p,int .i64 g.c.a,int .i64 g.c.n,bool g.c.r,int .u16 (g.c.st:Int)] 52) b w1->qY w1 g.A.p 3 fun a2 n c=>qa (g.i:Int) n fun k=>zn a2 fun(b1 o:Nat)=>LdT w1 b1 (o+k*6) fun s=>zY w1 .i8 b1 (o+k*6+1) fun n1=>zv w1 b1 (o+k*6+2) fun n2=>zv w1 b1 (o+k*6+3) fun n3=>ZL w1 b1 (o+k*6+4) fun b2=>zY w1 .u16 b1 (o+k*6+5) fun n4=>∀b3 w11,New w1 (Obj.cells #[string s,int .i8 n1,int .i64 n2,int .i64 n3,bool b2,int .u16 n4] 52) b3 w11->(zY w11 .i8 b3 1 fun n5=>zc (n5==1) (∀w12,Drew w11 w12->qY w11 g.A.p 3 fun a5 n6 c1=>InR .i64 ((g.i:Int) - 1)/\qY w11 g.A.p 3 fun a6 n7 c2=>InR .i64 ((g.i:Int) - 1)/\qa ((g.i:Int) - 1) n7 fun k1=>zn a6 fun(b4 o1:Nat)=>zY w11 .u16 b4 (o1+k1*6+5) fun n8=>qa ((g.i:Int) - 1) n6 fun k2=>zn a5 fun(b5 o2:Nat)=>zp w12 b5 (o2+k2*6) (string (ByteArray.mk #[])) fun w13=>zp w13 b5 (o2+k2*6+1) (int .i8 0) fun w14=>zp w14 b5 (o2+k2*6+2) (int .i64 0) fun w15=>zp w15 b5 (o2+k2*6+3) (int .i64 0) fun w16=>zp w16 b5 (o2+k2*6+4) (bool false) fun w17=>zp w17 b5 (o2+k2*6+5) (int .u16 n8) fun w18=>∃(c3:GlP×Nat),pointer (some ⟨b,0,none⟩)=pointer (some ⟨c3.snd,0,none⟩)/\GlOut w w18 g.A c3.fst (Qz g.g g.i)/\w18.heap[c3.snd]? =some (Obj.cells #[string g.c.t,int .i8 g.c.p,int .i64 g.c.a,int .i64 g.c.n,bool g.c.r,int .u16 (g.c.st:Int)] (52:TypeId))) (InR .i64 ((g.i:Int)+1)/\zv w11 g.A.p 0 fun n6=>(0:Int)<=(g.i:Int)+1/\(0:Int)<n6/\zc (((g.i:Int)+1)%n6 !=0) (qY w11 g.A.p 3 fun a4 n7 c1=>InR .i64 ((g.i:Int)+1)/\qa ((g.i:Int)+1) n7 fun k1=>zn a4 fun(b4 o1:Nat)=>zY w11 .i8 b4 (o1+k1*6+1) fun n8=>zc (n8==1) (∀w12,Drew w11 w12->qY w11 g.A.p 3 fun a6 n9 c2=>InR .i64 ((g.i:Int)+1)/\qY w11 g.A.p 3 fun a7 n10 c3=>InR .i64 ((g.i:Int)+1)/\qa ((g.i:Int)+1) n10 fun k2=>zn a7 fun(b5 o2:Nat)=>zY w11 .u16 b5 (o2+k2*6+5) fun n11=>qa ((g.i:Int)+1) n9 fun k3=>zn a6 fun(b6 o3:Nat)=>zp w12 b6 (o3+k3*6) (string (ByteArray.mk #[])) fun w13=>zp w13 b6 (o3+k3*6+1) (int .i8 0) fun w14=>zp w14 b6 (o3+k3*6+2) (int .i64 0) fun w15=>zp w15 b6 (o3+k3*6+3) (int .i64 0) fun w16=>zp w16 b6 (o3+k3*6+4) (bool false) fun w17=>zp w17 b6 (o3+k3*6+5) (int .u16 n11) fun w18=>∃(c4:GlP×Nat),pointer (some ⟨b,0,none⟩)=pointer (some ⟨c4.snd,0,none⟩)/\GlOut w w18 g.A c4.fst (Qz g.g g.i)/\w18.heap[c4.snd]? =some (Obj.cells #[string g.c.t,int .i8 g.c.p,int .i64 g.c.a,int .i64 g.c.n,bool g.c.r,int .u16 (g.c.st:Int)] (52:TypeId))) (∃(c2:GlP×Nat),pointer (some ⟨b,0,none⟩)=pointer (some ⟨c2.snd,0,none⟩)/\
 GlOut w w11 g.A c2.fst (Qz g.g g.i)/\w11.heap[c2.snd]? =some (Obj.cells #[string g.c.t,int .i8 g.c.p,int .i64 g.c.a,int .i64 g.c.n,bool g.c.r,int .u16 (g.c.st:Int)] (52:TypeId)))) (∃(c1:GlP×Nat),pointer (some ⟨b,0,none⟩)=pointer (some ⟨c1.snd,0,none⟩)/\GlOut w w11 g.A c1.fst (Qz g.g g.i)/\w11.heap[c1.snd]? =some (Obj.cells #[string g.c.t,int .i8 g.c.p,int .i64 g.c.a,int .i64 g.c.n,bool g.c.r,int .u16 (g.c.st:Int)] (52:TypeId)))))/\∀(u:Nat->Value) (c1:GlP×Nat) w',GlOut w w' g.A c1.fst (Qz g.g g.i)/\w'.heap[c1.snd]? =some (Obj.cells #[string g.c.t,int .i8 g.c.p,int .i64 g.c.a,int .i64 g.c.n,bool g.c.r,int .u16 (g.c.st:Int)] (52:TypeId))->∀w12,Drew w' w12->qY w' g.A.p 3 fun a6 n5 c2=>LdT w' c1.snd 0 fun s1=>zY w' .i8 c1.snd 1 fun n6=>zv w' c1.snd 2 fun n7=>zv w' c1.snd 3 fun n8=>ZL w' c1.snd 4 fun b4=>zY w' .u16 c1.snd 5 fun n9=>qa (g.i:Int) n5 fun k1=>zn a6 fun(b5 o1:Nat)=>zp w12 b5 (o1+k1*6) (string s1) fun w13=>zp w13 b5 (o1+k1*6+1) (int .i8 n6) fun w14=>zp w14 b5 (o1+k1*6+2) (int .i64 n7) fun w15=>zp w15 b5 (o1+k1*6+3) (int .i64 n8) fun w16=>zp w16 b5 (o1+k1*6+4) (bool b4) fun w17=>zp w17 b5 (o1+k1*6+5) (int .u16 n9) fun w18=>∃(x:GlP),tuple #[]=tuple #[]/\GlOut w w18 g.A x (Z6 g.g g.i g.c)):zkp.Ok Tryz.prog 89:=ze zkp zwC [] (fun _ _=>rfl) (fun _ _=>rfl) hsp Tryz.func89 rfl (n:=3) (fun _=>rfl) (by kernel_rfl) (zj (by kernel_rfl) h)
theorem zsM(hsp:zf Tryz.prog [])(h:∀(g:GHo) (w:World),GlIn w g.A g.g/\fitG g.g/\g.g.num≠[]->qY w g.A.p 11 fun a1 n c=>InR .i64 ((n:Int) - 1)/\zc (g.r==63&&g.f) (zp w g.A.p 12 (bool true) fun w1=>∃(x:GlP),tuple #[]=tuple #[]/\GlOut w w1 g.A x (qp g.g g.r g.f)) (zc (g.r==59) (qY w g.A.p 11 fun a2 n1 c1=>∀b w1,New w (Obj.cells #[int .i64 (-1:Int)] 3) b w1->∃(a':Option Addr) (c':Nat) (w':World),zt Tryz.prog #[61,61] 61 (slice a2 n1 c1) (slice (some ⟨b,0,none⟩) 1 1) w1 a' (n1+1) c' w'/\KO w1 w'/\zp w' g.A.p 11 (slice a' (n1+1) c') fun w11=>∃(x:GlP),tuple #[]=tuple #[]/\GlOut w w11 g.A x (qp g.g g.r g.f)) (zc (decide (g.r>=48)&&decide (g.r<=57)) (∀w1,Drew w w1->qY w g.A.p 11 fun a3 n1 c1=>qY w g.A.p 11 fun a4 n2 c2=>qa ((n:Int) - 1) n2 fun k=>zn a4 fun(b o:Nat)=>zv w b (o+k) fun n3=>InR .i64 ((if(0:Int)>n3 then(0:Int)else n3)*10)/\InR .i32 (g.r - 48)/\InR .i64 (g.r - 48)/\Below w1.heap.size w1 w1/\InR .i64 ((if(0:Int)>n3 then(0:Int)else n3)*10+(g.r - 48))/\qa ((n:Int) - 1) n1 fun k1=>zn a3 fun(b1 o1:Nat)=>zp w1 b1 (o1+k1) (int IntKind.i64 (if(9999:Int)<(if(0:Int)>n3 then(0:Int)else n3)*10+(g.r - 48)then(9999:Int)else(if(0:Int)>n3 then(0:Int)else n3)*10+(g.r - 48))) fun w11=>∃(x:GlP),tuple #[]=tuple #[]/\GlOut w w11 g.A x (qp g.g g.r g.f)) (zp w g.A.p 13 (bool true) fun w1=>∃(x:GlP),tuple #[]=tuple #[]/\GlOut w w1 g.A x (qp g.g g.r g.f))))):zjf.Ok Tryz.prog 59:=ze zjf (zI []) [] (fun _ _=>rfl) (fun _ _=>rfl) hsp Tryz.func59 rfl (n:=3) (fun _=>rfl) (by kernel_rfl) (zj (by kernel_rfl) h)
theorem zvj(hsp:zf Tryz.prog [])(h:∀(g:GNmG) (w:World),w.heap[g.b]? =some (Obj.cells #[slice g.a g.l.length g.c] (61:TypeId))/\CellsAt w g.a (List.map (int IntKind.i64) g.l)->qY w g.b 0 fun a1 n c=>zc (decide ((g.i:Int)<(n:Int))) (qY w g.b 0 fun a2 n1 c1=>qa (g.i:Int) n1 fun k=>zn a2 fun(b o:Nat)=>zv w b (o+k) fun n2=>∃(x:Int),int .i64 n2=int .i64 x/\x=zS g.l g.i/\w=w) (∃(x:Int),int .i64 (-1:Int)=int .i64 x/\x=zS g.l g.i/\w=w)):znL.Ok Tryz.prog 85:=ze znL (zI []) [] (fun _ _=>rfl) (fun _ _=>rfl) hsp Tryz.func85 rfl (n:=2) (fun _=>rfl) (by kernel_rfl) (zj (by kernel_rfl) h)
theorem zqL(hsp:zf Tryz.prog [])(h:∀(g:GGl) (w:World),GlIn w g.A g.g/\fitG g.g->(∃(x:WgX),slice g.A.na g.g.num.length g.A.nc=slice x.a (g.g.num.length - x.k) x.c/\wgI g w x w)/\∀(u:Nat->Value) (x:WgX) w',wgI g w x w'->zc (decide ((↑(g.g.num.length - x.k):Int)>0)) (qa (0:Int) (g.g.num.length - x.k) fun k=>zn x.a fun(b o:Nat)=>zv w' b (o+k) fun n=>zc (n==(-1:Int)||n==0) (zp w' g.A.p 7 (int .u16 0) fun w1=>∃(c:WgX),slice x.a (g.g.num.length - x.k) x.c=slice c.a (g.g.num.length - c.k) c.c/\wgJ g w c w1/\g.g.num.length - c.k<=ZD (slice x.a (g.g.num.length - x.k) x.c)) (zc (n==1) (zY w' .u16 g.A.p 7 fun n1=>zp w' g.A.p 7 (int IntKind.u16 (IntKind.u16.wrap (↑(BitVec.ofInt IntKind.u16.bits n1|||BitVec.ofInt IntKind.u16.bits (256:Int)).toNat:Int))) fun w1=>∃(c:WgX),slice x.a (g.g.num.length - x.k) x.c=slice c.a (g.g.num.length - c.k) c.c/\wgJ g w c w1/\g.g.num.length - c.k<=ZD (slice x.a (g.g.num.length - x.k) x.c)) ((∃(c:Nat),int .i64 n=int .i64 (c:Int)/\int .i64 n=int .i64 (c:Int)/\bool (n==3)=bool ((c:Int)==3)/\w'=w'/\n=(c:Int))/\∀(u1:Nat->Value) (c:Nat) w'1,w'1=w'/\n=(c:Int)->zc ((c:Int)==3||(c:Int)==4) (∀w1,Drew w'1 w1->zY w'1 .u16 g.A.p 7 fun n1=>InR .i64 ((6:Int)+(c:Int))/\zp w1 g.A.p 7 (int IntKind.u16 (IntKind.u16.wrap (↑(BitVec.ofInt IntKind.u16.bits n1|||BitVec.ofInt IntKind.u16.bits (IntKind.u16.wrap ((1:Int)*2^min ((6:Int)+(c:Int)).toNat IntKind.u16.bits))).toNat:Int))) fun w11=>∃(c1:WgX),slice x.a (g.g.num.length - x.k) x.c=slice c1.a (g.g.num.length - c1.k) c1.c/\wgJ g w c1 w11/\g.g.num.length - c1.k<=ZD (slice x.a (g.g.num.length - x.k) x.c)) (zc ((c:Int)==7) (zY w'1 .u16 g.A.p 7 fun n1=>zp w'1 g.A.p 7 (int IntKind.u16 (IntKind.u16.wrap (↑(BitVec.ofInt IntKind.u16.bits n1|||BitVec.ofInt IntKind.u16.bits (2048:Int)).toNat:Int))) fun w1=>∃(c1:WgX),slice x.a (g.g.num.length - x.k) x.c=slice c1.a (g.g.num.length - c1.k) c1.c/\wgJ g w c1 w1/\g.g.num.length - c1.k<=ZD (slice x.a (g.g.num.length - x.k) x.c)) (zc ((c:Int)==38||(c:Int)==48) (zc (decide ((↑(g.g.num.length - x.k):Int)<3)) (∃(c1:WgX),slice x.a (g.g.num.length - x.k) x.c=slice c1.a (g.g.num.length - c1.k) c1.c/\wgJ g w c1 w'1/\g.g.num.length - c1.k<=ZD (slice x.a (g.g.num.length - x.k) x.c)) (qa (1:Int) (g.g.num.length - x.k) fun k1=>zn x.a fun(b1 o1:Nat)=>zv w'1 b1 (o1+k1) fun n1=>zc (n1 !=5) (∃(c1:WgX),slice x.a (g.g.num.length - x.k) x.c=slice c1.a (g.g.num.length - c1.k) c1.c/\wgJ g w c1 w'1/\g.g.num.length - c1.k<=ZD (slice x.a (g.g.num.length - x.k) x.c)) (qa (2:Int) (g.g.num.length - x.k) fun k2=>zn x.a fun(b2 o2:Nat)=>zv w'1 b2 (o2+k2) fun n2=>zc (decide (n2<0)) (∃(c1:WgX),
 slice x.a (g.g.num.length - x.k) x.c=slice c1.a (g.g.num.length - c1.k) c1.c/\wgJ g w c1 w'1/\g.g.num.length - c1.k<=ZD (slice x.a (g.g.num.length - x.k) x.c)) (zc ((c:Int)==38) (qa (2:Int) (g.g.num.length - x.k) fun k3=>zn x.a fun(b3 o3:Nat)=>zv w'1 b3 (o3+k3) fun n3=>zc (decide (n3>255)) (∃(c1:WgX),slice x.a (g.g.num.length - x.k) x.c=slice c1.a (g.g.num.length - c1.k) c1.c/\wgJ g w c1 w'1/\g.g.num.length - c1.k<=ZD (slice x.a (g.g.num.length - x.k) x.c)) (zc ((c:Int)==48) (qa (2:Int) (g.g.num.length - x.k) fun k4=>zn x.a fun(b4 o4:Nat)=>zv w'1 b4 (o4+k4) fun n4=>zc (decide (n4>15)) (∃(c1:WgX),slice x.a (g.g.num.length - x.k) x.c=slice c1.a (g.g.num.length - c1.k) c1.c/\wgJ g w c1 w'1/\g.g.num.length - c1.k<=ZD (slice x.a (g.g.num.length - x.k) x.c)) (zc ((c:Int)==38) (zY w'1 .u16 g.A.p 7 fun n5=>zp w'1 g.A.p 7 (int IntKind.u16 (IntKind.u16.wrap (↑(BitVec.ofInt IntKind.u16.bits n5&&& ~~~BitVec.ofInt IntKind.u16.bits (255:Int)).toNat:Int))) fun w1=>∀w11,Drew w1 w11->zY w1 .u16 g.A.p 7 fun n6=>qa (2:Int) (g.g.num.length - x.k) fun k5=>zn x.a fun(b5 o5:Nat)=>zv w1 b5 (o5+k5) fun n7=>InR .u16 n7/\Below w11.heap.size w11 w11/\zp w11 g.A.p 7 (int IntKind.u16 (IntKind.u16.wrap (↑(BitVec.ofInt IntKind.u16.bits n6|||BitVec.ofInt IntKind.u16.bits n7).toNat:Int))) fun w12=>∃(ln:Nat),(2:Int)=(ln:Int)/\ln<=g.g.num.length - x.k/\∀(ad':Option Addr),SlAt x.a ad' x.c ln 1->∃(c1:WgX),slice ad' (g.g.num.length - x.k - ln) (x.c - ln)=slice c1.a (g.g.num.length - c1.k) c1.c/\wgJ g w c1 w12/\g.g.num.length - c1.k<=ZD (slice x.a (g.g.num.length - x.k) x.c)) (zY w'1 .u16 g.A.p 7 fun n5=>zp w'1 g.A.p 7 (int IntKind.u16 (IntKind.u16.wrap (↑(BitVec.ofInt IntKind.u16.bits n5&&&BitVec.ofInt IntKind.u16.bits (4095:Int)).toNat:Int))) fun w1=>∀w11,Drew w1 w11->zY w1 .u16 g.A.p 7 fun n6=>qa (2:Int) (g.g.num.length - x.k) fun k5=>zn x.a fun(b5 o5:Nat)=>zv w1 b5 (o5+k5) fun n7=>InR .u16 n7/\Below w11.heap.size w11 w11/\zp w11 g.A.p 7 (int IntKind.u16 (IntKind.u16.wrap (↑(BitVec.ofInt IntKind.u16.bits n6|||BitVec.ofInt IntKind.u16.bits (IntKind.u16.wrap (n7*2^min (Int.toNat (12:Int)) IntKind.u16.bits))).toNat:Int))) fun w12=>∃(ln:Nat),(2:Int)=(ln:Int)/\ln<=g.g.num.length - x.k/\∀(ad':Option Addr),SlAt x.a ad' x.c ln 1->∃(c1:WgX),slice ad' (g.g.num.length - x.k - ln) (x.c - ln)=slice c1.a (g.g.num.length - c1.k) c1.c/\wgJ g w c1 w12/\g.g.num.length - c1.k<=ZD (slice x.a (g.g.num.length - x.k) x.c)))) (zc ((c:Int)==38) (zY w'1 .u16 g.A.p 7 fun n4=>zp w'1 g.A.p 7 (int IntKind.u16 (IntKind.u16.wrap (↑(BitVec.ofInt IntKind.u16.bits n4&&& ~~~BitVec.ofInt IntKind.u16.bits (255:Int)).toNat:Int))) fun w1=>∀w11,Drew w1 w11->zY w1 .u16 g.A.p 7 fun n5=>qa (2:Int) (g.g.num.length - x.k) fun k4=>
 zn x.a fun(b4 o4:Nat)=>zv w1 b4 (o4+k4) fun n6=>InR .u16 n6/\Below w11.heap.size w11 w11/\zp w11 g.A.p 7 (int IntKind.u16 (IntKind.u16.wrap (↑(BitVec.ofInt IntKind.u16.bits n5|||BitVec.ofInt IntKind.u16.bits n6).toNat:Int))) fun w12=>∃(ln:Nat),(2:Int)=(ln:Int)/\ln<=g.g.num.length - x.k/\∀(ad':Option Addr),SlAt x.a ad' x.c ln 1->∃(c1:WgX),slice ad' (g.g.num.length - x.k - ln) (x.c - ln)=slice c1.a (g.g.num.length - c1.k) c1.c/\wgJ g w c1 w12/\g.g.num.length - c1.k<=ZD (slice x.a (g.g.num.length - x.k) x.c)) (zY w'1 .u16 g.A.p 7 fun n4=>zp w'1 g.A.p 7 (int IntKind.u16 (IntKind.u16.wrap (↑(BitVec.ofInt IntKind.u16.bits n4&&&BitVec.ofInt IntKind.u16.bits (4095:Int)).toNat:Int))) fun w1=>∀w11,Drew w1 w11->zY w1 .u16 g.A.p 7 fun n5=>qa (2:Int) (g.g.num.length - x.k) fun k4=>zn x.a fun(b4 o4:Nat)=>zv w1 b4 (o4+k4) fun n6=>InR .u16 n6/\Below w11.heap.size w11 w11/\zp w11 g.A.p 7 (int IntKind.u16 (IntKind.u16.wrap (↑(BitVec.ofInt IntKind.u16.bits n5|||BitVec.ofInt IntKind.u16.bits (IntKind.u16.wrap (n6*2^min (Int.toNat (12:Int)) IntKind.u16.bits))).toNat:Int))) fun w12=>∃(ln:Nat),(2:Int)=(ln:Int)/\ln<=g.g.num.length - x.k/\∀(ad':Option Addr),SlAt x.a ad' x.c ln 1->∃(c1:WgX),slice ad' (g.g.num.length - x.k - ln) (x.c - ln)=slice c1.a (g.g.num.length - c1.k) c1.c/\wgJ g w c1 w12/\g.g.num.length - c1.k<=ZD (slice x.a (g.g.num.length - x.k) x.c))))) (zc ((c:Int)==48) (qa (2:Int) (g.g.num.length - x.k) fun k3=>zn x.a fun(b3 o3:Nat)=>zv w'1 b3 (o3+k3) fun n3=>zc (decide (n3>15)) (∃(c1:WgX),slice x.a (g.g.num.length - x.k) x.c=slice c1.a (g.g.num.length - c1.k) c1.c/\wgJ g w c1 w'1/\g.g.num.length - c1.k<=ZD (slice x.a (g.g.num.length - x.k) x.c)) (zc ((c:Int)==38) (zY w'1 .u16 g.A.p 7 fun n4=>zp w'1 g.A.p 7 (int IntKind.u16 (IntKind.u16.wrap (↑(BitVec.ofInt IntKind.u16.bits n4&&& ~~~BitVec.ofInt IntKind.u16.bits (255:Int)).toNat:Int))) fun w1=>∀w11,Drew w1 w11->zY w1 .u16 g.A.p 7 fun n5=>qa (2:Int) (g.g.num.length - x.k) fun k4=>zn x.a fun(b4 o4:Nat)=>zv w1 b4 (o4+k4) fun n6=>InR .u16 n6/\Below w11.heap.size w11 w11/\zp w11 g.A.p 7 (int IntKind.u16 (IntKind.u16.wrap (↑(BitVec.ofInt IntKind.u16.bits n5|||BitVec.ofInt IntKind.u16.bits n6).toNat:Int))) fun w12=>∃(ln:Nat),(2:Int)=(ln:Int)/\ln<=g.g.num.length - x.k/\∀(ad':Option Addr),SlAt x.a ad' x.c ln 1->∃(c1:WgX),slice ad' (g.g.num.length - x.k - ln) (x.c - ln)=slice c1.a (g.g.num.length - c1.k) c1.c/\wgJ g w c1 w12/\g.g.num.length - c1.k<=ZD (slice x.a (g.g.num.length - x.k) x.c)) (zY w'1 .u16 g.A.p 7 fun n4=>zp w'1 g.A.p 7 (int IntKind.u16 (IntKind.u16.wrap (↑(BitVec.ofInt IntKind.u16.bits n4&&&BitVec.ofInt IntKind.u16.bits (4095:Int)).toNat:Int))) fun w1=>∀w11,Drew w1 w11->zY w1 .u16 g.A.p 7 fun n5=>
 qa (2:Int) (g.g.num.length - x.k) fun k4=>zn x.a fun(b4 o4:Nat)=>zv w1 b4 (o4+k4) fun n6=>InR .u16 n6/\Below w11.heap.size w11 w11/\zp w11 g.A.p 7 (int IntKind.u16 (IntKind.u16.wrap (↑(BitVec.ofInt IntKind.u16.bits n5|||BitVec.ofInt IntKind.u16.bits (IntKind.u16.wrap (n6*2^min (Int.toNat (12:Int)) IntKind.u16.bits))).toNat:Int))) fun w12=>∃(ln:Nat),(2:Int)=(ln:Int)/\ln<=g.g.num.length - x.k/\∀(ad':Option Addr),SlAt x.a ad' x.c ln 1->∃(c1:WgX),slice ad' (g.g.num.length - x.k - ln) (x.c - ln)=slice c1.a (g.g.num.length - c1.k) c1.c/\wgJ g w c1 w12/\g.g.num.length - c1.k<=ZD (slice x.a (g.g.num.length - x.k) x.c)))) (zc ((c:Int)==38) (zY w'1 .u16 g.A.p 7 fun n3=>zp w'1 g.A.p 7 (int IntKind.u16 (IntKind.u16.wrap (↑(BitVec.ofInt IntKind.u16.bits n3&&& ~~~BitVec.ofInt IntKind.u16.bits (255:Int)).toNat:Int))) fun w1=>∀w11,Drew w1 w11->zY w1 .u16 g.A.p 7 fun n4=>qa (2:Int) (g.g.num.length - x.k) fun k3=>zn x.a fun(b3 o3:Nat)=>zv w1 b3 (o3+k3) fun n5=>InR .u16 n5/\Below w11.heap.size w11 w11/\zp w11 g.A.p 7 (int IntKind.u16 (IntKind.u16.wrap (↑(BitVec.ofInt IntKind.u16.bits n4|||BitVec.ofInt IntKind.u16.bits n5).toNat:Int))) fun w12=>∃(ln:Nat),(2:Int)=(ln:Int)/\ln<=g.g.num.length - x.k/\∀(ad':Option Addr),SlAt x.a ad' x.c ln 1->∃(c1:WgX),slice ad' (g.g.num.length - x.k - ln) (x.c - ln)=slice c1.a (g.g.num.length - c1.k) c1.c/\wgJ g w c1 w12/\g.g.num.length - c1.k<=ZD (slice x.a (g.g.num.length - x.k) x.c)) (zY w'1 .u16 g.A.p 7 fun n3=>zp w'1 g.A.p 7 (int IntKind.u16 (IntKind.u16.wrap (↑(BitVec.ofInt IntKind.u16.bits n3&&&BitVec.ofInt IntKind.u16.bits (4095:Int)).toNat:Int))) fun w1=>∀w11,Drew w1 w11->zY w1 .u16 g.A.p 7 fun n4=>qa (2:Int) (g.g.num.length - x.k) fun k3=>zn x.a fun(b3 o3:Nat)=>zv w1 b3 (o3+k3) fun n5=>InR .u16 n5/\Below w11.heap.size w11 w11/\zp w11 g.A.p 7 (int IntKind.u16 (IntKind.u16.wrap (↑(BitVec.ofInt IntKind.u16.bits n4|||BitVec.ofInt IntKind.u16.bits (IntKind.u16.wrap (n5*2^min (Int.toNat (12:Int)) IntKind.u16.bits))).toNat:Int))) fun w12=>∃(ln:Nat),(2:Int)=(ln:Int)/\ln<=g.g.num.length - x.k/\∀(ad':Option Addr),SlAt x.a ad' x.c ln 1->∃(c1:WgX),slice ad' (g.g.num.length - x.k - ln) (x.c - ln)=slice c1.a (g.g.num.length - c1.k) c1.c/\wgJ g w c1 w12/\g.g.num.length - c1.k<=ZD (slice x.a (g.g.num.length - x.k) x.c)))))))) (∃(c1:WgX),slice x.a (g.g.num.length - x.k) x.c=slice c1.a (g.g.num.length - c1.k) c1.c/\wgJ g w c1 w'1/\g.g.num.length - c1.k<=ZD (slice x.a (g.g.num.length - x.k) x.c))))))/\∀(u1:Nat->Value) (c:WgX) w'1,wgJ g w c w'1/\g.g.num.length - c.k<=ZD (slice x.a (g.g.num.length - x.k) x.c)->∃(ln:Nat),(1:Int)=(ln:Int)/\ln<=g.g.num.length - c.k/\∀(ad':Option Addr),SlAt c.a ad' c.c ln 1->∃(y:WgX),
 slice ad' (g.g.num.length - c.k - ln) (c.c - ln)=slice y.a (g.g.num.length - y.k) y.c/\wgI g w y w'1/\g.g.num.length - y.k<g.g.num.length - x.k) (∃(x1:GlP),tuple #[]=tuple #[]/\GlOut w w' g.A x1 (zaW g.g (Zl g.g.num g.g.sty)))):zi4.Ok Tryz.prog 86:=ze zi4 ztP [] (fun _ _=>rfl) (fun _ _=>rfl) hsp Tryz.func86 rfl (n:=2) (fun _=>rfl) (by kernel_rfl) (zj (by kernel_rfl) h)
theorem ztl(hsp:zf Tryz.prog ziY)(h:∀(g:GDs) (w:World),GlIn w g.A g.g/\fitG g.g->qY w g.A.p 11 fun a1 n c=>∀b w1,New w (Obj.cells #[slice none 0 0] 61) b w1->zp w1 b 0 (slice a1 n c) fun w11=>ZL w11 g.A.p 13 fun b1=>zc b1 (∃(x:GlP),tuple #[]=tuple #[]/\GlOut w w11 g.A x (zH g.g g.r)) (ZL w11 g.A.p 12 fun b2=>zc b2 (∃(g1:GNmG), #[int .i64 0,pointer (some ⟨b,0,none⟩)]= #[int .i64 (g1.i:Int),pointer (some ⟨g1.b,0,none⟩)]/\(w11.heap[g1.b]? =some (Obj.cells #[slice g1.a g1.l.length g1.c] (61:TypeId))/\CellsAt w11 g1.a (List.map (int IntKind.i64) g1.l))/\∀(x:Int) w',x=zS g1.l g1.i/\w'=w11->zc (x==25) (zc (g.r==104) (zp w' g.A.p 6 (bool (g.r==108)) fun w12=>∃(x1:GlP),tuple #[]=tuple #[]/\GlOut w w12 g.A x1 (zH g.g g.r)) (zc (g.r==108) (zp w' g.A.p 6 (bool (g.r==108)) fun w12=>∃(x1:GlP),tuple #[]=tuple #[]/\GlOut w w12 g.A x1 (zH g.g g.r)) (∃(x1:GlP),tuple #[]=tuple #[]/\GlOut w w' g.A x1 (zH g.g g.r)))) (∃(x1:GlP),tuple #[]=tuple #[]/\GlOut w w' g.A x1 (zH g.g g.r))) (zc (g.r==72) (∀w12,Drew w11 w12->zv w11 g.A.p 1 fun n1=>∃(g1:GNmG), #[int .i64 0,pointer (some ⟨b,0,none⟩)]= #[int .i64 (g1.i:Int),pointer (some ⟨g1.b,0,none⟩)]/\(w12.heap[g1.b]? =some (Obj.cells #[slice g1.a g1.l.length g1.c] (61:TypeId))/\CellsAt w12 g1.a (List.map (int IntKind.i64) g1.l))/\∀(x:Int) w',x=zS g1.l g1.i/\w'=w12->Below w12.heap.size w12 w'/\InR .i64 ((if n1<x then n1 else x) - 1)/\zp w' g.A.p 5 (int IntKind.i64 (if(0:Int)>(if n1<x then n1 else x) - 1 then(0:Int)else(if n1<x then n1 else x) - 1)) fun w13=>∀w14,Drew w13 w14->zv w13 g.A.p 0 fun n2=>∃(g2:GNmG), #[int .i64 1,pointer (some ⟨b,0,none⟩)]= #[int .i64 (g2.i:Int),pointer (some ⟨g2.b,0,none⟩)]/\(w14.heap[g2.b]? =some (Obj.cells #[slice g2.a g2.l.length g2.c] (61:TypeId))/\CellsAt w14 g2.a (List.map (int IntKind.i64) g2.l))/\∀(x1:Int) w'1,x1=zS g2.l g2.i/\w'1=w14->Below w14.heap.size w14 w'1/\InR .i64 ((if n2<x1 then n2 else x1) - 1)/\zp w'1 g.A.p 4 (int IntKind.i64 (if(0:Int)>(if n2<x1 then n2 else x1) - 1 then(0:Int)else(if n2<x1 then n2 else x1) - 1)) fun w15=>∃(x2:GlP),tuple #[]=tuple #[]/\GlOut w w15 g.A x2 (zH g.g g.r)) (zc (g.r==74) (∃(g1:GNmG), #[int .i64 0,pointer (some ⟨b,0,none⟩)]= #[int .i64 (g1.i:Int),pointer (some ⟨g1.b,0,none⟩)]/\(w11.heap[g1.b]? =some (Obj.cells #[slice g1.a g1.l.length g1.c] (61:TypeId))/\CellsAt w11 g1.a (List.map (int IntKind.i64) g1.l))/\∀(x:Int) w',x=zS g1.l g1.i/\w'=w11->zc (x==2) (qY w' g.A.p 3 fun a5 n1 c1=>∃(w'1:World),Sem.run Tryz.prog (Builtin.clear_ #[22] 0 #[slice a5 n1 c1]) w'=Result.ok (tuple #[]) w'1/\KO w' w'1/\∃(g2:GGl), #[pointer (some ⟨g.A.p,0,none⟩)]= #[pointer (some ⟨g2.A.p,0,none⟩)]/\(GlIn w'1 g2.A g2.g/\fitG g2.g)/\
 ∀(x1:GlP) w'2,GlOut w'1 w'2 g2.A x1 (qq g2.g)->∃(x2:GlP),tuple #[]=tuple #[]/\GlOut w w'2 g.A x2 (zH g.g g.r)) (zc (g.r==109) (qY w' b 0 fun a5 n1 c1=>∃(g2:GGl), #[pointer (some ⟨g.A.p,0,none⟩),slice a5 n1 c1]= #[pointer (some ⟨g2.A.p,0,none⟩),slice g2.A.na g2.g.num.length g2.A.nc]/\(GlIn w' g2.A g2.g/\fitG g2.g)/\∀(x1:GlP) w'1,GlOut w' w'1 g2.A x1 (zaW g2.g (Zl g2.g.num g2.g.sty))->∃(x2:GlP),tuple #[]=tuple #[]/\GlOut w w'1 g.A x2 (zH g.g g.r)) (∃(x1:GlP),tuple #[]=tuple #[]/\GlOut w w' g.A x1 (zH g.g g.r)))) (zc (g.r==109) (qY w11 b 0 fun a4 n1 c1=>∃(g1:GGl), #[pointer (some ⟨g.A.p,0,none⟩),slice a4 n1 c1]= #[pointer (some ⟨g1.A.p,0,none⟩),slice g1.A.na g1.g.num.length g1.A.nc]/\(GlIn w11 g1.A g1.g/\fitG g1.g)/\∀(x:GlP) w',GlOut w11 w' g1.A x (zaW g1.g (Zl g1.g.num g1.g.sty))->∃(x1:GlP),tuple #[]=tuple #[]/\GlOut w w' g.A x1 (zH g.g g.r)) (∃(x:GlP),tuple #[]=tuple #[]/\GlOut w w11 g.A x (zH g.g g.r))))))):zji.Ok Tryz.prog 60:=ze zji (zI ziY) ziY (fun _ _=>rfl) (fun _ _=>rfl) hsp Tryz.func60 rfl (n:=2) (fun _=>rfl) (by kernel_rfl) (zj (by kernel_rfl) h)
end

section
set_option linter.unusedVariables false
open Go Go.RowKit Vc Ut Tb Cl
open Value
set_option maxRecDepth 1000000
theorem zxt(hsp:zf Tryz.prog zq9)(h:∀(g:GSay) (w:World),(TeIn w g.p g.t/\Row w (3:TypeId) 1 g.la g.l.length (List.map (int IntKind.i64) g.l) g.lc/\g.t.b.size<=536870912/\g.l.length<=16/\∀(n:Int),n∈g.l->(-9223372036854775808:Int)<=n/\n<=9223372036854775807)->qY w g.p.q 0 fun a1 n c=>∀b w1,New w (Obj.cells #[int .u8 27,int .u8 91] 5) b w1->∃(a':Option Addr) (c':Nat) (w':World),zt Tryz.prog #[40,40] 40 (slice a1 n c) (slice (some ⟨b,0,none⟩) 2 2) w1 a' (n+2) c' w'/\KO w1 w'/\zp w' g.p.q 0 (slice a' (n+2) c') fun w11=>(∃(x:Nat×TeP),int .i64 0=int .i64 (x.fst:Int)/\x.fst<=g.l.length/\TeOut w w11 g.p x.snd (zdr g.t g.l x.fst))/\∀(u:Nat->Value) (x:Nat×TeP) w'1,x.fst<=g.l.length/\TeOut w w'1 g.p x.snd (zdr g.t g.l x.fst)->zc (decide ((x.fst:Int)<(g.l.length:Int))) (qa (x.fst:Int) g.l.length fun k=>zn g.la fun(b1 o:Nat)=>zv w'1 b1 (o+k) fun n1=>zc (decide ((x.fst:Int)>0)) (qY w'1 g.p.q 0 fun a5 n2 c1=>∀b2 w12,New w'1 (Obj.cells #[int .u8 59] 5) b2 w12->∃(a'1:Option Addr) (c'1:Nat) (w'2:World),zt Tryz.prog #[40,40] 40 (slice a5 n2 c1) (slice (some ⟨b2,0,none⟩) 1 1) w12 a'1 (n2+1) c'1 w'2/\KO w12 w'2/\zp w'2 g.p.q 0 (slice a'1 (n2+1) c'1) fun w13=>∃(c2:TeP) (i:Nat),int .i64 (x.fst:Int)=int .i64 (i:Int)/\TeOut w w13 g.p c2 (ze4 g.t g.l i)) (∃(c1:TeP) (i:Nat),int .i64 (x.fst:Int)=int .i64 (i:Int)/\TeOut w w'1 g.p c1 (ze4 g.t g.l i))/\∀(u1:Nat->Value) (c1:TeP) w'2,(∃(i:Nat),int .i64 (x.fst:Int)=int .i64 (i:Int)/\TeOut w w'2 g.p c1 (ze4 g.t g.l i))->qY w'2 g.p.q 0 fun a6 n2 c2=>∃(g1:GApp), #[slice a6 n2 c2,int .i64 n1,int .i64 10]= #[slice g1.ad g1.s.size g1.c,int .i64 g1.i,int .i64 10]/\(P10 g1.B w'2/\Row w'2 (5:TypeId) 1 g1.ad g1.s.size (zh g1.s) g1.c/\(∀(q:Nat),zV g1.ad=some q->g1.B<=q)/\g1.B<=w'2.heap.size/\g1.s.size<=1073741824/\(-9223372036854775808:Int)<=g1.i/\g1.i<=9223372036854775807)/\∀(x1:Option Addr×Nat×Nat) w'3,x1.snd.fst=(g1.s++qE g1.i).size/\Row w'3 (5:TypeId) 1 x1.fst x1.snd.fst (zh (g1.s++qE g1.i)) x1.snd.snd/\(∀(q:Nat),zV x1.fst=some q->g1.B<=q)/\Kp g1.B none w'2 w'3->zp w'3 g.p.q 0 (slice x1.fst x1.snd.fst x1.snd.snd) fun w12=>InR .i64 ((x.fst:Int)+1)/\∃(y:Nat×TeP),int .i64 ((x.fst:Int)+1)=int .i64 (y.fst:Int)/\(y.fst<=g.l.length/\TeOut w w12 g.p y.snd (zdr g.t g.l y.fst))/\g.l.length - y.fst<g.l.length - x.fst) (qY w'1 g.p.q 0 fun a5 n1 c1=>∀b1 w12,New w'1 (Obj.cells #[int .u8 (g.c.toNat:Int)] 5) b1 w12->∃(a'1:Option Addr) (c'1:Nat) (w'2:World),zt Tryz.prog #[40,40] 40 (slice a5 n1 c1) (slice (some ⟨b1,0,none⟩) 1 1) w12 a'1 (n1+1) c'1 w'2/\KO w12 w'2/\zp w'2 g.p.q 0 (slice a'1 (n1+1) c'1) fun w13=>zp w13 g.p.q 2 (string (ByteArray.mk #[])) fun w14=>
 ∃(x1:TeP),tuple #[]=tuple #[]/\TeOut w w14 g.p x1 (zhC g.t g.c g.l))):zro.Ok Tryz.prog 35:=ze zro zya zq9 (fun _ _=>rfl) (fun _ _=>rfl) hsp Tryz.func35 rfl (n:=3) (fun _=>rfl) (by kernel_rfl) (zj (by kernel_rfl) h)
theorem zvp(hsp:zf Tryz.prog zed)(h:∀(g:GMove) (w:World),TeIn w g.p g.t/\teOk g.t/\g.i<=1048576/\g.t.b.size<=536870912->∀w1,Drew w w1->zv w g.p.q 4 fun n=>(0:Int)<=(g.i:Int)/\(0:Int)<n/\InR .i64 ((g.i:Int) / n)/\InR .i64 ((g.i:Int) / n+1)/\zv w g.p.q 4 fun n1=>(0:Int)<=(g.i:Int)/\(0:Int)<n1/\InR .i64 ((g.i:Int)%n1+1)/\∀b w11,New w1 (Obj.cells #[int .i64 ((g.i:Int) / n+1),int .i64 ((g.i:Int)%n1+1)] 3) b w11->Below w1.heap.size w1 w11/\∃(g1:GSay), #[pointer (some ⟨g.p.q,0,none⟩),int .u8 72,slice (some ⟨b,0,none⟩) 2 2]= #[pointer (some ⟨g1.p.q,0,none⟩),int .u8 (g1.c.toNat:Int),slice g1.la g1.l.length g1.lc]/\(TeIn w11 g1.p g1.t/\Row w11 (3:TypeId) 1 g1.la g1.l.length (List.map (int IntKind.i64) g1.l) g1.lc/\g1.t.b.size<=536870912/\g1.l.length<=16/\∀(n2:Int),n2∈g1.l->(-9223372036854775808:Int)<=n2/\n2<=9223372036854775807)/\∀(x:TeP) w',TeOut w11 w' g1.p x (zhC g1.t g1.c g1.l)->zp w' g.p.q 1 (int .i64 (g.i:Int)) fun w12=>∃(x1:TeP),tuple #[]=tuple #[]/\TeOut w w12 g.p x1 (Qj g.t (g.i:Int))):zko.Ok Tryz.prog 38:=ze zko (zI zed) zed (fun _ _=>rfl) (fun _ _=>rfl) hsp Tryz.func38 rfl (n:=2) (fun _=>rfl) (by kernel_rfl) (zj (by kernel_rfl) h)
theorem zul(hsp:zf Tryz.prog zed)(h:∀(g:GMove) (w:World),TeIn w g.p g.t/\g.i<65536/\g.t.b.size<=536870912->∀b w1,New w (Obj.cells #[int .i64 0] 3) b w1->(∃(x:Nat×Option Addr×Nat),int .i64 0=int .i64 (x.fst:Int)/\slice (some ⟨b,0,none⟩) 1 1=slice x.snd.fst (1+(qN g.i x.fst).length) x.snd.snd/\x.fst<=4/\Made w w1 (3:TypeId) 1 x.snd.fst (1+(qN g.i x.fst).length) (List.map (int IntKind.i64) ([(0:Int)]++qN g.i x.fst)) x.snd.snd)/\∀(u:Nat->Value) (x:Nat×Option Addr×Nat) w',x.fst<=4/\Made w w' (3:TypeId) 1 x.snd.fst (1+(qN g.i x.fst).length) (List.map (int IntKind.i64) ([(0:Int)]++qN g.i x.fst)) x.snd.snd->zc (decide ((x.fst:Int)<4)) (qa (x.fst:Int) 4 fun k=>∃(n:Int),(Array.foldl (fun(cs:Array Value) (x:Value×Nat)=>cs.setIfInBounds (3*1+x.snd) x.fst) (Array.foldl (fun(cs:Array Value) (x:Value×Nat)=>cs.setIfInBounds (2*1+x.snd) x.fst) (Array.foldl (fun(cs:Array Value) (x:Value×Nat)=>cs.setIfInBounds (1*1+x.snd) x.fst) (Array.foldl (fun(cs:Array Value) (x:Value×Nat)=>cs.setIfInBounds (0*1+x.snd) x.fst) (agg #[int .i64 0,int .i64 0,int .i64 0,int .i64 0]).cells (int .i64 1).cells.zipIdx) (int .i64 3).cells.zipIdx) (int .i64 4).cells.zipIdx) (int .i64 7).cells.zipIdx)[k]? =some (int .i64 n)/\InR .i64 ((8:Int)+(x.fst:Int))/\zc (IntKind.u16.wrap (↑(BitVec.ofInt IntKind.u16.bits (g.i:Int)&&&BitVec.ofInt IntKind.u16.bits (IntKind.u16.wrap ((1:Int)*2^min ((8:Int)+(x.fst:Int)).toNat IntKind.u16.bits))).toNat:Int) !=(0:Int)) (∀b1 w11,New w' (Obj.cells #[int .i64 n] 3) b1 w11->∃(a':Option Addr) (c':Nat) (w'1:World),zt Tryz.prog #[61,61] 61 (slice x.snd.fst (1+(qN g.i x.fst).length) x.snd.snd) (slice (some ⟨b1,0,none⟩) 1 1) w11 a' (1+(qN g.i x.fst).length+1) c' w'1/\KO w11 w'1/\InR .i64 ((x.fst:Int)+1)/\∃(y:Nat×Option Addr×Nat),int .i64 ((x.fst:Int)+1)=int .i64 (y.fst:Int)/\slice a' (1+(qN g.i x.fst).length+1) c'=slice y.snd.fst (1+(qN g.i y.fst).length) y.snd.snd/\(y.fst<=4/\Made w w'1 (3:TypeId) 1 y.snd.fst (1+(qN g.i y.fst).length) (List.map (int IntKind.i64) ([(0:Int)]++qN g.i y.fst)) y.snd.snd)/\4 - y.fst<4 - x.fst) (InR .i64 ((x.fst:Int)+1)/\∃(y:Nat×Option Addr×Nat),int .i64 ((x.fst:Int)+1)=int .i64 (y.fst:Int)/\slice x.snd.fst (1+(qN g.i x.fst).length) x.snd.snd=slice y.snd.fst (1+(qN g.i y.fst).length) y.snd.snd/\(y.fst<=4/\Made w w' (3:TypeId) 1 y.snd.fst (1+(qN g.i y.fst).length) (List.map (int IntKind.i64) ([(0:Int)]++qN g.i y.fst)) y.snd.snd)/\4 - y.fst<4 - x.fst)) ((InR IntKind.i64 (IntKind.u16.wrap (↑(BitVec.ofInt IntKind.u16.bits (g.i:Int)&&&BitVec.ofInt IntKind.u16.bits (255:Int)).toNat:Int))/\zc (IntKind.u16.wrap
 (↑(BitVec.ofInt IntKind.u16.bits (g.i:Int)&&&BitVec.ofInt IntKind.u16.bits (255:Int)).toNat:Int) !=(0:Int)) (∀b1 w11,New w' (Obj.cells #[int .i64 38,int .i64 5,int IntKind.i64 (IntKind.u16.wrap (↑(BitVec.ofInt IntKind.u16.bits (g.i:Int)&&&BitVec.ofInt IntKind.u16.bits (255:Int)).toNat:Int))] 3) b1 w11->∃(a':Option Addr) (c':Nat) (w'1:World),zt Tryz.prog #[61,61] 61 (slice x.snd.fst (1+(qN g.i x.fst).length) x.snd.snd) (slice (some ⟨b1,0,none⟩) 3 3) w11 a' (1+(qN g.i x.fst).length+3) c' w'1/\KO w11 w'1/\∃(c:Option Addr×Nat),slice a' (1+(qN g.i x.fst).length+3) c'=slice c.fst (Z8 g.i).length c.snd/\Made w w'1 (3:TypeId) 1 c.fst (Z8 g.i).length (List.map (int IntKind.i64) (Z8 g.i)) c.snd) (∃(c:Option Addr×Nat),slice x.snd.fst (1+(qN g.i x.fst).length) x.snd.snd=slice c.fst (Z8 g.i).length c.snd/\Made w w' (3:TypeId) 1 c.fst (Z8 g.i).length (List.map (int IntKind.i64) (Z8 g.i)) c.snd))/\∀(u1:Nat->Value) (c:Option Addr×Nat) w'1,Made w w'1 (3:TypeId) 1 c.fst (Z8 g.i).length (List.map (int IntKind.i64) (Z8 g.i)) c.snd->(InR .i64 ((g.i:Int).fdiv ((2:Int)^min (Int.toNat (12:Int)) IntKind.u16.bits))/\zc ((g.i:Int).fdiv ((2:Int)^min (Int.toNat (12:Int)) IntKind.u16.bits) !=0) (∀b1 w11,New w'1 (Obj.cells #[int .i64 48,int .i64 5,int .i64 ((g.i:Int).fdiv ((2:Int)^min (Int.toNat (12:Int)) IntKind.u16.bits))] 3) b1 w11->∃(a':Option Addr) (c':Nat) (w'2:World),zt Tryz.prog #[61,61] 61 (slice c.fst (Z8 g.i).length c.snd) (slice (some ⟨b1,0,none⟩) 3 3) w11 a' ((Z8 g.i).length+3) c' w'2/\KO w11 w'2/\∃(c1:Option Addr×Nat),slice a' ((Z8 g.i).length+3) c'=slice c1.fst (qR g.i).length c1.snd/\Made w w'2 (3:TypeId) 1 c1.fst (qR g.i).length (List.map (int IntKind.i64) (qR g.i)) c1.snd) (∃(c1:Option Addr×Nat),slice c.fst (Z8 g.i).length c.snd=slice c1.fst (qR g.i).length c1.snd/\Made w w'1 (3:TypeId) 1 c1.fst (qR g.i).length (List.map (int IntKind.i64) (qR g.i)) c1.snd))/\∀(u2:Nat->Value) (c1:Option Addr×Nat) w'2,Made w w'2 (3:TypeId) 1 c1.fst (qR g.i).length (List.map (int IntKind.i64) (qR g.i)) c1.snd->∃(g1:GSay), #[pointer (some ⟨g.p.q,0,none⟩),int .u8 109,slice c1.fst (qR g.i).length c1.snd]= #[pointer (some ⟨g1.p.q,0,none⟩),int .u8 (g1.c.toNat:Int),slice g1.la g1.l.length g1.lc]/\(TeIn w'2 g1.p g1.t/\Row w'2 (3:TypeId) 1 g1.la g1.l.length (List.map (int IntKind.i64) g1.l) g1.lc/\g1.t.b.size<=536870912/\g1.l.length<=16/\∀(n:Int),n∈g1.l->(-9223372036854775808:Int)<=n/\n<=9223372036854775807)/\∀(x1:TeP) w'3,TeOut w'2 w'3 g1.p x1 (zhC g1.t g1.c g1.l)->zp w'3 g.p.q 3 (int .u16 (g.i:Int)) fun w11=>
 ∃(x2:TeP),tuple #[]=tuple #[]/\TeOut w w11 g.p x2 (Qe g.t g.i))):zkk.Ok Tryz.prog 34:=ze zkk zws zed (fun _ _=>rfl) (fun _ _=>rfl) hsp Tryz.func34 rfl (n:=2) (fun _=>rfl) (by kernel_rfl) (zj (by kernel_rfl) h)
theorem zup(hsp:zf Tryz.prog zl6)(h:∀(g:GTell) (w:World),TeIn w g.p g.t/\teOk g.t/\g.i<=1048576/\g.c.st<65536/\g.t.b.size<=536000000/\g.c.t.size<=16777216/\g.t.last.size<=16777216->∀b w1,New w (Obj.cells #[string g.c.t,int .i8 g.c.p,int .i64 g.c.a,int .i64 g.c.n,bool g.c.r,int .u16 (g.c.st:Int)] 52) b w1->LdT w1 b 0 fun s=>zY w1 .i8 b 1 fun n=>zv w1 b 2 fun n1=>zv w1 b 3 fun n2=>ZL w1 b 4 fun b1=>zY w1 .u16 b 5 fun n3=>∃(g1:Ce), #[agg #[string s,int .i8 n,int .i64 n1,int .i64 n2,bool b1,int .u16 n3]]= #[agg #[string g1.t,int .i8 g1.p,int .i64 g1.a,int .i64 g1.n,bool g1.r,int .u16 (g1.st:Int)]]/\True/\∀(x:ByteArray) w',x=zL g1/\Ext w1 w'->(zv w' g.p.q 1 fun n4=>zc (n4 !=(g.i:Int)) (∃(g2:GMove), #[pointer (some ⟨g.p.q,0,none⟩),int .i64 (g.i:Int)]= #[pointer (some ⟨g2.p.q,0,none⟩),int .i64 (g2.i:Int)]/\(TeIn w' g2.p g2.t/\teOk g2.t/\g2.i<=1048576/\g2.t.b.size<=536870912)/\∀(x1:TeP) w'1,TeOut w' w'1 g2.p x1 (Qj g2.t (g2.i:Int))->∃(c:TeP×Nat),pointer (some ⟨b,0,none⟩)=pointer (some ⟨c.snd,0,none⟩)/\zbP g w (te1 g.t (g.i:Int)) c w'1) (∃(c:TeP×Nat),pointer (some ⟨b,0,none⟩)=pointer (some ⟨c.snd,0,none⟩)/\zbP g w (te1 g.t (g.i:Int)) c w'))/\∀(u:Nat->Value) (c:TeP×Nat) w'1,zbP g w (te1 g.t (g.i:Int)) c w'1->(∀w11,Drew w'1 w11->zY w'1 .u16 g.p.q 3 fun n4=>zY w'1 .u16 c.snd 5 fun n5=>zc (n4 !=n5) (zY w11 .u16 c.snd 5 fun n6=>∃(g2:GMove), #[pointer (some ⟨g.p.q,0,none⟩),int .u16 n6]= #[pointer (some ⟨g2.p.q,0,none⟩),int .u16 (g2.i:Int)]/\(TeIn w11 g2.p g2.t/\g2.i<65536/\g2.t.b.size<=536870912)/\∀(x1:TeP) w'2,TeOut w11 w'2 g2.p x1 (Qe g2.t g2.i)->∃(c1:TeP×Nat),pointer (some ⟨c.snd,0,none⟩)=pointer (some ⟨c1.snd,0,none⟩)/\zbP g w (te2 (te1 g.t (g.i:Int)) g.c.st) c1 w'2) (∃(c1:TeP×Nat),pointer (some ⟨c.snd,0,none⟩)=pointer (some ⟨c1.snd,0,none⟩)/\zbP g w (te2 (te1 g.t (g.i:Int)) g.c.st) c1 w11))/\∀(u1:Nat->Value) (c1:TeP×Nat) w'2,zbP g w (te2 (te1 g.t (g.i:Int)) g.c.st) c1 w'2->(∃(g2:ByteArray), #[string x]= #[string g2]/\(U8 w'2/\g2.size<=67108864)/\∀(x1:Int×Nat) w'3,x1.fst=Q4 g2/\x1.snd=QB g2/\Ext w'2 w'3->∀w11,Drew w'3 w11->LdT w'3 g.p.q 2 fun s1=>zc (!s1.toList==(ByteArray.mk #[]).toList) (LdT w'3 g.p.q 2 fun s2=>∃(k:Nat),(x1.snd:Int)=(k:Int)/\0<=k/\k<=x.size/\s2.size+(x.extract 0 k).size<=9223372036854775807/\∃(g3:ByteArray), #[string (s2++x.extract 0 k)]= #[string g3]/\(U8 w11/\g3.size<=67108864)/\∀(x2:Nat) w'4,x2=qW g3/\Ext w11 w'4->zc ((x2:Int)==1) (∃(g4:GMove), #[pointer (some ⟨g.p.q,0,none⟩),int .i64 (g.i:Int)]= #[pointer (some ⟨g4.p.q,0,none⟩),int .i64 (g4.i:Int)]/\(TeIn w'4 g4.p g4.t/\teOk g4.t/\g4.i<=1048576/\g4.t.b.size<=536870912)/\∀(x3:TeP) w'5,
 TeOut w'4 w'5 g4.p x3 (Qj g4.t (g4.i:Int))->∃(c2:TeP×Nat),pointer (some ⟨c1.snd,0,none⟩)=pointer (some ⟨c2.snd,0,none⟩)/\zbP g w (te3 (te2 (te1 g.t (g.i:Int)) g.c.st) (g.i:Int) (zL g.c)) c2 w'5) (∃(c2:TeP×Nat),pointer (some ⟨c1.snd,0,none⟩)=pointer (some ⟨c2.snd,0,none⟩)/\zbP g w (te3 (te2 (te1 g.t (g.i:Int)) g.c.st) (g.i:Int) (zL g.c)) c2 w'4)) (∃(c2:TeP×Nat),pointer (some ⟨c1.snd,0,none⟩)=pointer (some ⟨c2.snd,0,none⟩)/\zbP g w (te3 (te2 (te1 g.t (g.i:Int)) g.c.st) (g.i:Int) (zL g.c)) c2 w11))/\∀(u2:Nat->Value) (c2:TeP×Nat) w'3,zbP g w (te3 (te2 (te1 g.t (g.i:Int)) g.c.st) (g.i:Int) (zL g.c)) c2 w'3->qY w'3 g.p.q 0 fun a6 n4 c3=>∃(a':Option Addr) (c':Nat) (w'4:World),zt Tryz.prog #[40,9] 40 (slice a6 n4 c3) (string x) w'3 a' (n4+x.size) c' w'4/\KO w'3 w'4/\zp w'4 g.p.q 0 (slice a' (n4+x.size) c') fun w11=>zp w11 g.p.q 2 (string x) fun w12=>ZL w12 g.p.q 5 fun b2=>∃(g2:ByteArray×Bool), #[string x,bool b2]= #[string g2.fst,bool g2.snd]/\(UD w12/\g2.fst.size<=67108864)/\∀(x1:Nat) w'5,x1=plN g2.fst g2.snd/\Ext w12 w'5->InR .i64 ((g.i:Int)+(x1:Int))/\zp w'5 g.p.q 1 (int .i64 ((g.i:Int)+(x1:Int))) fun w13=>∀w14,Drew w13 w14->zv w13 g.p.q 1 fun n5=>zv w13 g.p.q 4 fun n6=>(0:Int)<=n5/\(0:Int)<n6/\zc (n5%n6==0) (zp w14 g.p.q 1 (int .i64 (-1:Int)) fun w15=>∃(x2:TeP),tuple #[]=tuple #[]/\TeOut w w15 g.p x2 (Qq g.t (g.i:Int) g.c)) (∃(x2:TeP),tuple #[]=tuple #[]/\TeOut w w14 g.p x2 (Qq g.t (g.i:Int) g.c))):znF.Ok Tryz.prog 37:=ze znF zwt zl6 (fun _ _=>rfl) (fun _ _=>rfl) hsp Tryz.func37 rfl (n:=3) (fun _=>rfl) (by kernel_rfl) (zj (by kernel_rfl) h)
end
end Go.Proofs.YtjdohhididpomaaGreatDoor
