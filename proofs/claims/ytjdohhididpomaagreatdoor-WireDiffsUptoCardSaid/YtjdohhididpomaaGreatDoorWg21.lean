/-
  Texts joined by program: SpXo, VgXo, WkXw, SpXp, VgXp, WkXx.
-/
import Derived.Test.YtjdohhididpomaaGreatDoorWg20
import Derived.Test.YtjdohhididpomaaGreatDoorProg
import Derived.KernelRfl
set_option linter.unusedVariables false
set_option linter.unusedSimpArgs false

namespace Go.Proofs.YtjdohhididpomaaGreatDoor
section
open Go Go.RowKit Vc Ut Tb Cl
structure GSt where
  A:GlP
  g:Gs
  hl:List Int
  a:Option Addr
  c:Nat
  l:List Int
def zen:List (Nat×CallSpec):=[(79,zkC)]
def zdJ:CallSpec where
  G:=GSt
  args:=fun g=> #[.pointer (some ⟨g.A.p,0,none⟩), .slice g.a g.l.length g.c]
  pre:=fun g w=>RlIn w g.A g.g g.hl/\fitG g.g/\CellsAt w g.a (g.l.map (Value.int .i64))/\(∀q,qi g.a=some q->¬own g.A q)/\(∀n∈g.l, -1<=n/\n<=9999)/\g.l.length<=1099511627776
  X:=GlP
  res:=fun _=> .tuple #[]
  post:=fun g w x w'=>RlOut w w' g.A x (zbb g.g (Zq g.l g.g.sty)) g.hl
structure rsI(g:GSt)(w00:World)(i s:Nat)(w:World):Prop where
  le:i<=g.l.length
  out:RlOut w00 w g.A g.A (zbb g.g s) g.hl
  eq:zO (g.l.length - i) (g.l.drop i) s=Zq g.l g.g.sty
  lt:s<65536
structure rsJ(g:GSt)(w00:World)(i s:Nat)(w:World):Prop where
  le:i<g.l.length
  out:RlOut w00 w g.A g.A (zbb g.g s) g.hl
  eq:zO (g.l.length - (i+1)) (g.l.drop (i+1)) s=Zq g.l g.g.sty
  lt:s<65536
def znG(g:GSt)(w00:World):Ann where
  sp:=zen
  cuts:=[(3,19,{X:=Nat×Nat,sh:=fun _ x=>[(4, .int .i64 x.1)],inv:=fun e _ x w=>rsJ g w00 x.1 x.2 w/\gi e 4<=(x.1:Int)})]
  loops:=[(1,{
    X:=Nat×Nat
    sh:=fun _ x=>[(4, .int .i64 x.1)]
    inv:=fun _ _ x w=>rsI g w00 x.1 x.2 w
    mu:=fun _ _ x _=>g.l.length - x.1})]
end

section
set_option linter.unusedVariables false
open Go Go.RowKit Vc Ut Tb Cl
open Value
set_option maxRecDepth 1000000
theorem zmN(hsp:zf Tryz.prog zen)(h:∀(g:GSt) (w:World),RlIn w g.A g.g g.hl/\fitG g.g/\CellsAt w g.a (List.map (int IntKind.i64) g.l)/\(∀(q:Nat),qi g.a=some q->¬own g.A q)/\(∀(n:Int),n∈g.l->(-1:Int)<=n/\n<=9999)/\g.l.length<=1099511627776->(∃(x:Nat×Nat),int .i64 0=int .i64 (x.fst:Int)/\rsI g w x.fst x.snd w)/\∀(u:Nat->Value) (x:Nat×Nat) w',rsI g w x.fst x.snd w'->zc (decide ((x.fst:Int)<(g.l.length:Int))) ((InR .i64 ((x.fst:Int)+2)/\∃(g1:GAt), #[slice g.a g.l.length g.c,int .i64 ((x.fst:Int)+2)]= #[slice g1.a g1.l.length g1.c,int .i64 (g1.i:Int)]/\CellsAt w' g1.a (List.map (int IntKind.i64) g1.l)/\∀(x1:Int) w'1,x1=zV g1.l g1.i/\w'1=w'->qd (x.fst:Int) g.l.length fun k=>zr g.a fun(b o:Nat)=>zt w'1 b (o+k) fun n=>zc (decide (n<=0)) (zh w'1 g.A.p 7 (int .u16 0) fun w1=>∃(c:Nat×Nat),int .i64 (x.fst:Int)=int .i64 (c.fst:Int)/\rsJ g w c.fst c.snd w1/\(x.fst:Int)<=(c.fst:Int)) (qd (x.fst:Int) g.l.length fun k1=>zr g.a fun(b1 o1:Nat)=>zt w'1 b1 (o1+k1) fun n1=>zc (n1==1) (zX w'1 .u16 g.A.p 7 fun n2=>zh w'1 g.A.p 7 (int IntKind.u16 (IntKind.u16.wrap (↑(BitVec.ofInt IntKind.u16.bits n2|||BitVec.ofInt IntKind.u16.bits (256:Int)).toNat:Int))) fun w1=>∃(c:Nat×Nat),int .i64 (x.fst:Int)=int .i64 (c.fst:Int)/\rsJ g w c.fst c.snd w1/\(x.fst:Int)<=(c.fst:Int)) (qd (x.fst:Int) g.l.length fun k2=>zr g.a fun(b2 o2:Nat)=>zt w'1 b2 (o2+k2) fun n2=>zc (n2==3) (zX w'1 .u16 g.A.p 7 fun n3=>zh w'1 g.A.p 7 (int IntKind.u16 (IntKind.u16.wrap (↑(BitVec.ofInt IntKind.u16.bits n3|||BitVec.ofInt IntKind.u16.bits (512:Int)).toNat:Int))) fun w1=>∃(c:Nat×Nat),int .i64 (x.fst:Int)=int .i64 (c.fst:Int)/\rsJ g w c.fst c.snd w1/\(x.fst:Int)<=(c.fst:Int)) (qd (x.fst:Int) g.l.length fun k3=>zr g.a fun(b3 o3:Nat)=>zt w'1 b3 (o3+k3) fun n3=>zc (n3==4) (zX w'1 .u16 g.A.p 7 fun n4=>zh w'1 g.A.p 7 (int IntKind.u16 (IntKind.u16.wrap (↑(BitVec.ofInt IntKind.u16.bits n4|||BitVec.ofInt IntKind.u16.bits (1024:Int)).toNat:Int))) fun w1=>∃(c:Nat×Nat),int .i64 (x.fst:Int)=int .i64 (c.fst:Int)/\rsJ g w c.fst c.snd w1/\(x.fst:Int)<=(c.fst:Int)) (qd (x.fst:Int) g.l.length fun k4=>zr g.a fun(b4 o4:Nat)=>zt w'1 b4 (o4+k4) fun n4=>zc (n4==7) (zX w'1 .u16 g.A.p 7 fun n5=>zh w'1 g.A.p 7 (int IntKind.u16 (IntKind.u16.wrap (↑(BitVec.ofInt IntKind.u16.bits n5|||BitVec.ofInt IntKind.u16.bits (2048:Int)).toNat:Int))) fun w1=>∃(c:Nat×Nat),int .i64 (x.fst:Int)=int .i64 (c.fst:Int)/\rsJ g w c.fst c.snd w1/\(x.fst:Int)<=(c.fst:Int)) (qd (x.fst:Int) g.l.length fun k5=>zr g.a fun(b5 o5:Nat)=>zt w'1 b5 (o5+k5) fun n5=>zc (n5==38) (InR .i64 ((x.fst:Int)+1)/\∃(g2:GAt), #[slice g.a g.l.length g.c,int .i64 ((x.fst:Int)+1)]=
 #[slice g2.a g2.l.length g2.c,int .i64 (g2.i:Int)]/\CellsAt w'1 g2.a (List.map (int IntKind.i64) g2.l)/\∀(x2:Int) w'2,x2=zV g2.l g2.i/\w'2=w'1->zc (x2==5) (zc (decide (x1>=0)) (zc (decide (x1<=255)) (zX w'2 .u16 g.A.p 7 fun n6=>InR .u16 x1/\zh w'2 g.A.p 7 (int IntKind.u16 (IntKind.u16.wrap (↑(BitVec.ofInt IntKind.u16.bits (IntKind.u16.wrap (↑(BitVec.ofInt IntKind.u16.bits n6&&&BitVec.ofInt IntKind.u16.bits (65280:Int)).toNat:Int))|||BitVec.ofInt IntKind.u16.bits x1).toNat:Int))) fun w1=>InR .i64 ((x.fst:Int)+2)/\∃(c:Nat×Nat),int .i64 ((x.fst:Int)+2)=int .i64 (c.fst:Int)/\rsJ g w c.fst c.snd w1/\(x.fst:Int)<=(c.fst:Int)) (qd (x.fst:Int) g.l.length fun k6=>zr g.a fun(b6 o6:Nat)=>zt w'2 b6 (o6+k6) fun n6=>zc (n6==48) (InR .i64 ((x.fst:Int)+1)/\∃(g3:GAt), #[slice g.a g.l.length g.c,int .i64 ((x.fst:Int)+1)]= #[slice g3.a g3.l.length g3.c,int .i64 (g3.i:Int)]/\CellsAt w'2 g3.a (List.map (int IntKind.i64) g3.l)/\∀(x3:Int) w'3,x3=zV g3.l g3.i/\w'3=w'2->zc (x3==5) (zc (decide (x1>=0)) (zc (decide (x1<=15)) (zX w'3 .u16 g.A.p 7 fun n7=>InR .u16 x1/\zh w'3 g.A.p 7 (int IntKind.u16 (IntKind.u16.wrap (↑(BitVec.ofInt IntKind.u16.bits (IntKind.u16.wrap (↑(BitVec.ofInt IntKind.u16.bits n7&&&BitVec.ofInt IntKind.u16.bits (4095:Int)).toNat:Int))|||BitVec.ofInt IntKind.u16.bits (IntKind.u16.wrap (x1*2^min (Int.toNat (12:Int)) IntKind.u16.bits))).toNat:Int))) fun w1=>InR .i64 ((x.fst:Int)+2)/\∃(c:Nat×Nat),int .i64 ((x.fst:Int)+2)=int .i64 (c.fst:Int)/\rsJ g w c.fst c.snd w1/\(x.fst:Int)<=(c.fst:Int)) (∃(c:Nat×Nat),int .i64 (x.fst:Int)=int .i64 (c.fst:Int)/\rsJ g w c.fst c.snd w'3/\(x.fst:Int)<=(c.fst:Int))) (∃(c:Nat×Nat),int .i64 (x.fst:Int)=int .i64 (c.fst:Int)/\rsJ g w c.fst c.snd w'3/\(x.fst:Int)<=(c.fst:Int))) (∃(c:Nat×Nat),int .i64 (x.fst:Int)=int .i64 (c.fst:Int)/\rsJ g w c.fst c.snd w'3/\(x.fst:Int)<=(c.fst:Int))) (∃(c:Nat×Nat),int .i64 (x.fst:Int)=int .i64 (c.fst:Int)/\rsJ g w c.fst c.snd w'2/\(x.fst:Int)<=(c.fst:Int)))) (qd (x.fst:Int) g.l.length fun k6=>zr g.a fun(b6 o6:Nat)=>zt w'2 b6 (o6+k6) fun n6=>zc (n6==48) (InR .i64 ((x.fst:Int)+1)/\∃(g3:GAt), #[slice g.a g.l.length g.c,int .i64 ((x.fst:Int)+1)]= #[slice g3.a g3.l.length g3.c,int .i64 (g3.i:Int)]/\CellsAt w'2 g3.a (List.map (int IntKind.i64) g3.l)/\∀(x3:Int) w'3,x3=zV g3.l g3.i/\w'3=w'2->zc (x3==5) (zc (decide (x1>=0)) (zc (decide (x1<=15)) (zX w'3 .u16 g.A.p 7 fun n7=>InR .u16 x1/\zh w'3 g.A.p 7 (int IntKind.u16 (IntKind.u16.wrap (↑(BitVec.ofInt IntKind.u16.bits (IntKind.u16.wrap (↑(BitVec.ofInt IntKind.u16.bits n7&&&BitVec.ofInt IntKind.u16.bits (4095:Int)).toNat:Int))|||
 BitVec.ofInt IntKind.u16.bits (IntKind.u16.wrap (x1*2^min (Int.toNat (12:Int)) IntKind.u16.bits))).toNat:Int))) fun w1=>InR .i64 ((x.fst:Int)+2)/\∃(c:Nat×Nat),int .i64 ((x.fst:Int)+2)=int .i64 (c.fst:Int)/\rsJ g w c.fst c.snd w1/\(x.fst:Int)<=(c.fst:Int)) (∃(c:Nat×Nat),int .i64 (x.fst:Int)=int .i64 (c.fst:Int)/\rsJ g w c.fst c.snd w'3/\(x.fst:Int)<=(c.fst:Int))) (∃(c:Nat×Nat),int .i64 (x.fst:Int)=int .i64 (c.fst:Int)/\rsJ g w c.fst c.snd w'3/\(x.fst:Int)<=(c.fst:Int))) (∃(c:Nat×Nat),int .i64 (x.fst:Int)=int .i64 (c.fst:Int)/\rsJ g w c.fst c.snd w'3/\(x.fst:Int)<=(c.fst:Int))) (∃(c:Nat×Nat),int .i64 (x.fst:Int)=int .i64 (c.fst:Int)/\rsJ g w c.fst c.snd w'2/\(x.fst:Int)<=(c.fst:Int)))) (qd (x.fst:Int) g.l.length fun k6=>zr g.a fun(b6 o6:Nat)=>zt w'2 b6 (o6+k6) fun n6=>zc (n6==48) (InR .i64 ((x.fst:Int)+1)/\∃(g3:GAt), #[slice g.a g.l.length g.c,int .i64 ((x.fst:Int)+1)]= #[slice g3.a g3.l.length g3.c,int .i64 (g3.i:Int)]/\CellsAt w'2 g3.a (List.map (int IntKind.i64) g3.l)/\∀(x3:Int) w'3,x3=zV g3.l g3.i/\w'3=w'2->zc (x3==5) (zc (decide (x1>=0)) (zc (decide (x1<=15)) (zX w'3 .u16 g.A.p 7 fun n7=>InR .u16 x1/\zh w'3 g.A.p 7 (int IntKind.u16 (IntKind.u16.wrap (↑(BitVec.ofInt IntKind.u16.bits (IntKind.u16.wrap (↑(BitVec.ofInt IntKind.u16.bits n7&&&BitVec.ofInt IntKind.u16.bits (4095:Int)).toNat:Int))|||BitVec.ofInt IntKind.u16.bits (IntKind.u16.wrap (x1*2^min (Int.toNat (12:Int)) IntKind.u16.bits))).toNat:Int))) fun w1=>InR .i64 ((x.fst:Int)+2)/\∃(c:Nat×Nat),int .i64 ((x.fst:Int)+2)=int .i64 (c.fst:Int)/\rsJ g w c.fst c.snd w1/\(x.fst:Int)<=(c.fst:Int)) (∃(c:Nat×Nat),int .i64 (x.fst:Int)=int .i64 (c.fst:Int)/\rsJ g w c.fst c.snd w'3/\(x.fst:Int)<=(c.fst:Int))) (∃(c:Nat×Nat),int .i64 (x.fst:Int)=int .i64 (c.fst:Int)/\rsJ g w c.fst c.snd w'3/\(x.fst:Int)<=(c.fst:Int))) (∃(c:Nat×Nat),int .i64 (x.fst:Int)=int .i64 (c.fst:Int)/\rsJ g w c.fst c.snd w'3/\(x.fst:Int)<=(c.fst:Int))) (∃(c:Nat×Nat),int .i64 (x.fst:Int)=int .i64 (c.fst:Int)/\rsJ g w c.fst c.snd w'2/\(x.fst:Int)<=(c.fst:Int)))) (qd (x.fst:Int) g.l.length fun k6=>zr g.a fun(b6 o6:Nat)=>zt w'1 b6 (o6+k6) fun n6=>zc (n6==48) (InR .i64 ((x.fst:Int)+1)/\∃(g2:GAt), #[slice g.a g.l.length g.c,int .i64 ((x.fst:Int)+1)]= #[slice g2.a g2.l.length g2.c,int .i64 (g2.i:Int)]/\CellsAt w'1 g2.a (List.map (int IntKind.i64) g2.l)/\∀(x2:Int) w'2,x2=zV g2.l g2.i/\w'2=w'1->zc (x2==5) (zc (decide (x1>=0)) (zc (decide (x1<=15)) (zX w'2 .u16 g.A.p 7 fun n7=>InR .u16 x1/\zh w'2 g.A.p 7 (int IntKind.u16 (IntKind.u16.wrap (↑(BitVec.ofInt IntKind.u16.bits
 (IntKind.u16.wrap (↑(BitVec.ofInt IntKind.u16.bits n7&&&BitVec.ofInt IntKind.u16.bits (4095:Int)).toNat:Int))|||BitVec.ofInt IntKind.u16.bits (IntKind.u16.wrap (x1*2^min (Int.toNat (12:Int)) IntKind.u16.bits))).toNat:Int))) fun w1=>InR .i64 ((x.fst:Int)+2)/\∃(c:Nat×Nat),int .i64 ((x.fst:Int)+2)=int .i64 (c.fst:Int)/\rsJ g w c.fst c.snd w1/\(x.fst:Int)<=(c.fst:Int)) (∃(c:Nat×Nat),int .i64 (x.fst:Int)=int .i64 (c.fst:Int)/\rsJ g w c.fst c.snd w'2/\(x.fst:Int)<=(c.fst:Int))) (∃(c:Nat×Nat),int .i64 (x.fst:Int)=int .i64 (c.fst:Int)/\rsJ g w c.fst c.snd w'2/\(x.fst:Int)<=(c.fst:Int))) (∃(c:Nat×Nat),int .i64 (x.fst:Int)=int .i64 (c.fst:Int)/\rsJ g w c.fst c.snd w'2/\(x.fst:Int)<=(c.fst:Int))) (∃(c:Nat×Nat),int .i64 (x.fst:Int)=int .i64 (c.fst:Int)/\rsJ g w c.fst c.snd w'1/\(x.fst:Int)<=(c.fst:Int)))))))))/\∀(u1:Nat->Value) (c:Nat×Nat) w'1,rsJ g w c.fst c.snd w'1/\(x.fst:Int)<=(c.fst:Int)->InR .i64 ((c.fst:Int)+1)/\∃(y:Nat×Nat),int .i64 ((c.fst:Int)+1)=int .i64 (y.fst:Int)/\rsI g w y.fst y.snd w'1/\g.l.length - y.fst<g.l.length - x.fst) (∃(x1:GlP),tuple #[]=tuple #[]/\RlOut w w' g.A x1 (zbb g.g (Zq g.l g.g.sty)) g.hl)):zdJ.Ok Tryz.prog 80:=ze zdJ znG zen (fun _ _=>rfl) (fun _ _=>rfl) hsp Tryz.func80 rfl (n:=2) (fun _=>rfl) (by kernel_rfl) (zl (by kernel_rfl) h)
end

section
open Go Go.RowKit Vc Ut Tb Cl
def Qc(l:List Int)(j s:Nat):Nat:=zO (l.length - j) (l.drop j) s
theorem zm0{l:List Int}{i:Nat}(h:l.length<=i):zV l i= -1:=by
  unfold zV;rw[List.getD_eq_getElem?_getD,List.getElem?_eq_none h];rfl
theorem zjL{l:List Int}{i:Nat}(h:i<l.length):l.drop i=zV l i::l.drop (i+1):=by
  rw[List.drop_eq_getElem_cons h,<-Qa h,List.getD_eq_getElem?_getD,List.getElem?_eq_getElem h];rfl
theorem zuE{l:List Int}{i:Nat}(s:Nat)(hi:i<l.length):Qc l i s=
    if zV l i= -1\/zV l i=0 then Qc l (i+1) 0 else if zV l i=1 then Qc l (i+1) (s|||256)else if zV l i=3 then Qc l (i+1) (s|||512)else if zV l i=4 then Qc l (i+1) (s|||1024)else if zV l i=7 then Qc l (i+1) (s|||2048)
    else if zV l i=38/\zV l (i+1)=5/\0<=zV l (i+2)/\zV l (i+2)<=255 then Qc l (i+3) ((s / 256*256)|||(zV l (i+2)).toNat)
    else if zV l i=48/\zV l (i+1)=5/\0<=zV l (i+2)/\zV l (i+2)<=15 then Qc l (i+3) ((s%4096)|||((zV l (i+2)).toNat*4096))else Qc l (i+1) s:=by
  have h0:Qc l i s=zO (l.length - (i+1)+1) (zV l i::l.drop (i+1)) s:=by
    unfold Qc
    rw[zjL hi,show l.length - i=l.length - (i+1)+1 by omega]
  rw[h0]
  simp only[zO]
  have hm:(match l.drop (i+1)with
   |a::k::l'=>
    if zV l i=38/\a=5/\0<=k/\k<=255 then zO (l.length - (i+1)) l' ((s / 256*256)|||k.toNat)
    else if zV l i=48/\a=5/\0<=k/\k<=15 then zO (l.length - (i+1)) l' ((s%4096)|||(k.toNat*4096))
    else zO (l.length - (i+1)) (l.drop (i+1)) s
   |_=>zO (l.length - (i+1)) (l.drop (i+1)) s)=(if zV l i=38/\zV l (i+1)=5/\0<=zV l (i+2)/\zV l (i+2)<=255 then Qc l (i+3) ((s / 256*256)|||(zV l (i+2)).toNat)
    else if zV l i=48/\zV l (i+1)=5/\0<=zV l (i+2)/\zV l (i+2)<=15 then Qc l (i+3) ((s%4096)|||((zV l (i+2)).toNat*4096))else Qc l (i+1) s):=by
    by_cases h2:i+2<l.length
    ·have e:l.drop (i+1)=zV l (i+1)::zV l (i+2)::l.drop (i+3):=by rw[zjL (show i+1<l.length by omega),zjL h2]
     have fu:∀st,zO (l.length - (i+1)) (l.drop (i+3)) st=Qc l (i+3) st:=fun st=>za9 _ _ _ _ (by rw[List.length_drop];omega) (by rw[List.length_drop];omega)
     have fu2:zO (l.length - (i+1)) (l.drop (i+1)) s=Qc l (i+1) s:=rfl
     rw[<-fu2]
     rw[e]
     dsimp only
     rw[fu,fu]
    ·have hk:zV l (i+2)= -1:=zm0 (by omega)
     rw[if_neg (fun hh=>by rw[hk]at hh;exact absurd hh.2.2.1 (by decide)),if_neg (fun hh=>by rw[hk]at hh;exact absurd hh.2.2.1 (by decide))]
     split
     ·rename_i a1 a2 a3 hl
      exfalso
      have:=congrArg List.length hl
      rw[List.length_drop]at this
      simp only[List.length_cons]at this
      omega
     ·rfl
  rw[<-hm]
  rfl
theorem hi8{a:Nat}(ha:a<65536):IntKind.u16.wrap (((BitVec.ofInt IntKind.u16.bits (a:Int)&&&BitVec.ofInt IntKind.u16.bits 65280).toNat:Nat):Int)=((a / 256*256:Nat):Int):=by
  rw[show(BitVec.ofInt IntKind.u16.bits 65280:BitVec IntKind.u16.bits)= ~~~BitVec.ofInt IntKind.u16.bits 255 by decide]
  exact zsx ha
set_option maxRecDepth 4000 in
theorem zmO:zdJ.Ok Tryz.prog 80:=by
  refine zmN ⟨zn9,trivial⟩ ?_
  rintro⟨A,g,hl,a,c,l⟩ w ⟨hG,hF,hc,hfar,hbd,hll⟩
  dsimp only at hG hF hc hfar hbd hll⊢
  have hsty:=hF.sty
  refine⟨⟨(0,g.sty),rfl,⟨Nat.zero_le _,RlOut.refl hG,by rw[Nat.sub_zero,List.drop_zero];rfl,hsty⟩⟩,?_⟩
  rintro _ ⟨i,s⟩ w1 ⟨hle,hO,heq,hs⟩
  dsimp only at hle hO heq hs⊢
  have hG1:=hO.is
  have hc1:CellsAt w1 a (l.map (Value.int .i64)):=hc.fr hO.st.fr (fun q hq=>hfar q hq)
  refine zb (fun h=> ?_) (fun h=> ?_)
  rotate_left
  ·have hi:i=l.length:=by have:=of_decide_eq_false h;omega
   rw[hi,Nat.sub_self,List.drop_length]at heq
   refine⟨A,rfl,?_⟩
   rw[<-heq];exact hO
  have hi:i<l.length:=by have:=of_decide_eq_true h;omega
  have hst:=zuE s hi
  rw[show Qc l i s=Zq l g.sty from heq]at hst
  have hn:=hbd _ (zeF hi)
  refine⟨?_,?_⟩
  rotate_left
  ·rintro _ ⟨i2,s2⟩ W ⟨⟨h1,h2,h3,h4⟩,hi2⟩
   dsimp only at h1 h2 h3 h4 hi2⊢
   exact⟨zd (by omega) (by omega),(i2+1,s2),rfl,⟨h1,h2,h3,h4⟩,by omega⟩
  refine⟨zd (by omega) (by omega),⟨a,c,l,i+2⟩,rfl,hc1,?_⟩
  rintro _ w2 ⟨rfl,hw2⟩
  replace hw2:=hw2.symm;subst hw2
  dsimp only
  have put:∀{W:World} {s':Nat},Stored w1 ⟨A.p,7,none⟩ (.int .u16 (s':Int)) W->s'<65536->Zq l g.sty=Qc l (i+1) s'->
   ∃c1:Nat×Nat,Value.int .i64 (i:Int)=Value.int .i64 (c1.1:Int)/\rsJ ⟨A,g,hl,a,c,l⟩ w c1.1 c1.2 W/\(i:Int)<=(c1.1:Int):=
    fun{W s'} h1 h2 h3=>⟨(i,s'),rfl,⟨hi,hO.trans (qZ hG1 h1 rfl rfl),h3.symm,h2⟩,by dsimp only;omega⟩
  have put2:∀{W:World} {s':Nat},i+2<l.length->Stored w1 ⟨A.p,7,none⟩ (.int .u16 (s':Int)) W->s'<65536->Zq l g.sty=Qc l (i+3) s'->
   ∃c1:Nat×Nat,Value.int .i64 ((i:Int)+2)=Value.int .i64 (c1.1:Int)/\rsJ ⟨A,g,hl,a,c,l⟩ w c1.1 c1.2 W/\(i:Int)<=(c1.1:Int):=
    fun{W s'} h0 h1 h2 h3=>⟨(i+2,s'),rfl,⟨h0,hO.trans (qZ hG1 h1 rfl rfl),h3.symm,h2⟩,by dsimp only;omega⟩
  have fin:Zq l g.sty=Qc l (i+1) s->
   ∃c1:Nat×Nat,Value.int .i64 (i:Int)=Value.int .i64 (c1.1:Int)/\rsJ ⟨A,g,hl,a,c,l⟩ w c1.1 c1.2 w1/\(i:Int)<=(c1.1:Int):=
    fun h3=>⟨(i,s),rfl,⟨hi,hO,h3.symm,hs⟩,by dsimp only;omega⟩
  have ld:∀{K:Int->Prop},K (zV l i)->∃k:Nat,(i:Int)=(k:Int)/\k<l.length/\zr a fun b o=>∃n:Int,w1.cell? ⟨b,o+k,none⟩=some (.int .i64 n)/\K n:=
    fun hK=>⟨i,rfl,hi,hc1.int hi fun b o hb=>⟨_,hb,by rw[Qa hi];exact hK⟩⟩
  have sld:w1.cell? ⟨A.p,7,none⟩=some (.int .u16 (s:Int)):=(za hG1.box 7).trans rfl
  have sold:=hG1.old (k:=7) (by decide)
  have sfree:=hG1.free 7
  have b48:zV l i≠ -1/\zV l i≠0/\zV l i≠1/\zV l i≠3/\zV l i≠4/\zV l i≠7->¬(zV l i=38/\zV l (i+1)=5/\0<=zV l (i+2)/\zV l (i+2)<=255)->
   Zq l g.sty=if zV l i=48/\zV l (i+1)=5/\0<=zV l (i+2)/\zV l (i+2)<=15 then Qc l (i+3) ((s%4096)|||((zV l (i+2)).toNat*4096))else Qc l (i+1) s:=fun hh h38=>by
    rw[if_neg (by omega),if_neg hh.2.2.1,if_neg hh.2.2.2.1,if_neg hh.2.2.2.2.1,if_neg hh.2.2.2.2.2,if_neg h38]at hst
    exact hst
  have hk:=zom hbd (i+2)
  have blk48:zV l i≠ -1/\zV l i≠0/\zV l i≠1/\zV l i≠3/\zV l i≠4/\zV l i≠7->¬(zV l i=38/\zV l (i+1)=5/\0<=zV l (i+2)/\zV l (i+2)<=255)->
   ∃k6:Nat,(i:Int)=(k6:Int)/\k6<l.length/\zr a fun b6 o6=>∃n6:Int,w1.cell? ⟨b6,o6+k6,none⟩=some (.int .i64 n6)/\zc (n6==48)
    (InR .i64 ((i:Int)+1)/\∃g3:GAt, #[Value.slice a l.length c,Value.int .i64 ((i:Int)+1)]= #[Value.slice g3.a g3.l.length g3.c,Value.int .i64 (g3.i:Int)]/\CellsAt w1 g3.a (g3.l.map (Value.int .i64))/\∀(x3:Int) (w'3:World),x3=zV g3.l g3.i/\w'3=w1->
      zc (x3==5) (zc (decide (zV l (i+2)>=0)) (zc (decide (zV l (i+2)<=15))
       (∃n7:Int,w'3.cell? ⟨A.p,7,none⟩=some (.int .u16 n7)/\InR .u16 (zV l (i+2))/\true=true/\(∃old,w'3.cell? ⟨A.p,7,none⟩=some old)/\w'3.frozen? ⟨A.p,7,none⟩=false/\
        ∀w1,Stored w'3 ⟨A.p,7,none⟩ (.int .u16 (IntKind.u16.wrap (((BitVec.ofInt IntKind.u16.bits (IntKind.u16.wrap (((BitVec.ofInt IntKind.u16.bits n7&&&BitVec.ofInt IntKind.u16.bits 4095).toNat:Nat):Int))|||BitVec.ofInt IntKind.u16.bits (IntKind.u16.wrap (zV l (i+2)*2^min (Int.toNat 12) IntKind.u16.bits))).toNat:Nat):Int))) w1->
         InR .i64 ((i:Int)+2)/\∃c1:Nat×Nat,Value.int .i64 ((i:Int)+2)=Value.int .i64 (c1.1:Int)/\rsJ ⟨A,g,hl,a,c,l⟩ w c1.1 c1.2 w1/\(i:Int)<=(c1.1:Int))
       (∃c1:Nat×Nat,Value.int .i64 (i:Int)=Value.int .i64 (c1.1:Int)/\rsJ ⟨A,g,hl,a,c,l⟩ w c1.1 c1.2 w'3/\(i:Int)<=(c1.1:Int)))
       (∃c1:Nat×Nat,Value.int .i64 (i:Int)=Value.int .i64 (c1.1:Int)/\rsJ ⟨A,g,hl,a,c,l⟩ w c1.1 c1.2 w'3/\(i:Int)<=(c1.1:Int)))
       (∃c1:Nat×Nat,Value.int .i64 (i:Int)=Value.int .i64 (c1.1:Int)/\rsJ ⟨A,g,hl,a,c,l⟩ w c1.1 c1.2 w'3/\(i:Int)<=(c1.1:Int)))
    (∃c1:Nat×Nat,Value.int .i64 (i:Int)=Value.int .i64 (c1.1:Int)/\rsJ ⟨A,g,hl,a,c,l⟩ w c1.1 c1.2 w1/\(i:Int)<=(c1.1:Int)):=by
    intro hne h38
    have hb:=b48 hne h38
    refine ld (zb (fun h1=>⟨zd (by omega) (by omega),⟨a,c,l,i+1⟩,rfl,hc1,?_⟩) (fun h1=>fin ?_))
    ·rintro _ w3 ⟨rfl,hw3⟩
     replace hw3:=hw3.symm;subst hw3
     dsimp only
     refine zb (fun h2=>zb (fun h3=>zb (fun h4=> ?_) (fun h4=>fin ?_)) (fun h3=>fin ?_)) (fun h2=>fin ?_)
     ·have h1:=beq_iff_eq.1 h1
      have h2:=beq_iff_eq.1 h2
      have h3:0<=zV l (i+2):=of_decide_eq_true h3
      have h4:=of_decide_eq_true h4
      rw[if_pos ⟨h1,h2,h3,h4⟩]at hb
      have h0:i+2<l.length:=by
        rcases Nat.lt_or_ge (i+2) l.length with e|e
        ·exact e
        ·rw[zm0 e]at h3;exact absurd h3 (by decide)
      refine⟨s,sld,⟨by show(0:Int)<=_;omega,by show _<=(65535:Int);omega⟩,rfl,sold,sfree,fun w4 hs4=>⟨zd (by omega) (by omega),?_⟩⟩
      rw[zos hs,zxd h3 h4,zap (by omega) (by omega)]at hs4
      exact put2 h0 hs4 (zbZ (by omega) (by omega)) hb
     ·have h4:=of_decide_eq_false h4
      rw[if_neg (fun hh=>h4 hh.2.2.2)]at hb;exact hb
     ·have h3:=of_decide_eq_false h3
      rw[if_neg (fun hh=>h3 hh.2.2.1)]at hb;exact hb
     ·have h2:=beq_eq_false_iff_ne.1 h2
      rw[if_neg (fun hh=>h2 hh.2.1)]at hb;exact hb
    ·have h1:=beq_eq_false_iff_ne.1 h1
     rw[if_neg (fun hh=>h1 hh.1)]at hb;exact hb
  refine ld (zb (fun h1=>⟨rfl,sold,sfree,fun W hs1=> ?_⟩) (fun h1=> ?_))
  ·have h1:=of_decide_eq_true h1
   rw[if_pos (by omega)]at hst
   exact put (s':=0) hs1 (by decide) hst
  have h1:¬zV l i<=0:=of_decide_eq_false h1
  refine ld (zb (fun h2=>⟨s,sld,rfl,sold,sfree,fun W hs1=> ?_⟩) (fun h2=> ?_))
  ·have h2:=beq_iff_eq.1 h2
   rw[if_neg (by omega),if_pos h2]at hst
   rw[show(256:Int)=((256:Nat):Int)from rfl,zap hs (by decide)]at hs1
   exact put hs1 (zbZ hs (by decide)) hst
  have h2:=beq_eq_false_iff_ne.1 h2
  refine ld (zb (fun h3=>⟨s,sld,rfl,sold,sfree,fun W hs1=> ?_⟩) (fun h3=> ?_))
  ·have h3:=beq_iff_eq.1 h3
   rw[if_neg (by omega),if_neg h2,if_pos h3]at hst
   rw[show(512:Int)=((512:Nat):Int)from rfl,zap hs (by decide)]at hs1
   exact put hs1 (zbZ hs (by decide)) hst
  have h3:=beq_eq_false_iff_ne.1 h3
  refine ld (zb (fun h4=>⟨s,sld,rfl,sold,sfree,fun W hs1=> ?_⟩) (fun h4=> ?_))
  ·have h4:=beq_iff_eq.1 h4
   rw[if_neg (by omega),if_neg h2,if_neg h3,if_pos h4]at hst
   rw[show(1024:Int)=((1024:Nat):Int)from rfl,zap hs (by decide)]at hs1
   exact put hs1 (zbZ hs (by decide)) hst
  have h4:=beq_eq_false_iff_ne.1 h4
  refine ld (zb (fun h5=>⟨s,sld,rfl,sold,sfree,fun W hs1=> ?_⟩) (fun h5=> ?_))
  ·have h5:=beq_iff_eq.1 h5
   rw[if_neg (by omega),if_neg h2,if_neg h3,if_neg h4,if_pos h5]at hst
   rw[show(2048:Int)=((2048:Nat):Int)from rfl,zap hs (by decide)]at hs1
   exact put hs1 (zbZ hs (by decide)) hst
  have h5:=beq_eq_false_iff_ne.1 h5
  have hne:zV l i≠ -1/\zV l i≠0/\zV l i≠1/\zV l i≠3/\zV l i≠4/\zV l i≠7:=⟨by omega,by omega,h2,h3,h4,h5⟩
  refine ld (zb (fun h6=>⟨zd (by omega) (by omega),⟨a,c,l,i+1⟩,rfl,hc1,?_⟩) (fun h6=>blk48 hne (fun hh=>beq_eq_false_iff_ne.1 h6 hh.1)))
  rintro _ w3 ⟨rfl,hw3⟩
  replace hw3:=hw3.symm;subst hw3
  dsimp only
  refine zb (fun h7=>zb (fun h8=>zb (fun h9=> ?_) (fun h9=>blk48 hne (fun hh=>of_decide_eq_false h9 hh.2.2.2))) (fun h8=>blk48 hne (fun hh=>of_decide_eq_false h8 hh.2.2.1))) (fun h7=>blk48 hne (fun hh=>beq_eq_false_iff_ne.1 h7 hh.2.1))
  have h6:=beq_iff_eq.1 h6
  have h7:=beq_iff_eq.1 h7
  have h8:0<=zV l (i+2):=of_decide_eq_true h8
  have h9:=of_decide_eq_true h9
  rw[if_neg (by omega),if_neg h2,if_neg h3,if_neg h4,if_neg h5,if_pos ⟨h6,h7,h8,h9⟩]at hst
  have h0:i+2<l.length:=by
    rcases Nat.lt_or_ge (i+2) l.length with e|e
    ·exact e
    ·rw[zm0 e]at h8;exact absurd h8 (by decide)
  refine⟨s,sld,⟨by show(0:Int)<=_;omega,by show _<=(65535:Int);omega⟩,rfl,sold,sfree,fun w4 hs4=>⟨zd (by omega) (by omega),?_⟩⟩
  have e8:zV l (i+2)=(((zV l (i+2)).toNat:Nat):Int):=(Int.toNat_of_nonneg h8).symm
  rw[hi8 hs,e8,zap (by omega) (by omega)]at hs4
  exact put2 h0 hs4 (zbZ (by omega) (by omega)) hst
end

section
open Go Go.RowKit Vc Ut Tb Cl
def gH(g:Gs)(hl:List Int):Gs:={g with num:=(zcW hl).num,asked:=(zcW hl).asked,void:=(zcW hl).void}
structure GRd2 where
  A:GlP
  g:Gs
  hl:List Int
  r:Int
def zi9:List (Nat×CallSpec):=[(78,zjq),(79,zkC),(80,zdJ)]
def nms(hl:List Int):List Int:=(zaX hl).getD [-1]
def zug(g:GRd2)(w00:World):Ann where
  sp:=zi9
  cuts:=[(2,2,{X:=Unit,sh:=fun _ _=>[(19, .bool (Qz g.hl&&(g.r==104&&zV (nms g.hl) 0==25)))],inv:=fun _ w0 _ w=>w=w0}),
    (4,4,{X:=Unit,sh:=fun _ _=>[(34, .bool (Qz g.hl&&(g.r==108&&zV (nms g.hl) 0==25)))],inv:=fun _ w0 _ w=>w=w0}),
    (10,10,{X:=Unit,sh:=fun _ _=>[(80, .bool (g.r==74&&zV (nms g.hl) 0==2))],inv:=fun _ w0 _ w=>w=w0})]
def zjt:CallSpec where
  G:=GRd2
  args:=fun g=> #[.pointer (some ⟨g.A.p,0,none⟩), .int .i32 g.r]
  pre:=fun g w=>RlIn w g.A g.g g.hl/\fitG g.g/\g.hl.length<=1099511627775
  X:=GlP
  res:=fun _=> .tuple #[]
  post:=fun g w x w'=>RlOut w w' g.A x (zL (zk (gH g.g g.hl)) g.r) g.hl
structure rkIn(w:World)(A:GlP)(g:Gs)(hl:List Int)(m:Nat):Prop where
  gl:RlIn w A g hl
  ok:okG g m
  mb:m<=549755813888
  hd:g.stt=2->hdG g=zcW hl
  len:hl.length<=m
structure rkOut(w w':World)(A:GlP)(A':GlP)(g':Gs)(hl':List Int)(m:Nat):Prop where
  out:RlOut w w' A A' g' hl'
  hd:g'.stt=2->hdG g'=zcW hl'
  len:hl'.length<=m
def zi6:List (Nat×CallSpec):=[(53,zjt),(54,zas .i8 zn),(55,znW),(56,zgH)]
def zjp:CallSpec where
  G:=GRt
  args:=fun g=> #[.pointer (some ⟨g.A.p,0,none⟩), .int .i32 g.r]
  pre:=fun g w=>rkIn w g.A g.g g.hl g.m
  X:=GlP×List Int
  res:=fun _=> .tuple #[]
  post:=fun g w x w'=>rkOut w w' g.A x.1 (zj g.g g.r) x.2 (g.m+1)
end

section
set_option linter.unusedVariables false
open Go Go.RowKit Vc Ut Tb Cl
open Value
set_option maxRecDepth 1000000
theorem zr7(hsp:zf Tryz.prog zi9)(h:∀(g:GRd2) (w:World),RlIn w g.A g.g g.hl/\fitG g.g/\g.hl.length<=1099511627775->qL w g.A.p 11 fun a1 n c=>∃(g1:GNu), #[slice a1 n c]= #[slice g1.a g1.l.length g1.c]/\(CellsAt w g1.a (List.map (int IntKind.i32) g1.l)/\g1.l.length<=1099511627776/\g1.l.length<=g1.c)/\∀(x:NuX) w',nuOut g1.l w w' x->zc (!x.ok) (∃(x1:GlP),tuple #[]=tuple #[]/\RlOut w w' g.A x1 (zL (zk (gH g.g g.hl)) g.r) g.hl) (zc x.asked (zc (g.r==104) (qd (0:Int) x.n fun k=>zr x.a fun(b o:Nat)=>zt w' b (o+k) fun n1=>∃(c1:Unit),bool (n1==25)=bool (Qz g.hl&&(g.r==104&&zV (nms g.hl) 0==25))/\w'=w') (∃(c1:Unit),bool false=bool (Qz g.hl&&(g.r==104&&zV (nms g.hl) 0==25))/\w'=w')) (∃(c1:Unit),bool false=bool (Qz g.hl&&(g.r==104&&zV (nms g.hl) 0==25))/\w'=w')/\∀(u:Nat->Value) (c1:Unit) w'1,w'1=w'->zc (Qz g.hl&&(g.r==104&&zV (nms g.hl) 0==25)) (zh w'1 g.A.p 6 (bool true) fun w1=>∃(x1:GlP),tuple #[]=tuple #[]/\RlOut w w1 g.A x1 (zL (zk (gH g.g g.hl)) g.r) g.hl) (zc x.asked (zc (g.r==108) (qd (0:Int) x.n fun k=>zr x.a fun(b o:Nat)=>zt w'1 b (o+k) fun n1=>∃(c2:Unit),bool (n1==25)=bool (Qz g.hl&&(g.r==108&&zV (nms g.hl) 0==25))/\w'1=w'1) (∃(c2:Unit),bool false=bool (Qz g.hl&&(g.r==108&&zV (nms g.hl) 0==25))/\w'1=w'1)) (∃(c2:Unit),bool false=bool (Qz g.hl&&(g.r==108&&zV (nms g.hl) 0==25))/\w'1=w'1)/\∀(u1:Nat->Value) (c2:Unit) w'2,w'2=w'1->zc (Qz g.hl&&(g.r==108&&zV (nms g.hl) 0==25)) (zh w'2 g.A.p 6 (bool false) fun w1=>∃(x1:GlP),tuple #[]=tuple #[]/\RlOut w w1 g.A x1 (zL (zk (gH g.g g.hl)) g.r) g.hl) (zc x.asked (∃(x1:GlP),tuple #[]=tuple #[]/\RlOut w w'2 g.A x1 (zL (zk (gH g.g g.hl)) g.r) g.hl) (zc (g.r==72) (∀w1,Drew w'2 w1->zt w'2 g.A.p 1 fun n1=>∃(g2:GAt), #[slice x.a x.n x.c,int .i64 0]= #[slice g2.a g2.l.length g2.c,int .i64 (g2.i:Int)]/\CellsAt w1 g2.a (List.map (int IntKind.i64) g2.l)/\∀(x1:Int) w'3,x1=zV g2.l g2.i/\w'3=w1->Below w1.heap.size w1 w'3/\InR IntKind.i64 ((if n1<if(1:Int)>x1 then(1:Int)else x1 then n1 else if(1:Int)>x1 then(1:Int)else x1) - 1)/\zh w'3 g.A.p 5 (int IntKind.i64 (if(if n1<if(1:Int)>x1 then(1:Int)else x1 then n1 else if(1:Int)>x1 then(1:Int)else x1) - 1>(0:Int)then(if n1<if(1:Int)>x1 then(1:Int)else x1 then n1 else if(1:Int)>x1 then(1:Int)else x1) - 1 else(0:Int))) fun w11=>∀w12,Drew w11 w12->zt w11 g.A.p 0 fun n2=>∃(g3:GAt), #[slice x.a x.n x.c,int .i64 1]= #[slice g3.a g3.l.length g3.c,int .i64 (g3.i:Int)]/\CellsAt w12 g3.a (List.map (int IntKind.i64) g3.l)/\∀(x2:Int) w'4,x2=zV g3.l g3.i/\w'4=w12->Below w12.heap.size w12 w'4/\InR IntKind.i64
 ((if n2<if(1:Int)>x2 then(1:Int)else x2 then n2 else if(1:Int)>x2 then(1:Int)else x2) - 1)/\zh w'4 g.A.p 4 (int IntKind.i64 (if(if n2<if(1:Int)>x2 then(1:Int)else x2 then n2 else if(1:Int)>x2 then(1:Int)else x2) - 1>(0:Int)then(if n2<if(1:Int)>x2 then(1:Int)else x2 then n2 else if(1:Int)>x2 then(1:Int)else x2) - 1 else(0:Int))) fun w13=>∃(x3:GlP),tuple #[]=tuple #[]/\RlOut w w13 g.A x3 (zL (zk (gH g.g g.hl)) g.r) g.hl) (zc (g.r==74) (qd (0:Int) x.n fun k=>zr x.a fun(b o:Nat)=>zt w'2 b (o+k) fun n1=>∃(c3:Unit),bool (n1==2)=bool (g.r==74&&zV (nms g.hl) 0==2)/\w'2=w'2) (∃(c3:Unit),bool false=bool (g.r==74&&zV (nms g.hl) 0==2)/\w'2=w'2)/\∀(u2:Nat->Value) (c3:Unit) w'3,w'3=w'2->zc (g.r==74&&zV (nms g.hl) 0==2) (∀w1,Drew w'3 w1->zt w'3 g.A.p 0 fun n1=>zt w'3 g.A.p 1 fun n2=>InR .i64 (n1*n2)/\∃(n3:Nat) (m:Nat),n1*n2=(n3:Int)/\n1*n2=(m:Int)/\n3<=m/\48*m<=281474976710656/\m<=9223372036854775807/\∀b w11,New w1 (Obj.cells (Qu (agg #[string (ByteArray.mk #[]),int .i8 0,int .i64 0,int .i64 0,bool false,int .u16 0]).cells m) 52) b w11->Below w1.heap.size w1 w11/\zh w11 g.A.p 3 (slice (some ⟨b,0,none⟩) n3 m) fun w12=>∀w13,Drew w12 w13->zt w12 g.A.p 4 fun n4=>zt w12 g.A.p 0 fun n5=>InR .i64 (n5 - 1)/\zh w13 g.A.p 4 (int IntKind.i64 (if(if n5 - 1<n4 then n5 - 1 else n4)>0 then if n5 - 1<n4 then n5 - 1 else n4 else(0:Int))) fun w14=>∃(x1:GlP),tuple #[]=tuple #[]/\RlOut w w14 g.A x1 (zL (zk (gH g.g g.hl)) g.r) g.hl) (zc (g.r==109) (∃(g2:GSt), #[pointer (some ⟨g.A.p,0,none⟩),slice x.a x.n x.c]= #[pointer (some ⟨g2.A.p,0,none⟩),slice g2.a g2.l.length g2.c]/\(RlIn w'3 g2.A g2.g g2.hl/\fitG g2.g/\CellsAt w'3 g2.a (List.map (int IntKind.i64) g2.l)/\(∀(q:Nat),qi g2.a=some q->¬own g2.A q)/\(∀(n1:Int),n1∈g2.l->(-1:Int)<=n1/\n1<=9999)/\g2.l.length<=1099511627776)/\∀(x1:GlP) w'4,RlOut w'3 w'4 g2.A x1 (zbb g2.g (Zq g2.l g2.g.sty)) g2.hl->∃(x2:GlP),tuple #[]=tuple #[]/\RlOut w w'4 g.A x2 (zL (zk (gH g.g g.hl)) g.r) g.hl) (∃(x1:GlP),tuple #[]=tuple #[]/\RlOut w w'3 g.A x1 (zL (zk (gH g.g g.hl)) g.r) g.hl)))))))):zjt.Ok Tryz.prog 53:=ze zjt zug zi9 (fun _ _=>rfl) (fun _ _=>rfl) hsp Tryz.func53 rfl (n:=2) (fun _=>rfl) (by kernel_rfl) (zl (by kernel_rfl) h)
theorem zrP(hsp:zf Tryz.prog zi6)(h:∀(g:GRt) (w:World),rkIn w g.A g.g g.hl g.m->zt w g.A.p 10 fun n=>zc (n==1) (zh w g.A.p 10 (int .i64 0) fun w1=>zc (g.r==91) (zh w1 g.A.p 10 (int .i64 2) fun w11=>zh w11 g.A.p 11 (slice none 0 0) fun w12=>∃(x:GlP×List Int),tuple #[]=tuple #[]/\rkOut w w12 g.A x.fst (zj g.g g.r) x.snd (g.m+1)) (∃(x:GlP×List Int),tuple #[]=tuple #[]/\rkOut w w1 g.A x.fst (zj g.g g.r) x.snd (g.m+1))) (zt w g.A.p 10 fun n1=>zc (n1==2) (zc (decide (g.r>=32)) (zc (decide (g.r<=63)) (qL w g.A.p 11 fun a1 n2 c=>∀b w1,New w (Obj.cells #[int .i32 g.r] 21) b w1->∃(a':Option Addr) (c':Nat) (w':World),zA Tryz.prog #[69,69] 69 (slice a1 n2 c) (slice (some ⟨b,0,none⟩) 1 1) w1 a' (n2+1) c' w'/\KO w1 w'/\zh w' g.A.p 11 (slice a' (n2+1) c') fun w11=>∃(x:GlP×List Int),tuple #[]=tuple #[]/\rkOut w w11 g.A x.fst (zj g.g g.r) x.snd (g.m+1)) (zt w g.A.p 10 fun n2=>zc (n2==2) (zc (decide (g.r>=64)) (zc (decide (g.r<=126)) (zh w g.A.p 10 (int .i64 0) fun w1=>∃(g1:GRd2), #[pointer (some ⟨g.A.p,0,none⟩),int .i32 g.r]= #[pointer (some ⟨g1.A.p,0,none⟩),int .i32 g1.r]/\(RlIn w1 g1.A g1.g g1.hl/\fitG g1.g/\g1.hl.length<=1099511627775)/\∀(x:GlP) w',RlOut w1 w' g1.A x (zL (zk (gH g1.g g1.hl)) g1.r) g1.hl->∃(x1:GlP×List Int),tuple #[]=tuple #[]/\rkOut w w' g.A x1.fst (zj g.g g.r) x1.snd (g.m+1)) (zh w g.A.p 10 (int .i64 0) fun w1=>∃(g1:Int), #[int .i32 g.r]= #[int .i32 g1]/\True/\∀(x:Int) w',x=zn g1/\w'=w1->zc (x !=0) (∃(g2:GRt), #[pointer (some ⟨g.A.p,0,none⟩),int .i32 g.r]= #[pointer (some ⟨g2.A.p,0,none⟩),int .i32 g2.r]/\(zdk w' g2.A g2.g g2.hl g2.m/\g2.g.stt=0)/\∀(x1:GlP) w'1,RlOut w' w'1 g2.A x1 (qD g2.g g2.r) g2.hl->∃(x2:GlP×List Int),tuple #[]=tuple #[]/\rkOut w w'1 g.A x2.fst (zj g.g g.r) x2.snd (g.m+1)) (zh w' g.A.p 8 (int .i64 (-1:Int)) fun w11=>zc (g.r==27) (zh w11 g.A.p 10 (int .i64 1) fun w12=>∃(x1:GlP×List Int),tuple #[]=tuple #[]/\rkOut w w12 g.A x1.fst (zj g.g g.r) x1.snd (g.m+1)) (zc (g.r==13) (zh w11 g.A.p 4 (int .i64 0) fun w12=>∃(x1:GlP×List Int),tuple #[]=tuple #[]/\rkOut w w12 g.A x1.fst (zj g.g g.r) x1.snd (g.m+1)) (zc (g.r==10) (∀w12,Drew w11 w12->zt w11 g.A.p 4 fun n3=>zt w11 g.A.p 0 fun n4=>InR .i64 (n4 - 1)/\zh w12 g.A.p 4 (int IntKind.i64 (if(if(0:Int)>n4 - 1 then(0:Int)else n4 - 1)<n3 then if(0:Int)>n4 - 1 then(0:Int)else n4 - 1 else n3)) fun w13=>∃(g2:GRl), #[pointer (some ⟨g.A.p,0,none⟩)]= #[pointer (some ⟨g2.A.p,0,none⟩)]/\(RlIn w13 g2.A g2.g g2.hl/\fitG g2.g/\g2.g.last=0)/\∀(x1:GlP) w'1,RlOut w13 w'1 g2.A x1 (qc g2.g) g2.hl->∃(x2:GlP×List Int),tuple #[]=tuple #[]/\rkOut w w'1 g.A x2.fst (zj g.g g.r) x2.snd (g.m+1)) (∃(x1:GlP×List Int),
 tuple #[]=tuple #[]/\rkOut w w11 g.A x1.fst (zj g.g g.r) x1.snd (g.m+1))))))) (zh w g.A.p 10 (int .i64 0) fun w1=>∃(g1:Int), #[int .i32 g.r]= #[int .i32 g1]/\True/\∀(x:Int) w',x=zn g1/\w'=w1->zc (x !=0) (∃(g2:GRt), #[pointer (some ⟨g.A.p,0,none⟩),int .i32 g.r]= #[pointer (some ⟨g2.A.p,0,none⟩),int .i32 g2.r]/\(zdk w' g2.A g2.g g2.hl g2.m/\g2.g.stt=0)/\∀(x1:GlP) w'1,RlOut w' w'1 g2.A x1 (qD g2.g g2.r) g2.hl->∃(x2:GlP×List Int),tuple #[]=tuple #[]/\rkOut w w'1 g.A x2.fst (zj g.g g.r) x2.snd (g.m+1)) (zh w' g.A.p 8 (int .i64 (-1:Int)) fun w11=>zc (g.r==27) (zh w11 g.A.p 10 (int .i64 1) fun w12=>∃(x1:GlP×List Int),tuple #[]=tuple #[]/\rkOut w w12 g.A x1.fst (zj g.g g.r) x1.snd (g.m+1)) (zc (g.r==13) (zh w11 g.A.p 4 (int .i64 0) fun w12=>∃(x1:GlP×List Int),tuple #[]=tuple #[]/\rkOut w w12 g.A x1.fst (zj g.g g.r) x1.snd (g.m+1)) (zc (g.r==10) (∀w12,Drew w11 w12->zt w11 g.A.p 4 fun n3=>zt w11 g.A.p 0 fun n4=>InR .i64 (n4 - 1)/\zh w12 g.A.p 4 (int IntKind.i64 (if(if(0:Int)>n4 - 1 then(0:Int)else n4 - 1)<n3 then if(0:Int)>n4 - 1 then(0:Int)else n4 - 1 else n3)) fun w13=>∃(g2:GRl), #[pointer (some ⟨g.A.p,0,none⟩)]= #[pointer (some ⟨g2.A.p,0,none⟩)]/\(RlIn w13 g2.A g2.g g2.hl/\fitG g2.g/\g2.g.last=0)/\∀(x1:GlP) w'1,RlOut w13 w'1 g2.A x1 (qc g2.g) g2.hl->∃(x2:GlP×List Int),tuple #[]=tuple #[]/\rkOut w w'1 g.A x2.fst (zj g.g g.r) x2.snd (g.m+1)) (∃(x1:GlP×List Int),tuple #[]=tuple #[]/\rkOut w w11 g.A x1.fst (zj g.g g.r) x1.snd (g.m+1))))))) (zh w g.A.p 10 (int .i64 0) fun w1=>∃(g1:Int), #[int .i32 g.r]= #[int .i32 g1]/\True/\∀(x:Int) w',x=zn g1/\w'=w1->zc (x !=0) (∃(g2:GRt), #[pointer (some ⟨g.A.p,0,none⟩),int .i32 g.r]= #[pointer (some ⟨g2.A.p,0,none⟩),int .i32 g2.r]/\(zdk w' g2.A g2.g g2.hl g2.m/\g2.g.stt=0)/\∀(x1:GlP) w'1,RlOut w' w'1 g2.A x1 (qD g2.g g2.r) g2.hl->∃(x2:GlP×List Int),tuple #[]=tuple #[]/\rkOut w w'1 g.A x2.fst (zj g.g g.r) x2.snd (g.m+1)) (zh w' g.A.p 8 (int .i64 (-1:Int)) fun w11=>zc (g.r==27) (zh w11 g.A.p 10 (int .i64 1) fun w12=>∃(x1:GlP×List Int),tuple #[]=tuple #[]/\rkOut w w12 g.A x1.fst (zj g.g g.r) x1.snd (g.m+1)) (zc (g.r==13) (zh w11 g.A.p 4 (int .i64 0) fun w12=>∃(x1:GlP×List Int),tuple #[]=tuple #[]/\rkOut w w12 g.A x1.fst (zj g.g g.r) x1.snd (g.m+1)) (zc (g.r==10) (∀w12,Drew w11 w12->zt w11 g.A.p 4 fun n3=>zt w11 g.A.p 0 fun n4=>InR .i64 (n4 - 1)/\zh w12 g.A.p 4 (int IntKind.i64 (if(if(0:Int)>n4 - 1 then(0:Int)else n4 - 1)<n3 then if(0:Int)>n4 - 1 then(0:Int)else n4 - 1 else n3)) fun w13=>∃(g2:GRl), #[pointer (some ⟨g.A.p,0,none⟩)]= #[pointer (some ⟨g2.A.p,0,none⟩)]/\(RlIn w13 g2.A g2.g g2.hl/\fitG g2.g/\g2.g.last=0)/\∀(x1:GlP) w'1,
 RlOut w13 w'1 g2.A x1 (qc g2.g) g2.hl->∃(x2:GlP×List Int),tuple #[]=tuple #[]/\rkOut w w'1 g.A x2.fst (zj g.g g.r) x2.snd (g.m+1)) (∃(x1:GlP×List Int),tuple #[]=tuple #[]/\rkOut w w11 g.A x1.fst (zj g.g g.r) x1.snd (g.m+1)))))))) (zt w g.A.p 10 fun n2=>zc (n2==2) (zc (decide (g.r>=64)) (zc (decide (g.r<=126)) (zh w g.A.p 10 (int .i64 0) fun w1=>∃(g1:GRd2), #[pointer (some ⟨g.A.p,0,none⟩),int .i32 g.r]= #[pointer (some ⟨g1.A.p,0,none⟩),int .i32 g1.r]/\(RlIn w1 g1.A g1.g g1.hl/\fitG g1.g/\g1.hl.length<=1099511627775)/\∀(x:GlP) w',RlOut w1 w' g1.A x (zL (zk (gH g1.g g1.hl)) g1.r) g1.hl->∃(x1:GlP×List Int),tuple #[]=tuple #[]/\rkOut w w' g.A x1.fst (zj g.g g.r) x1.snd (g.m+1)) (zh w g.A.p 10 (int .i64 0) fun w1=>∃(g1:Int), #[int .i32 g.r]= #[int .i32 g1]/\True/\∀(x:Int) w',x=zn g1/\w'=w1->zc (x !=0) (∃(g2:GRt), #[pointer (some ⟨g.A.p,0,none⟩),int .i32 g.r]= #[pointer (some ⟨g2.A.p,0,none⟩),int .i32 g2.r]/\(zdk w' g2.A g2.g g2.hl g2.m/\g2.g.stt=0)/\∀(x1:GlP) w'1,RlOut w' w'1 g2.A x1 (qD g2.g g2.r) g2.hl->∃(x2:GlP×List Int),tuple #[]=tuple #[]/\rkOut w w'1 g.A x2.fst (zj g.g g.r) x2.snd (g.m+1)) (zh w' g.A.p 8 (int .i64 (-1:Int)) fun w11=>zc (g.r==27) (zh w11 g.A.p 10 (int .i64 1) fun w12=>∃(x1:GlP×List Int),tuple #[]=tuple #[]/\rkOut w w12 g.A x1.fst (zj g.g g.r) x1.snd (g.m+1)) (zc (g.r==13) (zh w11 g.A.p 4 (int .i64 0) fun w12=>∃(x1:GlP×List Int),tuple #[]=tuple #[]/\rkOut w w12 g.A x1.fst (zj g.g g.r) x1.snd (g.m+1)) (zc (g.r==10) (∀w12,Drew w11 w12->zt w11 g.A.p 4 fun n3=>zt w11 g.A.p 0 fun n4=>InR .i64 (n4 - 1)/\zh w12 g.A.p 4 (int IntKind.i64 (if(if(0:Int)>n4 - 1 then(0:Int)else n4 - 1)<n3 then if(0:Int)>n4 - 1 then(0:Int)else n4 - 1 else n3)) fun w13=>∃(g2:GRl), #[pointer (some ⟨g.A.p,0,none⟩)]= #[pointer (some ⟨g2.A.p,0,none⟩)]/\(RlIn w13 g2.A g2.g g2.hl/\fitG g2.g/\g2.g.last=0)/\∀(x1:GlP) w'1,RlOut w13 w'1 g2.A x1 (qc g2.g) g2.hl->∃(x2:GlP×List Int),tuple #[]=tuple #[]/\rkOut w w'1 g.A x2.fst (zj g.g g.r) x2.snd (g.m+1)) (∃(x1:GlP×List Int),tuple #[]=tuple #[]/\rkOut w w11 g.A x1.fst (zj g.g g.r) x1.snd (g.m+1))))))) (zh w g.A.p 10 (int .i64 0) fun w1=>∃(g1:Int), #[int .i32 g.r]= #[int .i32 g1]/\True/\∀(x:Int) w',x=zn g1/\w'=w1->zc (x !=0) (∃(g2:GRt), #[pointer (some ⟨g.A.p,0,none⟩),int .i32 g.r]= #[pointer (some ⟨g2.A.p,0,none⟩),int .i32 g2.r]/\(zdk w' g2.A g2.g g2.hl g2.m/\g2.g.stt=0)/\∀(x1:GlP) w'1,RlOut w' w'1 g2.A x1 (qD g2.g g2.r) g2.hl->∃(x2:GlP×List Int),tuple #[]=tuple #[]/\rkOut w w'1 g.A x2.fst (zj g.g g.r) x2.snd (g.m+1)) (zh w' g.A.p 8 (int .i64 (-1:Int)) fun w11=>zc (g.r==27) (zh w11 g.A.p 10 (int .i64 1) fun w12=>∃(x1:GlP×List Int),
 tuple #[]=tuple #[]/\rkOut w w12 g.A x1.fst (zj g.g g.r) x1.snd (g.m+1)) (zc (g.r==13) (zh w11 g.A.p 4 (int .i64 0) fun w12=>∃(x1:GlP×List Int),tuple #[]=tuple #[]/\rkOut w w12 g.A x1.fst (zj g.g g.r) x1.snd (g.m+1)) (zc (g.r==10) (∀w12,Drew w11 w12->zt w11 g.A.p 4 fun n3=>zt w11 g.A.p 0 fun n4=>InR .i64 (n4 - 1)/\zh w12 g.A.p 4 (int IntKind.i64 (if(if(0:Int)>n4 - 1 then(0:Int)else n4 - 1)<n3 then if(0:Int)>n4 - 1 then(0:Int)else n4 - 1 else n3)) fun w13=>∃(g2:GRl), #[pointer (some ⟨g.A.p,0,none⟩)]= #[pointer (some ⟨g2.A.p,0,none⟩)]/\(RlIn w13 g2.A g2.g g2.hl/\fitG g2.g/\g2.g.last=0)/\∀(x1:GlP) w'1,RlOut w13 w'1 g2.A x1 (qc g2.g) g2.hl->∃(x2:GlP×List Int),tuple #[]=tuple #[]/\rkOut w w'1 g.A x2.fst (zj g.g g.r) x2.snd (g.m+1)) (∃(x1:GlP×List Int),tuple #[]=tuple #[]/\rkOut w w11 g.A x1.fst (zj g.g g.r) x1.snd (g.m+1))))))) (zh w g.A.p 10 (int .i64 0) fun w1=>∃(g1:Int), #[int .i32 g.r]= #[int .i32 g1]/\True/\∀(x:Int) w',x=zn g1/\w'=w1->zc (x !=0) (∃(g2:GRt), #[pointer (some ⟨g.A.p,0,none⟩),int .i32 g.r]= #[pointer (some ⟨g2.A.p,0,none⟩),int .i32 g2.r]/\(zdk w' g2.A g2.g g2.hl g2.m/\g2.g.stt=0)/\∀(x1:GlP) w'1,RlOut w' w'1 g2.A x1 (qD g2.g g2.r) g2.hl->∃(x2:GlP×List Int),tuple #[]=tuple #[]/\rkOut w w'1 g.A x2.fst (zj g.g g.r) x2.snd (g.m+1)) (zh w' g.A.p 8 (int .i64 (-1:Int)) fun w11=>zc (g.r==27) (zh w11 g.A.p 10 (int .i64 1) fun w12=>∃(x1:GlP×List Int),tuple #[]=tuple #[]/\rkOut w w12 g.A x1.fst (zj g.g g.r) x1.snd (g.m+1)) (zc (g.r==13) (zh w11 g.A.p 4 (int .i64 0) fun w12=>∃(x1:GlP×List Int),tuple #[]=tuple #[]/\rkOut w w12 g.A x1.fst (zj g.g g.r) x1.snd (g.m+1)) (zc (g.r==10) (∀w12,Drew w11 w12->zt w11 g.A.p 4 fun n3=>zt w11 g.A.p 0 fun n4=>InR .i64 (n4 - 1)/\zh w12 g.A.p 4 (int IntKind.i64 (if(if(0:Int)>n4 - 1 then(0:Int)else n4 - 1)<n3 then if(0:Int)>n4 - 1 then(0:Int)else n4 - 1 else n3)) fun w13=>∃(g2:GRl), #[pointer (some ⟨g.A.p,0,none⟩)]= #[pointer (some ⟨g2.A.p,0,none⟩)]/\(RlIn w13 g2.A g2.g g2.hl/\fitG g2.g/\g2.g.last=0)/\∀(x1:GlP) w'1,RlOut w13 w'1 g2.A x1 (qc g2.g) g2.hl->∃(x2:GlP×List Int),tuple #[]=tuple #[]/\rkOut w w'1 g.A x2.fst (zj g.g g.r) x2.snd (g.m+1)) (∃(x1:GlP×List Int),tuple #[]=tuple #[]/\rkOut w w11 g.A x1.fst (zj g.g g.r) x1.snd (g.m+1)))))))) (zt w g.A.p 10 fun n2=>zc (n2==2) (zc (decide (g.r>=64)) (zc (decide (g.r<=126)) (zh w g.A.p 10 (int .i64 0) fun w1=>∃(g1:GRd2), #[pointer (some ⟨g.A.p,0,none⟩),int .i32 g.r]= #[pointer (some ⟨g1.A.p,0,none⟩),int .i32 g1.r]/\(RlIn w1 g1.A g1.g g1.hl/\fitG g1.g/\g1.hl.length<=1099511627775)/\∀(x:GlP) w',RlOut w1 w' g1.A x (zL (zk (gH g1.g g1.hl)) g1.r) g1.hl->∃(x1:GlP×List Int),
 tuple #[]=tuple #[]/\rkOut w w' g.A x1.fst (zj g.g g.r) x1.snd (g.m+1)) (zh w g.A.p 10 (int .i64 0) fun w1=>∃(g1:Int), #[int .i32 g.r]= #[int .i32 g1]/\True/\∀(x:Int) w',x=zn g1/\w'=w1->zc (x !=0) (∃(g2:GRt), #[pointer (some ⟨g.A.p,0,none⟩),int .i32 g.r]= #[pointer (some ⟨g2.A.p,0,none⟩),int .i32 g2.r]/\(zdk w' g2.A g2.g g2.hl g2.m/\g2.g.stt=0)/\∀(x1:GlP) w'1,RlOut w' w'1 g2.A x1 (qD g2.g g2.r) g2.hl->∃(x2:GlP×List Int),tuple #[]=tuple #[]/\rkOut w w'1 g.A x2.fst (zj g.g g.r) x2.snd (g.m+1)) (zh w' g.A.p 8 (int .i64 (-1:Int)) fun w11=>zc (g.r==27) (zh w11 g.A.p 10 (int .i64 1) fun w12=>∃(x1:GlP×List Int),tuple #[]=tuple #[]/\rkOut w w12 g.A x1.fst (zj g.g g.r) x1.snd (g.m+1)) (zc (g.r==13) (zh w11 g.A.p 4 (int .i64 0) fun w12=>∃(x1:GlP×List Int),tuple #[]=tuple #[]/\rkOut w w12 g.A x1.fst (zj g.g g.r) x1.snd (g.m+1)) (zc (g.r==10) (∀w12,Drew w11 w12->zt w11 g.A.p 4 fun n3=>zt w11 g.A.p 0 fun n4=>InR .i64 (n4 - 1)/\zh w12 g.A.p 4 (int IntKind.i64 (if(if(0:Int)>n4 - 1 then(0:Int)else n4 - 1)<n3 then if(0:Int)>n4 - 1 then(0:Int)else n4 - 1 else n3)) fun w13=>∃(g2:GRl), #[pointer (some ⟨g.A.p,0,none⟩)]= #[pointer (some ⟨g2.A.p,0,none⟩)]/\(RlIn w13 g2.A g2.g g2.hl/\fitG g2.g/\g2.g.last=0)/\∀(x1:GlP) w'1,RlOut w13 w'1 g2.A x1 (qc g2.g) g2.hl->∃(x2:GlP×List Int),tuple #[]=tuple #[]/\rkOut w w'1 g.A x2.fst (zj g.g g.r) x2.snd (g.m+1)) (∃(x1:GlP×List Int),tuple #[]=tuple #[]/\rkOut w w11 g.A x1.fst (zj g.g g.r) x1.snd (g.m+1))))))) (zh w g.A.p 10 (int .i64 0) fun w1=>∃(g1:Int), #[int .i32 g.r]= #[int .i32 g1]/\True/\∀(x:Int) w',x=zn g1/\w'=w1->zc (x !=0) (∃(g2:GRt), #[pointer (some ⟨g.A.p,0,none⟩),int .i32 g.r]= #[pointer (some ⟨g2.A.p,0,none⟩),int .i32 g2.r]/\(zdk w' g2.A g2.g g2.hl g2.m/\g2.g.stt=0)/\∀(x1:GlP) w'1,RlOut w' w'1 g2.A x1 (qD g2.g g2.r) g2.hl->∃(x2:GlP×List Int),tuple #[]=tuple #[]/\rkOut w w'1 g.A x2.fst (zj g.g g.r) x2.snd (g.m+1)) (zh w' g.A.p 8 (int .i64 (-1:Int)) fun w11=>zc (g.r==27) (zh w11 g.A.p 10 (int .i64 1) fun w12=>∃(x1:GlP×List Int),tuple #[]=tuple #[]/\rkOut w w12 g.A x1.fst (zj g.g g.r) x1.snd (g.m+1)) (zc (g.r==13) (zh w11 g.A.p 4 (int .i64 0) fun w12=>∃(x1:GlP×List Int),tuple #[]=tuple #[]/\rkOut w w12 g.A x1.fst (zj g.g g.r) x1.snd (g.m+1)) (zc (g.r==10) (∀w12,Drew w11 w12->zt w11 g.A.p 4 fun n3=>zt w11 g.A.p 0 fun n4=>InR .i64 (n4 - 1)/\zh w12 g.A.p 4 (int IntKind.i64 (if(if(0:Int)>n4 - 1 then(0:Int)else n4 - 1)<n3 then if(0:Int)>n4 - 1 then(0:Int)else n4 - 1 else n3)) fun w13=>∃(g2:GRl), #[pointer (some ⟨g.A.p,0,none⟩)]= #[pointer (some ⟨g2.A.p,0,none⟩)]/\(RlIn w13 g2.A g2.g g2.hl/\fitG g2.g/\g2.g.last=0)/\∀(x1:GlP) w'1,
 RlOut w13 w'1 g2.A x1 (qc g2.g) g2.hl->∃(x2:GlP×List Int),tuple #[]=tuple #[]/\rkOut w w'1 g.A x2.fst (zj g.g g.r) x2.snd (g.m+1)) (∃(x1:GlP×List Int),tuple #[]=tuple #[]/\rkOut w w11 g.A x1.fst (zj g.g g.r) x1.snd (g.m+1))))))) (zh w g.A.p 10 (int .i64 0) fun w1=>∃(g1:Int), #[int .i32 g.r]= #[int .i32 g1]/\True/\∀(x:Int) w',x=zn g1/\w'=w1->zc (x !=0) (∃(g2:GRt), #[pointer (some ⟨g.A.p,0,none⟩),int .i32 g.r]= #[pointer (some ⟨g2.A.p,0,none⟩),int .i32 g2.r]/\(zdk w' g2.A g2.g g2.hl g2.m/\g2.g.stt=0)/\∀(x1:GlP) w'1,RlOut w' w'1 g2.A x1 (qD g2.g g2.r) g2.hl->∃(x2:GlP×List Int),tuple #[]=tuple #[]/\rkOut w w'1 g.A x2.fst (zj g.g g.r) x2.snd (g.m+1)) (zh w' g.A.p 8 (int .i64 (-1:Int)) fun w11=>zc (g.r==27) (zh w11 g.A.p 10 (int .i64 1) fun w12=>∃(x1:GlP×List Int),tuple #[]=tuple #[]/\rkOut w w12 g.A x1.fst (zj g.g g.r) x1.snd (g.m+1)) (zc (g.r==13) (zh w11 g.A.p 4 (int .i64 0) fun w12=>∃(x1:GlP×List Int),tuple #[]=tuple #[]/\rkOut w w12 g.A x1.fst (zj g.g g.r) x1.snd (g.m+1)) (zc (g.r==10) (∀w12,Drew w11 w12->zt w11 g.A.p 4 fun n3=>zt w11 g.A.p 0 fun n4=>InR .i64 (n4 - 1)/\zh w12 g.A.p 4 (int IntKind.i64 (if(if(0:Int)>n4 - 1 then(0:Int)else n4 - 1)<n3 then if(0:Int)>n4 - 1 then(0:Int)else n4 - 1 else n3)) fun w13=>∃(g2:GRl), #[pointer (some ⟨g.A.p,0,none⟩)]= #[pointer (some ⟨g2.A.p,0,none⟩)]/\(RlIn w13 g2.A g2.g g2.hl/\fitG g2.g/\g2.g.last=0)/\∀(x1:GlP) w'1,RlOut w13 w'1 g2.A x1 (qc g2.g) g2.hl->∃(x2:GlP×List Int),tuple #[]=tuple #[]/\rkOut w w'1 g.A x2.fst (zj g.g g.r) x2.snd (g.m+1)) (∃(x1:GlP×List Int),tuple #[]=tuple #[]/\rkOut w w11 g.A x1.fst (zj g.g g.r) x1.snd (g.m+1))))))))):zjp.Ok Tryz.prog 40:=ze zjp (zP zi6) zi6 (fun _ _=>rfl) (fun _ _=>rfl) hsp Tryz.func40 rfl (n:=2) (fun _=>rfl) (by kernel_rfl) (zl (by kernel_rfl) h)
end

section
open Go Go.RowKit Vc Ut Tb Cl
theorem zoH:∀(l:List Int) {h:Hd},h.num≠[]->(l.foldl zar h).num≠[]
  |[],_,hn=>hn
  |r::l,h,_=>by
   rw[List.foldl_cons]
   exact zoH l (zgl h r)
theorem zuX{l:List Int}(h:l≠[]):(zcW l).num≠[]:=by
  cases l with
  |nil=>exact absurd rfl h
  |cons r l=>
   unfold zcW
   rw[List.foldl_cons]
   exact zoH l (zgl _ r)
theorem zha:∀(l:List Int) {out o:List Int},zaY out l=some o->out≠[]->(∀n∈out, -1<=n/\n<=9999)->(∀n∈o, -1<=n/\n<=9999)/\o.length<=out.length+l.length/\o≠[]
  |[],out,o,h,hn,hb=>by
   unfold zaY at h
   have h:=Option.some.inj h
   subst h
   exact⟨hb,Nat.le_add_right _ _,hn⟩
  |r::l,out,o,h,hn,hb=>by
   unfold zaY at h
   split at h
   ·obtain⟨h1,h2,h3⟩:=zha l h (by simp) (fun n hn=>by
      rcases List.mem_append.1 hn with hn|hn
      ·exact hb n hn
      ·rw[List.mem_singleton.1 hn];exact⟨by decide,by decide⟩)
    rw[List.length_append]at h2
    exact⟨h1,by rw[List.length_cons];have:[(-1:Int)].length=1:=rfl;omega,h3⟩
   split at h
   ·have hl:0<out.length:=List.length_pos_iff.2 hn
    have hlast:=hb _ (zeF (show out.length - 1<out.length by omega))
    obtain⟨h1,h2,h3⟩:=zha l h (fun hh=>hn (List.eq_nil_of_length_eq_zero (by have:=congrArg List.length hh;rw[List.length_set]at this;exact this))) (fun n hn=>by
      rcases List.mem_or_eq_of_mem_set hn with hn|hn
      ·exact hb n hn
      ·rw[hn];omega)
    rw[List.length_set]at h2
    exact⟨h1,by rw[List.length_cons];omega,h3⟩
   ·cases h
theorem zsu{l o:List Int}(h:zaX l=some o):(∀n∈o, -1<=n/\n<=9999)/\o.length<=l.length+1/\o≠[]:=by
  unfold zaX at h
  obtain⟨h1,h2,h3⟩:=zha _ h (by simp) (fun n hn=>by rw[List.mem_singleton.1 hn];exact⟨by decide,by decide⟩)
  have hl:(if Qz l=true then l.tail else l).length<=l.length:=by
    split
    ·rw[List.length_tail];omega
    ·exact Nat.le_refl _
  have:[(-1:Int)].length=1:=rfl
  exact⟨h1,by omega,h3⟩
theorem RlIn.hd{w:World}{A:GlP}{g:Gs}{hl:List Int}(h:RlIn w A g hl)(n:List Int)(a v:Bool):RlIn w A {g with num:=n,asked:=a,void:=v} hl:=⟨h.box,h.row,h.held,h.bq,h.bw,h.u⟩
theorem RlOut.hd{w w':World}{A A':GlP}{g:Gs}{hl:List Int}(h:RlOut w w' A A' g hl)(n:List Int)(a v:Bool):RlOut w w' A A' {g with num:=n,asked:=a,void:=v} hl:=⟨h.is.hd n a v,h.p,h.b,h.rb,h.st⟩
theorem zqc{g:Gs}{hl o:List Int}(h:zaX hl=some o):zk (gH g hl)={g with num:=o,asked:=Qz hl,void:=false}:=by
  have hr:=zkJ hl
  rw[h]at hr
  obtain⟨h1,h2,h3⟩:=hr
  unfold zk gH
  dsimp only
  rw[h1,h3]
  by_cases hn:hl=[]
  ·rw[if_pos hn]at h2
   rw[if_pos h2.1,h2.2]
  ·rw[if_neg hn]at h2
   rw[if_neg (zuX hn),h2]
theorem zqd{g:Gs}{hl:List Int}(h:zaX hl=none):∃n a,zk (gH g hl)={g with num:=n,asked:=a,void:=true}:=by
  have hr:=zkJ hl
  rw[h]at hr
  unfold zk gH
  dsimp only
  rw[hr]
  split
  ·exact⟨_,_,rfl⟩
  ·exact⟨_,_,rfl⟩
theorem zy4{n:Int}{m:Nat}:(if(if(m:Int)<if(1:Int)>n then(1:Int)else n then(m:Int)else if(1:Int)>n then(1:Int)else n) - (1:Int)>(0:Int)then(if(m:Int)<if(1:Int)>n then(1:Int)else n then(m:Int)else if(1:Int)>n then(1:Int)else n) - (1:Int)else(0:Int))=((qV n m:Nat):Int):=by
  unfold qV
  split<;>split<;>omega
set_option maxRecDepth 8000 in
theorem zr8:zjt.Ok Tryz.prog 53:=by
  refine zr7 ⟨zrU,zn9,zmO,trivial⟩ ?_
  rintro⟨A,g,hl,r⟩ w ⟨hG,hF,hll⟩
  dsimp only at hG hF hll⊢
  have hw:=hF.w;have hh:=hF.h;have hlen:=hF.len;have hxb:=hF.x
  have hwh:g.w*g.h<=1048576:=Nat.le_trans (Nat.mul_le_mul hw hh) (by decide)
  refine⟨_,_,_,(za hG.box 11).trans rfl,⟨A.na,A.nc,hl⟩,rfl,⟨hG.held.cells,by dsimp only;omega,hG.held.le.1⟩,?_⟩
  rintro⟨xa,xn,xc,xask,xok⟩ w1 ⟨hS,hNn,hx⟩
  dsimp only at hS hNn hx⊢
  have hO1:=RlOut.ext hG hx
  have hG1:=hO1.is
  cases hn:zaX hl with
  |none=>
   have hok:=hNn hn
   subst hok
   refine zb (fun _=>⟨A,rfl,?_⟩) (fun h=>by cases h)
   obtain⟨n,a,e⟩:=zqd (g:=g) hn
   rw[e]
   unfold zL
   rw[if_pos rfl]
   exact hO1.hd n a true
  |some o=>
  obtain⟨hok,hask,hno,hm⟩:=hS o hn
  subst hok hask hno
  obtain⟨hbd,hol,hne⟩:=zsu hn
  have hpos:0<o.length:=List.length_pos_iff.2 hne
  have hc:CellsAt w1 xa (o.map (Value.int .i64)):=hm.row.cells
  have hfar:∀q,qi xa=some q->¬own A q:=fun q hq hq2=>by have:=hm.new q hq;have:=hG.lt q hq2;omega
  have hnms:nms hl=o:=by unfold nms;rw[hn];rfl
  rw[zqc (g:=g) hn,hnms]
  have hO1':=hO1.hd o (Qz hl) false
  have hG1':=hO1'.is
  generalize hgg:({g with num:=o,asked:=Qz hl,void:=false}:Gs)=G at hO1' hG1'
  have hGf:G.w=g.w/\G.h=g.h/\G.cs=g.cs/\G.x=g.x/\G.sty=g.sty/\G.num=o/\G.asked=Qz hl/\G.void=false:=by rw[<-hgg];exact⟨rfl,rfl,rfl,rfl,rfl,rfl,rfl,rfl⟩
  obtain⟨gw,gh,gc,gx,gs,gn,ga,gv⟩:=hGf
  have dE:zL G r=if Qz hl=true then(if zV o 0=25/\(r=104\/r=108)then {G with hid:=r==108}else G)
   else if r=72 then {G with y:=qV (zV o 0) G.h,x:=qV (zV o 1) G.w}
   else if r=74/\zV o 0=2 then qu {G with cs:=List.replicate G.cs.length (zw 0)}
   else if r=109 then {G with sty:=Zq o G.sty}else G:=by
    unfold zL
    rw[gv,ga,gn,if_neg (by decide)]
  rw[dE]
  have ld:∀{W:World} {K:Int->Prop},CellsAt W xa (o.map (Value.int .i64))->K (zV o 0)->∃k:Nat,(0:Int)=(k:Int)/\k<o.length/\zr xa fun b o'=>∃n1:Int,W.cell? ⟨b,o'+k,none⟩=some (.int .i64 n1)/\K n1:=
    fun hc hK=>⟨0,rfl,hpos,hc.int hpos fun b o' hb=>⟨_,hb,by rw[Qa hpos];exact hK⟩⟩
  refine zb (fun h=>by cases h) (fun _=> ?_)
  refine⟨zb (fun h1=>zb (fun h2=>ld hc ⟨(),by rw[h1,h2];rfl,rfl⟩) (fun h2=>⟨(),by rw[h2,Bool.false_and,Bool.and_false],rfl⟩)) (fun h1=>⟨(),by rw[h1,Bool.false_and],rfl⟩),?_⟩
  rintro _ - w2 hw2
  replace hw2:=hw2.symm;subst hw2
  refine zb (fun h=>⟨rfl,hG1'.old (k:=6) (by decide),hG1'.free 6,fun w3 hs3=>⟨A,rfl,?_⟩⟩) (fun hno1=> ?_)
  ·simp only[Bool.and_eq_true,beq_iff_eq]at h
   obtain⟨h1,h2,h3⟩:=h
   rw[if_pos h1,if_pos ⟨h3, .inl h2⟩,h2]
   exact hO1'.trans (qZ (g':={G with hid:=false}) hG1' hs3 rfl rfl)
  refine⟨zb (fun h1=>zb (fun h2=>ld hc ⟨(),by rw[h1,h2];rfl,rfl⟩) (fun h2=>⟨(),by rw[h2,Bool.false_and,Bool.and_false],rfl⟩)) (fun h1=>⟨(),by rw[h1,Bool.false_and],rfl⟩),?_⟩
  rintro _ - w3 hw3
  replace hw3:=hw3.symm;subst hw3
  refine zb (fun h=>⟨rfl,hG1'.old (k:=6) (by decide),hG1'.free 6,fun w3 hs3=>⟨A,rfl,?_⟩⟩) (fun hno2=> ?_)
  ·simp only[Bool.and_eq_true,beq_iff_eq]at h
   obtain⟨h1,h2,h3⟩:=h
   rw[if_pos h1,if_pos ⟨h3, .inr h2⟩,h2]
   exact hO1'.trans (qZ (g':={G with hid:=true}) hG1' hs3 rfl rfl)
  refine zb (fun h1=>⟨A,rfl,?_⟩) (fun h1=> ?_)
  ·rw[if_pos h1,if_neg (fun hh=> ?_)]
   ·exact hO1'
   ·rw[h1,Bool.true_and]at hno1 hno2
    rcases hh.2 with e|e
    ·rw[e,hh.1]at hno1;cases hno1
    ·rw[e,hh.1]at hno2;cases hno2
  rw[if_neg (by rw[h1];decide)]
  refine zb (fun h2=> ?_) (fun h2=> ?_)
  ·have h2:=beq_iff_eq.1 h2
   rw[if_pos h2]
   intro w4 hd4
   have hG4:=hG1'.ext hd4.ext
   have hO4:=hO1'.trans (RlOut.ext hG1' hd4.ext)
   have hb0:=zom hbd 0
   have hb1:=zom hbd 1
   refine⟨G.h,(za hG1'.box 1).trans rfl,⟨xa,xc,o,0⟩,rfl,hc.ext hd4.ext,?_⟩
   rintro _ w5 ⟨rfl,hw5⟩
   replace hw5:=hw5.symm;subst hw5
   dsimp only
   refine⟨Below.refl _ _,zd (by split<;>split<;>omega) (by split<;>split<;>omega),rfl,hG4.old (k:=5) (by decide),hG4.free 5,fun w6 hs6=> ?_⟩
   rw[zy4]at hs6
   have hO6:=hO4.trans (qZ (g':={G with y:=qV (zV o 0) G.h}) hG4 hs6 rfl rfl)
   have hG6:=hO6.is
   intro w7 hd7
   have hG7:=hG6.ext hd7.ext
   have hO7:=hO6.trans (RlOut.ext hG6 hd7.ext)
   have hc6:CellsAt w6 xa (o.map (Value.int .i64)):=(hc.ext hd4.ext).fr (Fr.stored hs6) (fun q hq hh=>hfar q hq (.inl hh))
   refine⟨G.w,(za hG6.box 0).trans rfl,⟨xa,xc,o,1⟩,rfl,hc6.ext hd7.ext,?_⟩
   rintro _ w8 ⟨rfl,hw8⟩
   replace hw8:=hw8.symm;subst hw8
   dsimp only
   refine⟨Below.refl _ _,zd (by split<;>split<;>omega) (by split<;>split<;>omega),rfl,hG7.old (k:=4) (by decide),hG7.free 4,fun w9 hs9=>⟨A,rfl,?_⟩⟩
   rw[zy4]at hs9
   exact hO7.trans (qZ (g':={G with y:=qV (zV o 0) G.h,x:=qV (zV o 1) G.w}) hG7 hs9 rfl rfl)
  have h2:=beq_eq_false_iff_ne.1 h2
  rw[if_neg h2]
  refine⟨zb (fun h3=>ld hc ⟨(),by rw[h3];rfl,rfl⟩) (fun h3=>⟨(),by rw[h3,Bool.false_and],rfl⟩),?_⟩
  rintro _ - w4 hw4
  replace hw4:=hw4.symm;subst hw4
  refine zb (fun h3=> ?_) (fun h3=> ?_)
  ·simp only[Bool.and_eq_true,beq_iff_eq]at h3
   rw[if_pos h3]
   intro w5 hd5
   have hG5:=hG1'.ext hd5.ext
   have hO5:=hO1'.trans (RlOut.ext hG1' hd5.ext)
   have hcast:(G.w:Int)*(G.h:Int)=((g.w*g.h:Nat):Int):=by rw[gw,gh,Int.natCast_mul]
   have hmk:(Qu (ceV (zw 0)).toArray (g.w*g.h)).size=(g.w*g.h)*6:=by
     have:=congrArg List.length (ZP (g.w*g.h))
     rw[Array.length_toList,zR,List.length_replicate]at this
     exact this
   refine⟨G.w,(za hG1'.box 0).trans rfl,G.h,(za hG1'.box 1).trans rfl,?_⟩
   show InR IntKind.i64 ((G.w:Int)*(G.h:Int))/\_
   rw[hcast]
   refine⟨zd (by omega) (by omega),g.w*g.h,g.w*g.h,rfl,rfl,Nat.le_refl _,by omega,by omega,fun b w6 hn6=>⟨hn6.ext,?_⟩⟩
   have hG6:=hG5.ext hn6.ext
   have hrow:Row w6 52 6 (some ⟨b,0,none⟩) (g.w*g.h) ((Qu (ceV (zw 0)).toArray (g.w*g.h)).toList.take (g.w*g.h*6)) (g.w*g.h):=Row.made (n:=g.w*g.h) (s:=6) hn6 (Nat.le_refl _) (show g.w*g.h<=maxLen by unfold maxLen;omega) hmk
   rw[ZP,List.take_of_length_le (by rw[zR,List.length_replicate];exact Nat.le_refl _)]at hrow
   have hm6:Made w5 w6 52 6 (some ⟨b,0,none⟩) (g.w*g.h) (zE (List.replicate (g.w*g.h) (zw 0))) (g.w*g.h):=⟨hrow,fun q hq=>by have:b=q:=Option.some.inj hq;have:=hn6.size;omega,hn6.ext⟩
   refine⟨rfl,hG6.old (k:=3) (by decide),hG6.free 3,fun w7 hs7 w8 hd8=> ?_⟩
   have hO7:=hO5.trans (zoc (cs:=List.replicate (g.w*g.h) (zw 0)) hG5 (List.length_replicate).symm hm6 hs7)
   have hG7:=hO7.is
   have hG8:=hG7.ext hd8.ext
   have hO8:=hO7.trans (RlOut.ext hG7 hd8.ext)
   refine⟨G.x,(za hG7.box 4).trans rfl,G.w,(za hG7.box 0).trans rfl,zd (by omega) (by omega),rfl,hG8.old (k:=4) (by decide),hG8.free 4,fun w9 hs9=>⟨{A with ca:=some ⟨b,0,none⟩,cc:=g.w*g.h},rfl,?_⟩⟩
   have hbk:qu {G with cs:=List.replicate G.cs.length (zw 0)}={G with cs:=List.replicate (g.w*g.h) (zw 0),x:=if G.w<=G.x then G.w - 1 else G.x}:=by
     rw[gc,hlen]
     unfold qu
     dsimp only
     split<;>rfl
   have hval:(if(if(G.w:Int) - 1<(G.x:Int)then(G.w:Int) - 1 else(G.x:Int))>(0:Int)then(if(G.w:Int) - 1<(G.x:Int)then(G.w:Int) - 1 else(G.x:Int))else(0:Int))=(((if G.w<=G.x then G.w - 1 else G.x:Nat)):Int):=by
     split<;>split<;>split<;>omega
   rw[hval]at hs9
   rw[hbk]
   exact hO8.trans (qZ (g':={G with cs:=List.replicate (g.w*g.h) (zw 0),x:=if G.w<=G.x then G.w - 1 else G.x}) hG8 hs9 rfl rfl)
  have h3':¬(r=74/\zV o 0=2):=fun hh=>by rw[hh.1,hh.2]at h3;cases h3
  rw[if_neg h3']
  refine zb (fun h4=> ?_) (fun h4=>⟨A,rfl,?_⟩)
  ·have h4:=beq_iff_eq.1 h4
   rw[if_pos h4]
   refine⟨⟨A,G,hl,xa,xc,o⟩,rfl,⟨hG1',?_,hc,hfar,hbd,by show o.length<=_;omega⟩,?_⟩
   ·rw[<-hgg]
    exact⟨hF.w,hF.h,hF.len,hF.x,hF.y,hF.sty,hF.st,hbd,by show o.length<=_;omega,hF.last⟩
   ·intro A5 w5 hO5
    exact⟨A5,rfl,hO1'.trans hO5⟩
  ·rw[if_neg (beq_eq_false_iff_ne.1 h4)]
   exact hO1'
end
end Go.Proofs.YtjdohhididpomaaGreatDoor
