/-
  Texts joined by program: VgXi, Qg, Qh, Qj, WkXm, WkXn, WkXo, SpXj.
-/
import Derived.Test.YtjdohhididpomaaGreatDoorWg17
import Derived.Test.YtjdohhididpomaaGreatDoorProg
import Derived.KernelRfl
import Derived.Test.YtjdohhididpomaaGreatDoorWg16
import Derived.Test.YtjdohhididpomaaGreatDoorWg05
set_option linter.unusedVariables false
set_option linter.unusedSimpArgs false

namespace Go.Proofs.YtjdohhididpomaaGreatDoor
section
set_option linter.unusedVariables false
open Go Go.RowKit Vc Ut Tb Cl
open Value
set_option maxRecDepth 1000000
theorem zsX(hsp:zf Tryz.prog zjc)(h:∀(g:GTak) (w:World),zf5 w g.A g.g g.m->zt w g.A.p 8 fun n=>zc (n==0) (∃(x:GlP×Bool),bool false=bool x.snd/\x.snd=(zZ g.g g.r).isSome/\GlOut w w g.A x.fst ((zZ g.g g.r).getD g.g)) (zt w g.A.p 8 fun n1=>InR .i64 (n1 - 1)/\qL w g.A.p 3 fun a1 n2 c=>qd (n1 - 1) n2 fun k=>zr a1 fun(b o:Nat)=>LdT w b (o+k*6) fun s=>zX w .i8 b (o+k*6+1) fun n3=>zt w b (o+k*6+2) fun n4=>zt w b (o+k*6+3) fun n5=>ZG w b (o+k*6+4) fun b1=>zX w .u16 b (o+k*6+5) fun n6=>∃(g1:Ce), #[agg #[string s,int .i8 n3,int .i64 n4,int .i64 n5,bool b1,int .u16 n6]]= #[agg #[string g1.t,int .i8 g1.p,int .i64 g1.a,int .i64 g1.n,bool g1.r,int .u16 (g1.st:Int)]]/\True/\∀(x:ByteArray) w',x=zM g1/\Ext w w'->ZG w' g.A.p 2 fun b2=>∃(g2:ByteArray×Bool), #[string x,bool b2]= #[string g2.fst,bool g2.snd]/\(UD w'/\g2.fst.size<=67108864)/\∀(x1:Nat) w'1,x1=plN g2.fst g2.snd/\Ext w' w'1->x.size+(Utf8.encode g.r).size<=9223372036854775807/\ZG w'1 g.A.p 2 fun b3=>∃(g3:ByteArray×Bool), #[string (x++Utf8.encode g.r),bool b3]= #[string g3.fst,bool g3.snd]/\(UD w'1/\g3.fst.size<=67108864)/\∀(x2:Nat) w'2,x2=plN g3.fst g3.snd/\Ext w'1 w'2->zc (decide ((x2:Int)<(x1:Int))) (∃(x3:GlP×Bool),bool false=bool x3.snd/\x3.snd=(zZ g.g g.r).isSome/\GlOut w w'2 g.A x3.fst ((zZ g.g g.r).getD g.g)) (zc (decide ((x2:Int)>(x1:Int))) (InR .i64 (n1 - 1+1)/\zt w'2 g.A.p 0 fun n7=>(0:Int)<=n1 - 1+1/\(0:Int)<n7/\zc ((n1 - 1+1)%n7==0) (zh w'2 g.A.p 8 (int .i64 0) fun w1=>∃(x3:GlP×Bool),bool true=bool x3.snd/\x3.snd=(zZ g.g g.r).isSome/\GlOut w w1 g.A x3.fst ((zZ g.g g.r).getD g.g)) (InR .i64 (n1 - 1+1)/\qL w'2 g.A.p 3 fun a5 n8 c1=>qd (n1 - 1) n8 fun k1=>zr a5 fun(b4 o1:Nat)=>zX w'2 .u16 b4 (o1+k1*6+5) fun n9=>∃(g4:GLy), #[pointer (some ⟨g.A.p,0,none⟩),int .i64 (n1 - 1+1),agg #[string (ByteArray.mk #[]),int .i8 1,int .i64 0,int .i64 0,bool false,int .u16 n9]]= #[pointer (some ⟨g4.A.p,0,none⟩),int .i64 (g4.i:Int),agg #[string g4.c.t,int .i8 g4.c.p,int .i64 g4.c.a,int .i64 g4.c.n,bool g4.c.r,int .u16 (g4.c.st:Int)]]/\(GlIn w'2 g4.A g4.g/\fitG g4.g/\zb0 g4.g g4.i)/\∀(x3:GlP) w'3,GlOut w'2 w'3 g4.A x3 (Qe g4.g g4.i g4.c)->zt w'3 g.A.p 4 fun n10=>InR .i64 (n10+1)/\zh w'3 g.A.p 4 (int .i64 (n10+1)) fun w1=>qL w1 g.A.p 3 fun a8 n11 c2=>x.size+(Utf8.encode g.r).size<=9223372036854775807/\qd (n1 - 1) n11 fun k2=>zr a8 fun(b5 o2:Nat)=>zh w1 b5 (o2+k2*6) (string (x++Utf8.encode g.r)) fun w11=>∃(x4:GlP×Bool),bool true=bool x4.snd/\x4.snd=(zZ g.g g.r).isSome/\GlOut w w11 g.A x4.fst ((zZ g.g g.r).getD g.g))) (qL w'2 g.A.p 3 fun a5 n7 c1=>x.size+(Utf8.encode g.r).size<=9223372036854775807/\
 qd (n1 - 1) n7 fun k1=>zr a5 fun(b4 o1:Nat)=>zh w'2 b4 (o1+k1*6) (string (x++Utf8.encode g.r)) fun w1=>∃(x3:GlP×Bool),bool true=bool x3.snd/\x3.snd=(zZ g.g g.r).isSome/\GlOut w w1 g.A x3.fst ((zZ g.g g.r).getD g.g))))):zjx.Ok Tryz.prog 88:=ze zjx (zP zjc) zjc (fun _ _=>rfl) (fun _ _=>rfl) hsp Tryz.func88 rfl (n:=2) (fun _=>rfl) (by kernel_rfl) (zl (by kernel_rfl) h)
theorem zu9(hsp:zf Tryz.prog zmp)(h:∀(g:GTak) (w:World),zf5 w g.A g.g g.m/\g.g.stt=0->∃(g1:GTak), #[pointer (some ⟨g.A.p,0,none⟩),int .i32 g.r]= #[pointer (some ⟨g1.A.p,0,none⟩),int .i32 g1.r]/\zf5 w g1.A g1.g g1.m/\∀(x:GlP×Bool) w',x.snd=(zZ g1.g g1.r).isSome/\GlOut w w' g1.A x.fst ((zZ g1.g g1.r).getD g1.g)->zc x.snd (∃(x1:GlP),tuple #[]=tuple #[]/\GlOut w w' g.A x1 (qD g.g g.r)) (zh w' g.A.p 8 (int .i64 0) fun w1=>ZG w1 g.A.p 2 fun b=>∃(g2:GT6), #[string (Utf8.encode g.r),int .i64 0,agg #[int .i64 0,bool b,int .i8 0,bool false,bool false]]= #[string g2.s,int .i64 g2.col,agg #[int .i64 g2.l.tab,bool g2.l.wide,int .i8 g2.l.want,bool g2.l.join,bool g2.l.raw]]/\(U8 w1/\DB w1/\g2.s.size<=67108864)/\∀(x1:ByteArray×Nat) w'1,x1=Zi g2.s g2.col g2.l/\Ext w1 w'1->ZG w'1 g.A.p 2 fun b1=>∃(g3:ByteArray×Bool), #[string x1.fst,bool b1]= #[string g3.fst,bool g3.snd]/\(UD w'1/\g3.fst.size<=67108864)/\∀(x2:Nat) w'2,x2=plN g3.fst g3.snd/\Ext w'1 w'2->zc ((x2:Int)==0) (∃(x3:GlP),tuple #[]=tuple #[]/\GlOut w w'2 g.A x3 (qD g.g g.r)) (zt w'2 g.A.p 0 fun n=>zc (decide ((x2:Int)>n)) (∃(x3:GlP),tuple #[]=tuple #[]/\GlOut w w'2 g.A x3 (qD g.g g.r)) (zt w'2 g.A.p 1 fun n1=>zc (n1==0) (∃(x3:GlP),tuple #[]=tuple #[]/\GlOut w w'2 g.A x3 (qD g.g g.r)) ((∀w11,Drew w'2 w11->zt w'2 g.A.p 4 fun n2=>InR .i64 (n2+(x2:Int))/\zt w'2 g.A.p 0 fun n3=>zc (decide (n2+(x2:Int)>n3)) (zh w11 g.A.p 4 (int .i64 0) fun w12=>∃(g4:GGl), #[pointer (some ⟨g.A.p,0,none⟩)]= #[pointer (some ⟨g4.A.p,0,none⟩)]/\(GlIn w12 g4.A g4.g/\fitG g4.g)/\∀(x3:GlP) w'3,GlOut w12 w'3 g4.A x3 (qc g4.g)->∃(c:GlP),ptI g w c w'3 (string x1.fst) (int .i64 (x2:Int))) (∃(c:GlP),ptI g w c w11 (string x1.fst) (int .i64 (x2:Int))))/\∀(u:Nat->Value) (c:GlP) w'3,ptI g w c w'3 (string x1.fst) (int .i64 (x2:Int))->∀w11,Drew w'3 w11->zt w'3 g.A.p 5 fun n2=>zt w'3 g.A.p 0 fun n3=>InR .i64 (n2*n3)/\zt w'3 g.A.p 4 fun n4=>InR .i64 (n2*n3+n4)/\zc ((x2:Int)==2) (InR .i64 (n2*n3+n4+1)/\zX w11 .u16 g.A.p 7 fun n5=>∃(g4:GLy), #[pointer (some ⟨g.A.p,0,none⟩),int .i64 (n2*n3+n4+1),agg #[string (ByteArray.mk #[]),int .i8 0,int .i64 0,int .i64 0,bool false,int .u16 n5]]= #[pointer (some ⟨g4.A.p,0,none⟩),int .i64 (g4.i:Int),agg #[string g4.c.t,int .i8 g4.c.p,int .i64 g4.c.a,int .i64 g4.c.n,bool g4.c.r,int .u16 (g4.c.st:Int)]]/\(GlIn w11 g4.A g4.g/\fitG g4.g/\zb0 g4.g g4.i)/\∀(x3:GlP) w'4,GlOut w11 w'4 g4.A x3 (Qe g4.g g4.i g4.c)->zX w'4 .u16 g.A.p 7 fun n6=>∃(g5:GLy), #[pointer (some ⟨g.A.p,0,none⟩),int .i64 (n2*n3+n4),agg #[string x1.fst,int .i8 0,int .i64 0,int .i64 0,bool false,int .u16 n6]]= #[pointer (some ⟨g5.A.p,0,none⟩),int .i64 (g5.i:Int),agg
 #[string g5.c.t,int .i8 g5.c.p,int .i64 g5.c.a,int .i64 g5.c.n,bool g5.c.r,int .u16 (g5.c.st:Int)]]/\(GlIn w'4 g5.A g5.g/\fitG g5.g/\zb0 g5.g g5.i)/\∀(x4:GlP) w'5,GlOut w'4 w'5 g5.A x4 (Qe g5.g g5.i g5.c)->zc ((x2:Int)==2) (qL w'5 g.A.p 3 fun a9 n7 c1=>InR .i64 (n2*n3+n4+1)/\qd (n2*n3+n4+1) n7 fun k=>zr a9 fun(b2 o:Nat)=>zh w'5 b2 (o+k*6+1) (int .i8 1) fun w12=>zt w12 g.A.p 4 fun n8=>InR .i64 (n8+(x2:Int))/\zh w12 g.A.p 4 (int .i64 (n8+(x2:Int))) fun w13=>InR .i64 (n2*n3+n4+1)/\zh w13 g.A.p 8 (int .i64 (n2*n3+n4+1)) fun w14=>∃(x5:GlP),tuple #[]=tuple #[]/\GlOut w w14 g.A x5 (qD g.g g.r)) (zt w'5 g.A.p 4 fun n7=>InR .i64 (n7+(x2:Int))/\zh w'5 g.A.p 4 (int .i64 (n7+(x2:Int))) fun w12=>InR .i64 (n2*n3+n4+1)/\zh w12 g.A.p 8 (int .i64 (n2*n3+n4+1)) fun w13=>∃(x5:GlP),tuple #[]=tuple #[]/\GlOut w w13 g.A x5 (qD g.g g.r))) (zX w11 .u16 g.A.p 7 fun n5=>∃(g4:GLy), #[pointer (some ⟨g.A.p,0,none⟩),int .i64 (n2*n3+n4),agg #[string x1.fst,int .i8 0,int .i64 0,int .i64 0,bool false,int .u16 n5]]= #[pointer (some ⟨g4.A.p,0,none⟩),int .i64 (g4.i:Int),agg #[string g4.c.t,int .i8 g4.c.p,int .i64 g4.c.a,int .i64 g4.c.n,bool g4.c.r,int .u16 (g4.c.st:Int)]]/\(GlIn w11 g4.A g4.g/\fitG g4.g/\zb0 g4.g g4.i)/\∀(x3:GlP) w'4,GlOut w11 w'4 g4.A x3 (Qe g4.g g4.i g4.c)->zc ((x2:Int)==2) (qL w'4 g.A.p 3 fun a8 n6 c1=>InR .i64 (n2*n3+n4+1)/\qd (n2*n3+n4+1) n6 fun k=>zr a8 fun(b2 o:Nat)=>zh w'4 b2 (o+k*6+1) (int .i8 1) fun w12=>zt w12 g.A.p 4 fun n7=>InR .i64 (n7+(x2:Int))/\zh w12 g.A.p 4 (int .i64 (n7+(x2:Int))) fun w13=>InR .i64 (n2*n3+n4+1)/\zh w13 g.A.p 8 (int .i64 (n2*n3+n4+1)) fun w14=>∃(x4:GlP),tuple #[]=tuple #[]/\GlOut w w14 g.A x4 (qD g.g g.r)) (zt w'4 g.A.p 4 fun n6=>InR .i64 (n6+(x2:Int))/\zh w'4 g.A.p 4 (int .i64 (n6+(x2:Int))) fun w12=>InR .i64 (n2*n3+n4+1)/\zh w12 g.A.p 8 (int .i64 (n2*n3+n4+1)) fun w13=>∃(x4:GlP),tuple #[]=tuple #[]/\GlOut w w13 g.A x4 (qD g.g g.r)))))))):znX.Ok Tryz.prog 62:=ze znX zwU zmp (fun _ _=>rfl) (fun _ _=>rfl) hsp Tryz.func62 rfl (n:=2) (fun _=>rfl) (by kernel_rfl) (zl (by kernel_rfl) h)
theorem zrp(hsp:zf Tryz.prog zi1)(h:∀(g:GTak) (w:World),zf5 w g.A g.g g.m->(zt w g.A.p 10 fun n=>zc (n==1) (zh w g.A.p 10 (int .i64 0) fun w1=>zc (g.r==91) (zh w1 g.A.p 10 (int .i64 2) fun w11=>zh w11 g.A.p 11 (slice none 0 0) fun w12=>zh w12 g.A.p 12 (bool false) fun w13=>zh w13 g.A.p 13 (bool false) fun w14=>∃(x:GlP),tuple #[]=tuple #[]/\GlOut w w14 g.A x (zj g.g g.r)) (∃(x:GlP),tuple #[]=tuple #[]/\GlOut w w1 g.A x (zj g.g g.r))) (zc (n==2) (qL w g.A.p 11 fun a1 n1 c=>zc a1.isNone (∀b w1,New w (Obj.cells #[int .i64 (-1:Int)] 3) b w1->zh w1 g.A.p 11 (slice (some ⟨b,0,none⟩) 1 1) fun w11=>zc (decide (g.r>=32)&&decide (g.r<=63)) (∃(g1:GHo), #[pointer (some ⟨g.A.p,11,none⟩),int .i32 g.r,bool a1.isNone]= #[pointer (some ⟨g1.A.p,11,none⟩),int .i32 g1.r,bool g1.f]/\(GlIn w11 g1.A g1.g/\fitG g1.g/\g1.g.num≠[])/\∀(x:GlP) w',GlOut w11 w' g1.A x (qt g1.g g1.r g1.f)->∃(x1:GlP),tuple #[]=tuple #[]/\GlOut w w' g.A x1 (zj g.g g.r)) (zc (decide (g.r>=64)&&decide (g.r<=126)) (zh w11 g.A.p 10 (int .i64 0) fun w12=>∃(g1:GDs), #[pointer (some ⟨g.A.p,0,none⟩),int .i32 g.r]= #[pointer (some ⟨g1.A.p,0,none⟩),int .i32 g1.r]/\(GlIn w12 g1.A g1.g/\fitG g1.g)/\∀(x:GlP) w',GlOut w12 w' g1.A x (zL g1.g g1.r)->∃(x1:GlP),tuple #[]=tuple #[]/\GlOut w w' g.A x1 (zj g.g g.r)) (zh w11 g.A.p 10 (int .i64 0) fun w12=>∃(y:GlP),GlOut w w12 g.A y (zam (zk g.g) 0)/\zj g.g g.r=qz (zam (zk g.g) 0) g.r/\okG (zam (zk g.g) 0) g.m))) (zc (decide (g.r>=32)&&decide (g.r<=63)) (∃(g1:GHo), #[pointer (some ⟨g.A.p,11,none⟩),int .i32 g.r,bool a1.isNone]= #[pointer (some ⟨g1.A.p,11,none⟩),int .i32 g1.r,bool g1.f]/\(GlIn w g1.A g1.g/\fitG g1.g/\g1.g.num≠[])/\∀(x:GlP) w',GlOut w w' g1.A x (qt g1.g g1.r g1.f)->∃(x1:GlP),tuple #[]=tuple #[]/\GlOut w w' g.A x1 (zj g.g g.r)) (zc (decide (g.r>=64)&&decide (g.r<=126)) (zh w g.A.p 10 (int .i64 0) fun w1=>∃(g1:GDs), #[pointer (some ⟨g.A.p,0,none⟩),int .i32 g.r]= #[pointer (some ⟨g1.A.p,0,none⟩),int .i32 g1.r]/\(GlIn w1 g1.A g1.g/\fitG g1.g)/\∀(x:GlP) w',GlOut w1 w' g1.A x (zL g1.g g1.r)->∃(x1:GlP),tuple #[]=tuple #[]/\GlOut w w' g.A x1 (zj g.g g.r)) (zh w g.A.p 10 (int .i64 0) fun w1=>∃(y:GlP),GlOut w w1 g.A y (zam (zk g.g) 0)/\zj g.g g.r=qz (zam (zk g.g) 0) g.r/\okG (zam (zk g.g) 0) g.m)))) (∃(g1:Int), #[int .i32 g.r]= #[int .i32 g1]/\True/\∀(x:Int) w',x=zn g1/\Ext w w'->zc (x !=0) (∃(g2:GTak), #[pointer (some ⟨g.A.p,0,none⟩),int .i32 g.r]= #[pointer (some ⟨g2.A.p,0,none⟩),int .i32 g2.r]/\(zf5 w' g2.A g2.g g2.m/\g2.g.stt=0)/\∀(x1:GlP) w'1,GlOut w' w'1 g2.A x1 (qD g2.g g2.r)->∃(x2:GlP),tuple #[]=tuple #[]/\GlOut w w'1 g.A x2 (zj g.g g.r)) (zh w' g.A.p 8 (int .i64 0) fun w1=>
 zc (g.r==27) (zh w1 g.A.p 10 (int .i64 1) fun w11=>∃(x1:GlP),tuple #[]=tuple #[]/\GlOut w w11 g.A x1 (zj g.g g.r)) (zc (g.r==13) (zh w1 g.A.p 4 (int .i64 0) fun w11=>∃(x1:GlP),tuple #[]=tuple #[]/\GlOut w w11 g.A x1 (zj g.g g.r)) (zc (g.r==10) (∃(g2:GGl), #[pointer (some ⟨g.A.p,0,none⟩)]= #[pointer (some ⟨g2.A.p,0,none⟩)]/\(GlIn w1 g2.A g2.g/\fitG g2.g)/\∀(x1:GlP) w'1,GlOut w1 w'1 g2.A x1 (qu g2.g)->∃(g3:GGl), #[pointer (some ⟨g.A.p,0,none⟩)]= #[pointer (some ⟨g3.A.p,0,none⟩)]/\(GlIn w'1 g3.A g3.g/\fitG g3.g)/\∀(x2:GlP) w'2,GlOut w'1 w'2 g3.A x2 (qc g3.g)->∃(x3:GlP),tuple #[]=tuple #[]/\GlOut w w'2 g.A x3 (zj g.g g.r)) (∃(x1:GlP),tuple #[]=tuple #[]/\GlOut w w1 g.A x1 (zj g.g g.r))))))))/\(∀(u:Nat->Value) (x:GlP) w',GlOut w w' g.A x (zam (zk g.g) 0)/\zj g.g g.r=qz (zam (zk g.g) 0) g.r/\okG (zam (zk g.g) 0) g.m->zt w' g.A.p 10 fun n=>zc (n==1) (zh w' g.A.p 10 (int .i64 0) fun w1=>zc (g.r==91) (zh w1 g.A.p 10 (int .i64 2) fun w11=>zh w11 g.A.p 11 (slice none 0 0) fun w12=>zh w12 g.A.p 12 (bool false) fun w13=>zh w13 g.A.p 13 (bool false) fun w14=>∃(x1:GlP),tuple #[]=tuple #[]/\GlOut w w14 g.A x1 (zj g.g g.r)) (∃(x1:GlP),tuple #[]=tuple #[]/\GlOut w w1 g.A x1 (zj g.g g.r))) (zc (n==2) (qL w' g.A.p 11 fun a2 n1 c=>zc a2.isNone (∀b w1,New w' (Obj.cells #[int .i64 (-1:Int)] 3) b w1->zh w1 g.A.p 11 (slice (some ⟨b,0,none⟩) 1 1) fun w11=>zc (decide (g.r>=32)&&decide (g.r<=63)) (∃(g1:GHo), #[pointer (some ⟨g.A.p,11,none⟩),int .i32 g.r,bool a2.isNone]= #[pointer (some ⟨g1.A.p,11,none⟩),int .i32 g1.r,bool g1.f]/\(GlIn w11 g1.A g1.g/\fitG g1.g/\g1.g.num≠[])/\∀(x1:GlP) w'1,GlOut w11 w'1 g1.A x1 (qt g1.g g1.r g1.f)->∃(x2:GlP),tuple #[]=tuple #[]/\GlOut w w'1 g.A x2 (zj g.g g.r)) (zc (decide (g.r>=64)&&decide (g.r<=126)) (zh w11 g.A.p 10 (int .i64 0) fun w12=>∃(g1:GDs), #[pointer (some ⟨g.A.p,0,none⟩),int .i32 g.r]= #[pointer (some ⟨g1.A.p,0,none⟩),int .i32 g1.r]/\(GlIn w12 g1.A g1.g/\fitG g1.g)/\∀(x1:GlP) w'1,GlOut w12 w'1 g1.A x1 (zL g1.g g1.r)->∃(x2:GlP),tuple #[]=tuple #[]/\GlOut w w'1 g.A x2 (zj g.g g.r)) (zh w11 g.A.p 10 (int .i64 0) fun w12=>∃(y:GlP),(GlOut w w12 g.A y (zam (zk g.g) 0)/\zj g.g g.r=qz (zam (zk g.g) 0) g.r/\okG (zam (zk g.g) 0) g.m)/\0<0))) (zc (decide (g.r>=32)&&decide (g.r<=63)) (∃(g1:GHo), #[pointer (some ⟨g.A.p,11,none⟩),int .i32 g.r,bool a2.isNone]= #[pointer (some ⟨g1.A.p,11,none⟩),int .i32 g1.r,bool g1.f]/\(GlIn w' g1.A g1.g/\fitG g1.g/\g1.g.num≠[])/\∀(x1:GlP) w'1,GlOut w' w'1 g1.A x1 (qt g1.g g1.r g1.f)->∃(x2:GlP),tuple #[]=tuple #[]/\GlOut w w'1 g.A x2 (zj g.g g.r)) (zc (decide (g.r>=64)&&decide (g.r<=126)) (zh w' g.A.p 10 (int .i64 0) fun w1=>∃(g1:GDs),
 #[pointer (some ⟨g.A.p,0,none⟩),int .i32 g.r]= #[pointer (some ⟨g1.A.p,0,none⟩),int .i32 g1.r]/\(GlIn w1 g1.A g1.g/\fitG g1.g)/\∀(x1:GlP) w'1,GlOut w1 w'1 g1.A x1 (zL g1.g g1.r)->∃(x2:GlP),tuple #[]=tuple #[]/\GlOut w w'1 g.A x2 (zj g.g g.r)) (zh w' g.A.p 10 (int .i64 0) fun w1=>∃(y:GlP),(GlOut w w1 g.A y (zam (zk g.g) 0)/\zj g.g g.r=qz (zam (zk g.g) 0) g.r/\okG (zam (zk g.g) 0) g.m)/\0<0)))) (∃(g1:Int), #[int .i32 g.r]= #[int .i32 g1]/\True/\∀(x1:Int) w'1,x1=zn g1/\Ext w' w'1->zc (x1 !=0) (∃(g2:GTak), #[pointer (some ⟨g.A.p,0,none⟩),int .i32 g.r]= #[pointer (some ⟨g2.A.p,0,none⟩),int .i32 g2.r]/\(zf5 w'1 g2.A g2.g g2.m/\g2.g.stt=0)/\∀(x2:GlP) w'2,GlOut w'1 w'2 g2.A x2 (qD g2.g g2.r)->∃(x3:GlP),tuple #[]=tuple #[]/\GlOut w w'2 g.A x3 (zj g.g g.r)) (zh w'1 g.A.p 8 (int .i64 0) fun w1=>zc (g.r==27) (zh w1 g.A.p 10 (int .i64 1) fun w11=>∃(x2:GlP),tuple #[]=tuple #[]/\GlOut w w11 g.A x2 (zj g.g g.r)) (zc (g.r==13) (zh w1 g.A.p 4 (int .i64 0) fun w11=>∃(x2:GlP),tuple #[]=tuple #[]/\GlOut w w11 g.A x2 (zj g.g g.r)) (zc (g.r==10) (∃(g2:GGl), #[pointer (some ⟨g.A.p,0,none⟩)]= #[pointer (some ⟨g2.A.p,0,none⟩)]/\(GlIn w1 g2.A g2.g/\fitG g2.g)/\∀(x2:GlP) w'2,GlOut w1 w'2 g2.A x2 (qu g2.g)->∃(g3:GGl), #[pointer (some ⟨g.A.p,0,none⟩)]= #[pointer (some ⟨g3.A.p,0,none⟩)]/\(GlIn w'2 g3.A g3.g/\fitG g3.g)/\∀(x3:GlP) w'3,GlOut w'2 w'3 g3.A x3 (qc g3.g)->∃(x4:GlP),tuple #[]=tuple #[]/\GlOut w w'3 g.A x4 (zj g.g g.r)) (∃(x2:GlP),tuple #[]=tuple #[]/\GlOut w w1 g.A x2 (zj g.g g.r))))))))/\True):zjo.Ok Tryz.prog 42:=ze zjo zt7 zi1 (fun _ _=>rfl) (fun _ _=>rfl) hsp Tryz.func42 rfl (n:=2) (fun _=>rfl) (by kernel_rfl) (zl (by kernel_rfl) h)
end

section
open Go Vc Ut Tb Cl Orb
theorem zaL{st:Nat}(h:st<65536):zg6 (zw st):=⟨h,rfl,rfl,rfl⟩
theorem okG.mono{g:Gs}{m n:Nat}(h:okG g m)(hm:m<=n):okG g n:=⟨h.w,h.h,h.len,h.ok,h.x,h.y,h.sty,h.st,h.num,Nat.le_trans h.numl (by omega),h.stt,h.sl,h.last⟩
theorem zsq{w h:Nat}(hw:w<=1024)(hh:h<=1024)(wd:Bool):okG (zaO w h wd) 0:=
  ⟨hw,hh,List.length_replicate,zok _ _ _ _,Nat.zero_le _, .inr rfl,by show(0:Nat)<65536;decide,fun c hc=>by rw[(List.mem_replicate.1 hc).2];exact zaL (by decide),fun _ h=>(by cases h),by show(0:Nat)<=1;decide,by show(0:Nat)<=2;decide,fun _=>rfl,fun h=>absurd rfl h⟩
theorem zfP{l:List Ce}{i:Nat}(h:i<l.length):zg l i∈l:=by rw[zbW h];exact List.getElem_mem h
theorem zb9{l:List Ce}{i:Nat}{c:Ce}(h:∀c∈l,zg6 c)(hc:zg6 c):∀d∈l.set i c,zg6 d:=fun d hd=>(List.mem_or_eq_of_mem_set hd).elim (h d) (fun e=>by rw[e];exact hc)
theorem zgn{l:List Ce}(h:∀c∈l,zg6 c)(i:Nat):zg6 (zg l i):=by
  by_cases hi:i<l.length
  ·exact h _ (zfP hi)
  ·rw[zd8 (by omega)];exact zaL (by decide)
theorem zgm{l:List Ce}{w i:Nat}{c:Ce}(h:∀c∈l,zg6 c)(hc:zg6 c):∀d∈zF l w i c,zg6 d:=by
  unfold zF
  split
  ·exact zb9 (zb9 h (zaL (zgn h _).1)) hc
  split
  ·exact zb9 (zb9 h (zaL (zgn h _).1)) hc
  ·exact zb9 h hc
theorem QE{g:Gs}{m:Nat}(h:okG g m):okG {g with last:=0} m:=⟨h.w,h.h,h.len,h.ok,h.x,h.y,h.sty,h.st,h.num,h.numl,h.stt,fun _=>rfl,fun h=>absurd rfl h⟩
theorem zk8{g:Gs}{m:Nat}(h:okG g m):okG {g with last:=0,x:=0} m:=⟨h.w,h.h,h.len,h.ok,Nat.zero_le _,h.y,h.sty,h.st,h.num,h.numl,h.stt,fun _=>rfl,fun h=>absurd rfl h⟩
theorem zfL{g:Gs}{m:Nat}(h:okG g m)(h0:g.last=0):okG (qu g) m:=by
  unfold qu;split
  ·exact⟨h.w,h.h,h.len,h.ok,by show g.w - 1<=g.w;omega,h.y,h.sty,h.st,h.num,h.numl,h.stt,fun _=>h0,fun h=>absurd h0 h⟩
  ·exact h
theorem zqF(g:Gs):(qu g).last=g.last:=by unfold qu;split<;>rfl
theorem ziC(g:Gs):(qc g).last=g.last:=by unfold qc;split<;>rfl
theorem zjJ{g:Gs}{m:Nat}(h:okG g m)(h0:g.last=0):okG (qc g) m:=by
  unfold qc;split
  ·rename_i hy
   exact⟨h.w,h.h,h.len,h.ok,h.x, .inl hy,h.sty,h.st,h.num,h.numl,h.stt,fun _=>h0,fun h=>absurd h0 h⟩
  ·have hl:=h.len
   by_cases hw:g.w<=g.cs.length
   ·refine⟨h.w,h.h,?_,zst h.ok hw _,h.x,h.y,h.sty,?_,h.num,h.numl,h.stt,fun _=>h0,fun h=>absurd h0 h⟩
    ·show(g.cs.drop g.w++List.replicate (min g.w g.cs.length) (zw 0)).length=g.w*g.h
     rw[List.length_append,List.length_drop,List.length_replicate];omega
    ·intro c hc
     rcases List.mem_append.1 hc with hc|hc
     ·exact h.st c (List.mem_of_mem_drop hc)
     ·rw[(List.mem_replicate.1 hc).2];exact zaL (by decide)
   ·have hc0:g.cs=[]:=by
      have:g.h=0:=by
        rcases Nat.eq_zero_or_pos g.h with e|e
        ·exact e
        ·have:=Nat.le_mul_of_pos_right g.w e;omega
      rw[this,Nat.mul_zero]at hl
      exact List.eq_nil_of_length_eq_zero hl
    have e:({g with cs:=g.cs.drop g.w++List.replicate (min g.w g.cs.length) (zw 0)}:Gs)=g:=by
      rw[show g.cs.drop g.w++List.replicate (min g.w g.cs.length) (zw 0)=g.cs from by rw[hc0];simp]
    rw[e];exact h
theorem ZZ{l:List Ce}{w i:Nat}{wd:Bool}(h:okL l w wd)(hi:i<l.length)(hp:(zg l i).p=0):plN (zM (zg l i)) wd=1\/plN (zM (zg l i)) wd=2/\(i+1)%w≠0/\i+1<l.length/\(zg l (i+1)).p=1/\(zg l (i+1)).st=(zg l i).st/\(zg l (i+1)).t.size=0:=by
  have:=h i hi
  unfold Z0 at this
  rw[if_neg (by rw[hp];decide)]at this
  exact this.2
theorem zag(r:Int):(Zt r).size<=4:=by
  have h:=congrArg List.length (ziB r)
  rw[List.length_map]at h
  have h2:=(zht (zG r)).2
  show(Utf8.encode r).data.size<=4
  rw[<-Array.length_toList]
  omega
theorem zss{l:List Ce}{w i:Nat}{wd:Bool}{s:ByteArray}(h:okL l w wd)(hi:i<l.length)(hp:(zg l i).p=0)(hs:plN s wd=plN (zM (zg l i)) wd):okL (l.set i {zg l i with t:=s}) w wd:=by
  have h2:=ZZ h hi hp
  have hn:plN s wd≠0:=by rcases h2 with h2|h2<;>omega
  have ht:zM {zg l i with t:=s}=s:=zf3 hp hn
  have hg:∀j,zg (l.set i {zg l i with t:=s}) j=if j=i then {zg l i with t:=s}else zg l j:=fun j=>Zd hi
  intro j hj
  rw[List.length_set]at hj
  have hoj:=h j hj
  unfold Z0 at hoj⊢
  have hpp:∀k,(zg (l.set i {zg l i with t:=s}) k).p=(zg l k).p:=fun k=>by
    rw[hg];split
    ·rename_i e;rw[e]
    ·rfl
  have hst:∀k,(zg (l.set i {zg l i with t:=s}) k).st=(zg l k).st:=fun k=>by
    rw[hg];split
    ·rename_i e;rw[e]
    ·rfl
  have hpl:∀k,plN (zM (zg (l.set i {zg l i with t:=s}) k)) wd=plN (zM (zg l k)) wd:=fun k=>by
    rw[hg];split
    ·rename_i e;rw[ht,e,hs]
    ·rfl
  rw[hpp,hpp,hpl,hpl,hpp,hst,hst,List.length_set]
  by_cases h1:(zg l j).p=1
  ·rw[if_pos h1]at hoj⊢;exact hoj
  ·rw[if_neg h1]at hoj⊢
   refine⟨hoj.1,hoj.2.imp id fun⟨a1,a2,a3,a4,a5,a6⟩=>⟨a1,a2,a3,a4,a5,?_⟩⟩
   rw[hg,if_neg (fun e=>by rw[e,hp]at a4;cases a4)]
   exact a6
theorem zvt{g g':Gs}{m:Nat}{r:Int}(h:okG g m)(hj:zZ g r=some g'):okG g' m:=by
  unfold zZ at hj
  split at hj
  ·cases hj
  rename_i hl
  have hL:=h.last hl
  have hlt:g.last - 1<g.cs.length:=by have:=hL.le;omega
  have hst0:g.stt=0:=by
    rcases Nat.eq_zero_or_pos g.stt with e|e
    ·exact e
    ·exact absurd (h.sl (by omega)) hl
  split at hj
  ·cases hj
  rename_i hn1
  split at hj
  ·rename_i hn2
   split at hj
   ·injection hj with hj;subst hj;exact QE h
   ·rename_i hm
    injection hj with hj;subst hj
    have h2:=ZZ h.ok hlt hL.p
    have hb:=zex (zM (zg g.cs (g.last - 1))++Zt r) g.wd
    have h21:plN (zM (zg g.cs (g.last - 1))) g.wd=1:=by rcases h2 with h2|h2<;>omega
    have h22:plN (zM (zg g.cs (g.last - 1))++Zt r) g.wd=2:=by omega
    have hat:=hL.at_
    rw[h21]at hat
    have hxw:g.x<g.w:=by
      rcases Nat.lt_or_ge g.x g.w with e|e
      ·exact e
      ·have e2:g.x=g.w:=Nat.le_antisymm h.x e
       rw[show g.last=g.y*g.w+g.w by omega,Nat.add_mod_right,Nat.mul_mod_left]at hm
       exact absurd rfl hm
    have hyh:g.y<g.h:=by
      rcases h.y with e|e
      ·exact e
      ·rcases Nat.eq_zero_or_pos g.h with e2|e2
       ·have:=h.len;rw[e2,Nat.mul_zero]at this;have:=hL.le;omega
       ·omega
    have hll:g.last<g.cs.length:=by
      rw[h.len]
      have:(g.y+1)*g.w<=g.h*g.w:=Nat.mul_le_mul_right _ hyh
      rw[Nat.add_mul,Nat.one_mul,Nat.mul_comm g.h]at this
      omega
    have hi1:g.last - 1+1=g.last:=by omega
    have hp1:¬(zg g.cs g.last).p=1:=fun e=>by
      have:=h.ok g.last hll
      unfold Z0 at this
      rw[if_pos e]at this
      omega
    have hgl:=Zm (w:=g.w) (c:=ZA (zg g.cs (g.last - 1)).st) hll (fun e=>absurd e hp1)
    have e1:zg (zF g.cs g.w g.last (ZA (zg g.cs (g.last - 1)).st)) (g.last - 1)=zg g.cs (g.last - 1):=by
      rw[hgl,if_neg (by omega),if_neg hp1,if_neg (by omega)]
    rw[e1]
    have hn:plN (zM (zg g.cs (g.last - 1))++Zt r) g.wd≠0:=by omega
    have htx:zM {zg g.cs (g.last - 1)with t:=zM (zg g.cs (g.last - 1))++Zt r}=zM (zg g.cs (g.last - 1))++Zt r:=zf3 hL.p hn
    have hcell:okL ((zF g.cs g.w g.last (ZA (zg g.cs (g.last - 1)).st)).set (g.last - 1) {zg g.cs (g.last - 1)with t:=zM (zg g.cs (g.last - 1))++Zt r}) g.w g.wd:=by
      rw[<-zoy (c:=zw 0),List.set_comm _ _ (by omega)]
      have o1:=zcH h.ok hll (Z8 0 g.wd)
      have hgb:=Zm (w:=g.w) (c:=zw 0) hll (fun e=>absurd e hp1)
      have:=zk9 (i:=g.last - 1) (c:={zg g.cs (g.last - 1)with t:=zM (zg g.cs (g.last - 1))++Zt r}) (d:=ZA (zg g.cs (g.last - 1)).st) o1 (by rw[zQ];omega) (by rw[hi1];exact hm)
        (by rw[hgb,if_neg (by omega),if_neg hp1,if_neg (by omega)];exact⟨hL.p,h21⟩) (by rw[hi1,hgb,if_pos rfl];exact Z8 0 _) hL.p (by rw[htx];exact h22) rfl rfl rfl
      rw[hi1]at this
      exact this
    refine⟨h.w,h.h,?_,hcell,by show g.x+1<=g.w;omega,h.y,h.sty,?_,h.num,h.numl,h.stt,fun e=>absurd hst0 e,fun _=>⟨?_,?_,?_⟩⟩
    ·show(List.set _ _ _).length=_
     rw[List.length_set,zQ];exact h.len
    ·exact zb9 (zgm h.st ⟨(zgn h.st (g.last - 1)).1,rfl,rfl,rfl⟩) (zgn h.st (g.last - 1))
    ·show g.last<=(List.set _ _ _).length
     rw[List.length_set,zQ];exact hL.le
    ·show(zg (List.set _ _ _) (g.last - 1)).p=0
     rw[Zd (by rw[zQ];exact hlt),if_pos rfl];exact hL.p
    ·show g.y*g.w+(g.x+1)+1=g.last+plN (zM (zg (List.set _ _ _) (g.last - 1))) g.wd
     rw[Zd (by rw[zQ];exact hlt),if_pos rfl,htx,h22];omega
  ·rename_i hn2
   injection hj with hj;subst hj
   have heq:plN (zM (zg g.cs (g.last - 1))++Zt r) g.wd=plN (zM (zg g.cs (g.last - 1))) g.wd:=by omega
   have h2:=ZZ h.ok hlt hL.p
   have hn:plN (zM (zg g.cs (g.last - 1))++Zt r) g.wd≠0:=by rcases h2 with h2|h2<;>omega
   have htx:zM {zg g.cs (g.last - 1)with t:=zM (zg g.cs (g.last - 1))++Zt r}=zM (zg g.cs (g.last - 1))++Zt r:=zf3 hL.p hn
   refine⟨h.w,h.h,by rw[List.length_set];exact h.len,zss h.ok hlt hL.p heq,h.x,h.y,h.sty,zb9 h.st (zgn h.st (g.last - 1)),h.num,h.numl,h.stt,h.sl,fun _=>⟨?_,?_,?_⟩⟩
   ·show g.last<=(List.set _ _ _).length
    rw[List.length_set];exact hL.le
   ·show(zg (List.set _ _ _) (g.last - 1)).p=0
    rw[Zd hlt,if_pos rfl];exact hL.p
   ·show g.y*g.w+g.x+1=g.last+plN (zM (zg (List.set _ _ _) (g.last - 1))) g.wd
    rw[Zd hlt,if_pos rfl,htx,heq];exact hL.at_
theorem zlo{g g':Gs}{r:Int}(hj:zZ g r=some g'):g'.stt=g.stt/\g'.w=g.w/\g'.h=g.h/\g'.wd=g.wd:=by
  unfold zZ at hj
  split at hj
  ·cases hj
  split at hj
  ·cases hj
  split at hj
  ·split at hj<;>(injection hj with hj;subst hj;exact⟨rfl,rfl,rfl,rfl⟩)
  ·injection hj with hj;subst hj;exact⟨rfl,rfl,rfl,rfl⟩
theorem zsr{g:Gs}{m n:Nat}{s:ByteArray}(h:okG g m)(hs:g.stt=0)(hn:plN s g.wd=n)(h0:n≠0)(hx:g.x+n<=g.w)(hh:g.h≠0):okG (Ql g s n) m:=by
  have h2:=zex s g.wd
  have hyh:g.y<g.h:=by rcases h.y with e|e<;>omega
  have hi:g.y*g.w+g.x+n<=g.cs.length:=by
    rw[h.len]
    have:(g.y+1)*g.w<=g.h*g.w:=Nat.mul_le_mul_right _ hyh
    rw[Nat.add_mul,Nat.one_mul,Nat.mul_comm g.h]at this
    omega
  have htx:zM ⟨s,0,0,0,false,g.sty⟩=s:=zf3 rfl (by show plN s g.wd≠0;omega)
  have hp0:∀{l:List Ce} {i},okL l g.w g.wd->i<l.length->(zg l i).p=1->0<i:=fun ho hl hp=>by have:=ho _ hl;unfold Z0 at this;rw[if_pos hp]at this;exact this.1
  rcases(show n=1\/n=2 by omega)with e|e
  ·subst e
   have el:Ql g s 1={g with cs:=zF g.cs g.w (g.y*g.w+g.x) ⟨s,0,0,0,false,g.sty⟩,x:=g.x+1,last:=g.y*g.w+g.x+1}:=rfl
   rw[el]
   have hlt:g.y*g.w+g.x<g.cs.length:=by omega
   have hce:zg (zF g.cs g.w (g.y*g.w+g.x) ⟨s,0,0,0,false,g.sty⟩) (g.y*g.w+g.x)=⟨s,0,0,0,false,g.sty⟩:=by rw[Zm hlt (hp0 h.ok hlt),if_pos rfl]
   refine⟨h.w,h.h,by rw[zQ];exact h.len,zcH h.ok hlt ⟨rfl,by rw[htx];exact hn⟩,hx,h.y,h.sty,zgm h.st ⟨h.sty,rfl,rfl,rfl⟩,h.num,h.numl,h.stt,fun e=>absurd hs e,fun _=>⟨?_,?_,?_⟩⟩
   ·show _+1<=(zF _ _ _ _).length;rw[zQ];omega
   ·show(zg (zF _ _ _ _) (g.y*g.w+g.x+1 - 1)).p=0
    rw[Nat.add_sub_cancel,hce]
   ·show g.y*g.w+(g.x+1)+1=g.y*g.w+g.x+1+plN (zM (zg (zF _ _ _ _) (g.y*g.w+g.x+1 - 1))) g.wd
    rw[Nat.add_sub_cancel,hce,htx,hn];omega
  ·subst e
   generalize hii:g.y*g.w+g.x=i at hi
   have hl1:i+1<g.cs.length:=by omega
   have hm:(i+1)%g.w≠0:=by
     rw[<-hii,show g.y*g.w+g.x+1=g.x+1+g.y*g.w by omega,Nat.add_mul_mod_self_right,Nat.mod_eq_of_lt (by omega)]
     omega
   have hla:i<(zF g.cs g.w (i+1) (zw g.sty)).length:=by rw[zQ];omega
   have o1:=zcH (c:=zw g.sty) h.ok hl1 (Z8 g.sty g.wd)
   have g1:zg (zF g.cs g.w (i+1) (zw g.sty)) (i+1)=zw g.sty:=by rw[Zm hl1 (fun _=>by omega),if_pos rfl]
   have hgl:=Zm (w:=g.w) (c:=⟨s,0,0,0,false,g.sty⟩) hla (hp0 o1 hla)
   have g2:zg (zF (zF g.cs g.w (i+1) (zw g.sty)) g.w i ⟨s,0,0,0,false,g.sty⟩) (i+1)=zw g.sty:=by
     rw[hgl,if_neg (by omega)]
     split
     ·rw[if_neg (by omega),g1]
     ·rw[if_neg (fun e=>by rw[g1]at e;have e2:(0:Int)=1:=e.2.1;cases e2),g1]
   have el:Ql g s 2={g with cs:=(zF (zF g.cs g.w (i+1) (zw g.sty)) g.w i ⟨s,0,0,0,false,g.sty⟩).set (i+1) (ZA g.sty),x:=g.x+2,last:=i+1}:=by
     unfold Ql
     dsimp only
     rw[hii,if_pos rfl,if_pos rfl,g2]
     rfl
   rw[el]
   have hce:zg ((zF (zF g.cs g.w (i+1) (zw g.sty)) g.w i ⟨s,0,0,0,false,g.sty⟩).set (i+1) (ZA g.sty)) i=⟨s,0,0,0,false,g.sty⟩:=by
     rw[Zd (by rw[zQ,zQ];exact hl1),if_neg (by omega),hgl,if_pos rfl]
   refine⟨h.w,h.h,by rw[List.length_set,zQ,zQ];exact h.len,zvw (c:=⟨s,0,0,0,false,g.sty⟩) (d:=ZA g.sty) h.ok hl1 hm rfl (by rw[htx];exact hn) rfl rfl rfl _,hx,h.y,h.sty,zb9 (zgm (zgm h.st ⟨h.sty,rfl,rfl,rfl⟩) ⟨h.sty,rfl,rfl,rfl⟩) ⟨h.sty,rfl,rfl,rfl⟩,h.num,h.numl,h.stt,fun e=>absurd hs e,fun _=>⟨?_,?_,?_⟩⟩
   ·show i+1<=(List.set _ _ _).length;rw[List.length_set,zQ,zQ];omega
   ·show(zg (List.set _ _ _) (i+1 - 1)).p=0
    rw[Nat.add_sub_cancel,hce]
   ·show g.y*g.w+(g.x+2)+1=i+1+plN (zM (zg (List.set _ _ _) (i+1 - 1))) g.wd
    rw[Nat.add_sub_cancel,hce,htx,hn];omega
theorem zeO(g:Gs):(qc g).stt=g.stt/\(qc g).w=g.w/\(qc g).h=g.h/\(qc g).wd=g.wd/\(qc g).x=g.x/\(qc g).sty=g.sty:=by
  unfold qc;split<;>exact⟨rfl,rfl,rfl,rfl,rfl,rfl⟩
theorem zxV{g:Gs}{m:Nat}{r:Int}(h:okG g m)(hs:g.stt=0):okG (qD g r) m:=by
  unfold qD
  split
  ·rename_i g' hj
   exact zvt h hj
  ·dsimp only
   split
   ·exact QE h
   ·rename_i hn
    split
    ·have hd:=zeO {g with last:=0,x:=0}
     exact zsr (zjJ (zk8 h) rfl) (by rw[hd.1];exact hs) (by rw[hd.2.2.2.1]) (by omega) (by rw[hd.2.2.2.2.1,hd.2.1];show 0+_<=g.w;omega) (by rw[hd.2.2.1];show g.h≠0;omega)
    ·exact zsr (QE h) hs rfl (by omega) (by show g.x+_<=g.w;omega) (by show g.h≠0;omega)
end

section
open Go Vc Ut Tb Cl Orb
theorem zpR{a b:Nat}(ha:a<65536)(hb:b<65536):a|||b<65536:=Nat.or_lt_two_pow (n:=16) ha hb
theorem znK:∀(f:Nat) (l:List Int) (st:Nat),st<65536->zO f l st<65536
  |0,_,st,h=>by simpa only[zO]using h
  |f+1,[],st,h=>by simpa only[zO]using h
  |f+1,n::l,st,h=>by
   have ih:=fun l st=>znK f l st
   simp only[zO]
   split
   ·exact ih _ _ (by decide)
   split
   ·exact ih _ _ (zpR h (by decide))
   split
   ·exact ih _ _ (zpR h (by decide))
   split
   ·exact ih _ _ (zpR h (by decide))
   split
   ·exact ih _ _ (zpR h (by decide))
   split
   ·split
    ·exact ih _ _ (zpR (by omega) (by omega))
    split
    ·exact ih _ _ (zpR (by omega) (by omega))
    ·exact ih _ _ h
   ·exact ih _ _ h
theorem zxU{g:Gs}{m s:Nat}(h:okG g m)(hs:s<65536):okG {g with sty:=s} m:=⟨h.w,h.h,h.len,h.ok,h.x,h.y,hs,h.st,h.num,h.numl,h.stt,h.sl,fun hl=>⟨(h.last hl).le,(h.last hl).p,(h.last hl).at_⟩⟩
theorem zxW{g:Gs}{m:Nat}{b:Bool}(h:okG g m):okG {g with hid:=b} m:=⟨h.w,h.h,h.len,h.ok,h.x,h.y,h.sty,h.st,h.num,h.numl,h.stt,h.sl,fun hl=>⟨(h.last hl).le,(h.last hl).p,(h.last hl).at_⟩⟩
theorem zcG{g:Gs}{m n:Nat}{l:List Int}{a v:Bool}(h:okG g m)(hl:∀k∈l, -1<=k/\k<=9999)(hn:l.length<=n+1):okG {g with num:=l,asked:=a,void:=v} n:=⟨h.w,h.h,h.len,h.ok,h.x,h.y,h.sty,h.st,hl,hn,h.stt,h.sl,fun hl=>⟨(h.last hl).le,(h.last hl).p,(h.last hl).at_⟩⟩
theorem zeA{g:Gs}{m s:Nat}(h:okG g m)(h0:g.last=0)(hs:s<=2):okG {g with stt:=s} m:=⟨h.w,h.h,h.len,h.ok,h.x,h.y,h.sty,h.st,h.num,h.numl,hs,fun _=>h0,fun hl=>absurd h0 hl⟩
theorem zlO(n:Int){m:Nat}:qV n m<m\/qV n m=0:=by unfold qV;omega
theorem zvv{g:Gs}{m:Nat}{r:Int}(h:okG g m)(h0:g.last=0):okG (zL g r) m:=by
  unfold zL
  split
  ·exact h
  split
  ·split
   ·exact zxW h
   ·exact h
  split
  ·refine⟨h.w,h.h,h.len,h.ok,?_,zlO _,h.sty,h.st,h.num,h.numl,h.stt,h.sl,fun hl=>absurd h0 hl⟩
   show qV (zV g.num 1) g.w<=g.w
   rcases zlO (zV g.num 1) (m:=g.w)with e|e<;>omega
  split
  ·refine zfL ⟨h.w,h.h,?_,zok _ _ _ _,h.x,h.y,h.sty,fun c hc=> ?_,h.num,h.numl,h.stt,h.sl,fun hl=>absurd h0 hl⟩ h0
   ·show(List.replicate _ _).length=_;rw[List.length_replicate];exact h.len
   ·rw[(List.mem_replicate.1 hc).2];exact zaL (by decide)
  split
  ·exact zxU h (znK _ _ _ h.sty)
  ·exact h
theorem zom{l:List Int}(h:∀n∈l, -1<=n/\n<=9999)(i:Nat): -1<=zV l i/\zV l i<=9999:=by
  unfold zV
  rw[List.getD_eq_getElem?_getD]
  by_cases hi:i<l.length
  ·rw[List.getElem?_eq_getElem hi];exact h _ (List.getElem_mem hi)
  ·rw[List.getElem?_eq_none (by omega)];exact⟨by decide,by decide⟩
theorem zvu{g:Gs}{m:Nat}{r:Int}{f:Bool}(h:okG g m):okG (qt g r f) (m+1):=by
  have hn:=h.numl
  unfold qt
  split
  ·exact zcG h h.num (by omega)
  split
  ·refine zcG h (fun k hk=> ?_) (by rw[List.length_append];show g.num.length+1<=_;omega)
   rcases List.mem_append.1 hk with hk|hk
   ·exact h.num k hk
   ·rw[List.mem_singleton.1 hk];exact⟨by decide,by decide⟩
  split
  ·rename_i hr
   refine zcG h (fun k hk=> ?_) (by rw[List.length_set];omega)
   have hb:=zom h.num (g.num.length - 1)
   rcases List.mem_or_eq_of_mem_set hk with hk|hk
   ·exact h.num k hk
   ·rw[hk];omega
  ·exact zcG h h.num (by omega)
theorem zoj{g:Gs}{m:Nat}{r:Int}(h:okG g m)(hs:g.stt=0):okG (qz g r) m:=by
  unfold qz
  split
  ·exact zxV h hs
  split
  ·exact zeA (QE h) rfl (by decide)
  split
  ·exact zk8 h
  split
  ·exact zjJ (zfL (QE h) rfl) (by rw[zqF])
  ·exact QE h
theorem zhl(g:Gs):(zk g).stt=g.stt/\(zk g).last=g.last/\(zk g).num≠[]/\(zk g).w=g.w/\(zk g).h=g.h/\(zk g).wd=g.wd/\(zk g).cs=g.cs:=by
  unfold zk;split
  ·exact⟨rfl,rfl,by simp,rfl,rfl,rfl,rfl⟩
  ·rename_i h;exact⟨rfl,rfl,h,rfl,rfl,rfl,rfl⟩
theorem zg4{g:Gs}{m:Nat}(h:okG g m):okG (zk g) m:=by
  unfold zk;split
  ·exact zcG (a:=g.asked) (v:=g.void) h (fun k hk=>by rw[List.mem_singleton.1 hk];exact⟨by decide,by decide⟩) (by show 1<=m+1;omega)
  ·exact h
theorem zvr{g:Gs}{m:Nat}{r:Int}(h:okG g m):okG (zj g r) (m+1):=by
  unfold zj
  have hh:=zhl g
  split
  ·rename_i h1
   have hl:=h.sl (by omega)
   split
   ·exact zcG (g:={g with stt:=2}) (zeA h hl (by decide)) (fun _ h=>by cases h) (Nat.zero_le _)
   ·exact(zeA h hl (by decide)).mono (by omega)
  split
  ·rename_i h1 h2
   have hl:=h.sl (by omega)
   show okG (if 32<=r/\r<=63 then qt (zk g) r (decide (g.num=[]))else if 64<=r/\r<=126 then zL {zk g with stt:=0} r else qz {zk g with stt:=0} r) (m+1)
   have h3:=zg4 h
   have h4:okG {zk g with stt:=0} m:=zeA h3 (hh.2.1.trans hl) (by decide)
   split
   ·exact zvu h3
   split
   ·exact(zvv h4 (hh.2.1.trans hl)).mono (by omega)
   ·exact(zoj h4 rfl).mono (by omega)
  ·rename_i h1 h2
   have:=h.stt
   exact(zoj h (by omega)).mono (by omega)
theorem zdU:∀(l:List Int) {g:Gs} {m:Nat},okG g m->okG (zH g l) (m+l.length)
  |[],_,_,h=>h
  |r::l,_,m,h=>by
   have:=zdU l (zvr (r:=r) h)
   rw[List.length_cons,show m+(l.length+1)=m+1+l.length by omega]
   exact this
theorem zyZ(g:Gs)(r:Int):(qD g r).w=g.w/\(qD g r).h=g.h/\(qD g r).wd=g.wd:=by
  unfold qD
  split
  ·rename_i hj;exact(zlo hj).2
  ·dsimp only
   generalize (Zi (Zt r) 0 (lkW g.wd)).1=s
   generalize plN s g.wd=n
   split
   ·exact⟨rfl,rfl,rfl⟩
   ·split
    ·have:=zeO {g with last:=0,x:=0}
     exact⟨this.2.1,this.2.2.1,this.2.2.2.1⟩
    ·exact⟨rfl,rfl,rfl⟩
theorem zt1(g:Gs):(qu g).w=g.w/\(qu g).h=g.h/\(qu g).wd=g.wd:=by unfold qu;split<;>exact⟨rfl,rfl,rfl⟩
theorem zth(g:Gs)(r:Int):(qz g r).w=g.w/\(qz g r).h=g.h/\(qz g r).wd=g.wd:=by
  unfold qz
  split
  ·exact zyZ g r
  split
  ·exact⟨rfl,rfl,rfl⟩
  split
  ·exact⟨rfl,rfl,rfl⟩
  split
  ·have h1:=zeO (qu {g with last:=0})
   have h2:=zt1 {g with last:=0}
   exact⟨h1.2.1.trans h2.1,h1.2.2.1.trans h2.2.1,h1.2.2.2.1.trans h2.2.2⟩
  ·exact⟨rfl,rfl,rfl⟩
theorem zyj(g:Gs)(r:Int):(zL g r).w=g.w/\(zL g r).h=g.h/\(zL g r).wd=g.wd:=by
  unfold zL
  split
  ·exact⟨rfl,rfl,rfl⟩
  split
  ·split<;>exact⟨rfl,rfl,rfl⟩
  split
  ·exact⟨rfl,rfl,rfl⟩
  split
  ·exact zt1 {g with cs:=List.replicate g.cs.length (zw 0)}
  split<;>exact⟨rfl,rfl,rfl⟩
theorem zya(g:Gs)(r:Int)(f:Bool):(qt g r f).w=g.w/\(qt g r f).h=g.h/\(qt g r f).wd=g.wd:=by
  unfold qt
  split
  ·exact⟨rfl,rfl,rfl⟩
  split
  ·exact⟨rfl,rfl,rfl⟩
  split<;>exact⟨rfl,rfl,rfl⟩
theorem zxA(g:Gs)(r:Int):(zj g r).w=g.w/\(zj g r).h=g.h/\(zj g r).wd=g.wd:=by
  unfold zj
  have hh:=zhl g
  split
  ·split<;>exact⟨rfl,rfl,rfl⟩
  split
  ·show(if 32<=r/\r<=63 then qt (zk g) r (decide (g.num=[]))else if 64<=r/\r<=126 then zL {zk g with stt:=0} r else qz {zk g with stt:=0} r).w=g.w/\(if 32<=r/\r<=63 then qt (zk g) r (decide (g.num=[]))else if 64<=r/\r<=126 then zL {zk g with stt:=0} r else qz {zk g with stt:=0} r).h=g.h/\(if 32<=r/\r<=63 then qt (zk g) r (decide (g.num=[]))else if 64<=r/\r<=126 then zL {zk g with stt:=0} r else qz {zk g with stt:=0} r).wd=g.wd
   split
   ·have:=zya (zk g) r (decide (g.num=[]));exact⟨this.1.trans hh.2.2.2.1,this.2.1.trans hh.2.2.2.2.1,this.2.2.trans hh.2.2.2.2.2.1⟩
   split
   ·have:=zyj {zk g with stt:=0} r;exact⟨this.1.trans hh.2.2.2.1,this.2.1.trans hh.2.2.2.2.1,this.2.2.trans hh.2.2.2.2.2.1⟩
   ·have:=zth {zk g with stt:=0} r;exact⟨this.1.trans hh.2.2.2.1,this.2.1.trans hh.2.2.2.2.1,this.2.2.trans hh.2.2.2.2.2.1⟩
  ·exact zth g r
theorem znm:∀(l:List Int) (g:Gs),(zH g l).w=g.w/\(zH g l).h=g.h/\(zH g l).wd=g.wd
  |[],_=>⟨rfl,rfl,rfl⟩
  |r::l,g=>by
   have h1:=zxA g r
   have h2:=znm l (zj g r)
   exact⟨h2.1.trans h1.1,h2.2.1.trans h1.2.1,h2.2.2.trans h1.2.2⟩
end

section
open Go Vc Ut Tb Cl Orb
theorem okG.fit{g:Gs}{m:Nat}(h:okG g m)(hm:m<=549755813888):fitG g:=
  ⟨h.w,h.h,h.len,by have:=h.x;have:=h.w;omega,by have:=h.h;rcases h.y with e|e<;>omega,h.sty,fun c hc=>(h.st c hc).1,h.num,by have:=h.numl;omega,by
    by_cases hl:g.last=0
    ·omega
    ·exact(h.last hl).le⟩
theorem okG.lay{g:Gs}{m i:Nat}(h:okG g m)(hi:i<g.cs.length):zb0 g i:=by
  have hl:=h.len
  refine⟨hi,?_,fun hp=> ?_,fun hm=> ?_⟩
  ·rcases Nat.eq_zero_or_pos g.w with e|e
   ·rw[e,Nat.zero_mul]at hl;omega
   ·exact e
  ·have:=h.ok i hi;unfold Z0 at this;rw[if_pos hp]at this;exact this.1
  ·rcases Nat.lt_or_ge (i+1) g.cs.length with e|e
   ·exact e
   ·have e2:i+1=g.w*g.h:=by omega
    rw[e2,Nat.mul_mod_right]at hm
    exact absurd rfl hm
theorem okG.last_lt{g:Gs}{m:Nat}(h:okG g m)(hl:g.last≠0)(h1:plN (zM (zg g.cs (g.last - 1))) g.wd=1)(hm:g.last%g.w≠0):g.last<g.cs.length/\g.x<g.w:=by
  have hL:=h.last hl
  have hat:=hL.at_
  rw[h1]at hat
  have hxw:g.x<g.w:=by
    rcases Nat.lt_or_ge g.x g.w with e|e
    ·exact e
    ·have e2:g.x=g.w:=Nat.le_antisymm h.x e
     rw[show g.last=g.y*g.w+g.w by omega,Nat.add_mod_right,Nat.mul_mod_left]at hm
     exact absurd rfl hm
  have hyh:g.y<g.h:=by
    rcases h.y with e|e
    ·exact e
    ·rcases Nat.eq_zero_or_pos g.h with e2|e2
     ·have:=h.len;rw[e2,Nat.mul_zero]at this;have:=hL.le;omega
     ·omega
  refine⟨?_,hxw⟩
  rw[h.len]
  have:(g.y+1)*g.w<=g.h*g.w:=Nat.mul_le_mul_right _ hyh
  rw[Nat.add_mul,Nat.one_mul,Nat.mul_comm g.h]at this
  omega
theorem okG.txt{g:Gs}{m:Nat}(h:okG g m)(hl:g.last≠0):1<=plN (zM (zg g.cs (g.last - 1))) g.wd/\plN (zM (zg g.cs (g.last - 1))) g.wd<=2/\(zM (zg g.cs (g.last - 1))).size<=128:=by
  have hL:=h.last hl
  have h2:=ZZ (i:=g.last - 1) h.ok (by have:=hL.le;omega) hL.p
  have h3:plN (zM (zg g.cs (g.last - 1))) g.wd≠0:=by rcases h2 with h2|h2<;>omega
  exact⟨by omega,by rcases h2 with h2|h2<;>omega,zvb h3⟩
theorem zq0(g:Gs)(n:Nat):(Zn g n).w=g.w/\(Zn g n).h=g.h/\(Zn g n).wd=g.wd/\(Zn g n).stt=g.stt/\(n<=g.w->(Zn g n).x+n<=g.w):=by
  unfold Zn
  split
  ·have hd:=zeO {g with last:=0,x:=0}
   exact⟨hd.2.1,hd.2.2.1,hd.2.2.2.1,hd.1,fun h=>by rw[hd.2.2.2.2.1];show 0+n<=g.w;omega⟩
  ·exact⟨rfl,rfl,rfl,rfl,fun _=>by show g.x+n<=g.w;omega⟩
theorem zoi{g:Gs}{m n:Nat}(h:okG g m):okG (Zn g n) m:=by
  unfold Zn
  split
  ·exact zjJ (zk8 h) rfl
  ·exact QE h
end

section
open Go Go.RowKit Vc Ut Tb Cl
set_option maxRecDepth 2000 in
theorem zsY:zjx.Ok Tryz.prog 88:=by
  refine zsX ⟨zdA,zcF,zoA,trivial⟩ ?_
  rintro⟨A,g,r,m⟩ w ⟨hG,hk,hm⟩
  dsimp only at hG hk hm⊢
  have hF:=hk.fit hm
  have hw:=hF.w;have hh:=hF.h;have hlen:=hF.len;have hlast:=hF.last
  have hwh:g.w*g.h<=1048576:=Nat.le_trans (Nat.mul_le_mul hw hh) (by decide)
  have hx:=hF.x
  refine⟨g.last,(za hG.box 8).trans rfl,zb (fun h=> ?_) (fun h=> ?_)⟩
  ·have h:g.last=0:=by have:=beq_iff_eq.1 h;omega
   have e:zZ g r=none:=by unfold zZ;rw[if_pos h]
   exact⟨(A,false),rfl,by rw[e];rfl,by rw[e];exact GlOut.refl hG⟩
  have hl:g.last≠0:=by have:=beq_eq_false_iff_ne.1 h;omega
  clear h
  obtain⟨t1,t2,tz⟩:=hk.txt hl
  have hL:=hk.last hl
  have hi:g.last - 1<g.cs.length:=by have:=hL.le;omega
  have hez:=zag r
  refine⟨g.last,(za hG.box 8).trans rfl,zd (by omega) (by omega),_,_,_,(za hG.box 3).trans rfl,g.last - 1,by omega,hi,hG.row.cells.ce hi fun b o hce=>hce.load ⟨zg g.cs (g.last - 1),rfl,trivial,?_⟩⟩
  rintro _ w1 ⟨rfl,hx1⟩
  have hG1:=hG.ext hx1
  refine⟨g.wd,(za hG1.box 2).trans rfl,(zM (zg g.cs (g.last - 1)),g.wd),rfl,⟨hG1.ud,Nat.le_trans tz (by decide)⟩,?_⟩
  rintro n w2 ⟨hn,hx2⟩
  dsimp only at hn
  have hx02:=Ext.trans hx1 hx2
  have hG2:=hG.ext hx02
  have hsz:(zM (zg g.cs (g.last - 1))++Utf8.encode r).size<=132:=by
    rw[ByteArray.size_append];have:(Utf8.encode r).size<=4:=hez;omega
  refine⟨by have:(Utf8.encode r).size<=4:=hez;omega,g.wd,(za hG2.box 2).trans rfl,(zM (zg g.cs (g.last - 1))++Utf8.encode r,g.wd),rfl,⟨hG2.ud,Nat.le_trans hsz (by decide)⟩,?_⟩
  rintro k w3 ⟨hkk,hx3⟩
  dsimp only at hkk
  have hx03:=Ext.trans hx02 hx3
  have hG3:=hG.ext hx03
  have hO3:=GlOut.ext hG hx03
  have hj:zZ g r=if k<n then none else if n<k then
    (if g.last%g.w=0 then some {g with last:=0}else
      some {g with cs:=(zF g.cs g.w g.last (ZA (zg g.cs (g.last - 1)).st)).set (g.last - 1) {zg (zF g.cs g.w g.last (ZA (zg g.cs (g.last - 1)).st)) (g.last - 1)with t:=zM (zg g.cs (g.last - 1))++Zt r},x:=g.x+1})
    else some {g with cs:=g.cs.set (g.last - 1) {zg g.cs (g.last - 1)with t:=zM (zg g.cs (g.last - 1))++Zt r}}:=by
    unfold zZ;rw[if_neg hl,hn,hkk];rfl
  rw[hj]
  clear hj
  refine zb (fun h1=> ?_) (fun h1=>zb (fun h2=> ?_) (fun h2=> ?_))
  ·have h1:k<n:=by have:=of_decide_eq_true h1;omega
   rw[if_pos h1]
   exact⟨(A,false),rfl,rfl,hO3⟩
  ·have h1:¬k<n:=by have:=of_decide_eq_false h1;omega
   have h2:n<k:=by have:=of_decide_eq_true h2;omega
   rw[if_neg h1,if_pos h2]
   have hk2:k<=2:=by rw[hkk];exact zex _ _
   have hn1:plN (zM (zg g.cs (g.last - 1))) g.wd=1:=by omega
   have hw0:0<g.w:=(hk.lay hi).2.1
   have hmod:((g.last:Int) - 1+1)%(g.w:Int)=((g.last%g.w:Nat):Int):=by rw[Int.natCast_emod,show(g.last:Int) - 1+1=g.last by omega]
   refine⟨zd (by omega) (by omega),g.w,(za hG3.box 0).trans rfl,by omega,by omega,zb (fun h3=> ?_) (fun h3=> ?_)⟩
   ·have h3:g.last%g.w=0:=by have:=beq_iff_eq.1 h3;rw[hmod]at this;omega
    refine⟨rfl,hG3.old (k:=8) (by decide),hG3.free 8,fun w4 hs=>⟨(A,true),rfl,?_⟩⟩
    rw[if_pos h3]
    exact⟨rfl,hO3.trans (qG hG3 hs rfl rfl rfl)⟩
   ·have h3:g.last%g.w≠0:=by have:=beq_eq_false_iff_ne.1 h3;rw[hmod]at this;omega
    rw[if_neg h3]
    obtain⟨hll,hxw⟩:=hk.last_lt hl hn1 h3
    have hlay:=hk.lay hll
    have hst:=(zgn hk.st (g.last - 1)).1
    refine⟨zd (by omega) (by omega),_,_,_,(za hG3.box 3).trans rfl,g.last - 1,by omega,hi,hG3.row.cells.ce hi fun b4 o4 hc4=>⟨_,hc4.2.2.2.2.2,⟨A,g,g.last,ZA (zg g.cs (g.last - 1)).st⟩,by dsimp only;rw[show(g.last:Int) - 1+1=g.last by omega];rfl,⟨hG3,hF,hlay⟩,?_⟩⟩
    intro A4 w4 hO4
    dsimp only at hO4
    have hG4:=hO4.is
    have hp4:A4.p=A.p:=hO4.p
    refine⟨g.x,by rw[<-hp4];exact(za hG4.box 4).trans rfl,zd (by omega) (by omega),rfl,by rw[<-hp4];exact hG4.old (k:=4) (by decide),by rw[<-hp4];exact hG4.free 4,fun w5 hs5=> ?_⟩
    rw[<-hp4]at hs5
    have hO5:=qG (g':={Qe g g.last (ZA (zg g.cs (g.last - 1)).st)with x:=g.x+1}) hG4 hs5 rfl rfl rfl
    have hG5:=hO5.is
    have hl5:(zF g.cs g.w g.last (ZA (zg g.cs (g.last - 1)).st)).length=g.cs.length:=zQ _ _ _ _
    refine⟨_,_,_,by rw[<-hp4];exact(za hG5.box 3).trans rfl,by have:(Utf8.encode r).size<=4:=hez;omega,g.last - 1,by omega,by dsimp only;show g.last - 1<(zF _ _ _ _).length;rw[hl5];exact hi,?_⟩
    refine znh (k:=0) (j:=g.last - 1) (v:= .string (zM (zg g.cs (g.last - 1))++Utf8.encode r)) (x:={zg (zF g.cs g.w g.last (ZA (zg g.cs (g.last - 1)).st)) (g.last - 1)with t:=zM (zg g.cs (g.last - 1))++Zt r}) hG5 (by dsimp only;show g.last - 1<(zF _ _ _ _).length;rw[hl5];exact hi) (by decide) rfl (fun b5 o5 h51 h52 h53=>⟨rfl,h51,h52,fun w6 hs6=>⟨(A4,true),rfl,rfl,?_⟩⟩)
    exact hO3.trans (hO4.trans (hO5.trans (h53 w6 hs6)))
  ·have h1:¬k<n:=by have:=of_decide_eq_false h1;omega
   have h2:¬n<k:=by have:=of_decide_eq_false h2;omega
   rw[if_neg h1,if_neg h2]
   refine⟨_,_,_,(za hG3.box 3).trans rfl,by have:(Utf8.encode r).size<=4:=hez;omega,g.last - 1,by omega,hi,?_⟩
   exact znh (k:=0) (j:=g.last - 1) (v:= .string (zM (zg g.cs (g.last - 1))++Utf8.encode r)) (x:={zg g.cs (g.last - 1)with t:=zM (zg g.cs (g.last - 1))++Zt r}) hG3 hi (by decide) rfl (fun b5 o5 h51 h52 h53=>⟨rfl,h51,h52,fun w6 hs6=>⟨(A,true),rfl,rfl,hO3.trans (h53 w6 hs6)⟩⟩)
end

section
open Go Go.RowKit Vc Ut Tb Cl
theorem zej(s:ByteArray)(col:Int)(l:Lk):(Zi s col l).1.size<=s.size+16:=by
  unfold Zi
  split
  ·exact Nat.zero_le _
  ·have h1:=(zy1 (pcP s 0).2 col l).2
   have h2:(pcP s 0).2.size<=s.size:=by
     show(s.extract _ _).size<=s.size
     rw[ByteArray.size_extract]
     omega
   omega
theorem zvs{g:Gs}{m i:Nat}{c:Ce}(h:okG g m)(h0:g.last=0)(hi:i<g.cs.length)(hc:zig c g.wd)(hk:zg6 c):okG (Qe g i c) m:=
  ⟨h.w,h.h,by show(zF _ _ _ _).length=_;rw[zQ];exact h.len,zcH h.ok hi hc,h.x,h.y,h.sty,zgm h.st hk,h.num,h.numl,h.stt,fun _=>h0,fun e=>absurd h0 e⟩
theorem zoz(g:Gs)(s:ByteArray):Ql g s 1={g with cs:=zF g.cs g.w (g.y*g.w+g.x) ⟨s,0,0,0,false,g.sty⟩,x:=g.x+1,last:=g.y*g.w+g.x+1}:=rfl
theorem zox(g:Gs)(s:ByteArray):Ql g s 2={g with
    cs:=(zF (zF g.cs g.w (g.y*g.w+g.x+1) (zw g.sty)) g.w (g.y*g.w+g.x) ⟨s,0,0,0,false,g.sty⟩).set (g.y*g.w+g.x+1) {zg (zF (zF g.cs g.w (g.y*g.w+g.x+1) (zw g.sty)) g.w (g.y*g.w+g.x) ⟨s,0,0,0,false,g.sty⟩) (g.y*g.w+g.x+1)with p:=1},x:=g.x+2,last:=g.y*g.w+g.x+1}:=rfl
theorem zto{g:Gs}{i:Nat}{c:Ce}(h:fitG g)(hc:c.st<65536):fitG (Qe g i c):=by
  have hl:(zF g.cs g.w i c).length=g.cs.length:=zQ _ _ _ _
  refine⟨h.w,h.h,hl.trans h.len,h.x,h.y,h.sty,?_,h.num,h.numl,by show g.last<=(zF _ _ _ _).length;rw[hl];exact h.last⟩
  have hb:∀j,(zw (zg g.cs j).st).st<65536:=fun j=>by
    show(zg g.cs j).st<65536
    by_cases hj:j<g.cs.length
    ·exact h.st _ (zfP hj)
    ·rw[zd8 (by omega)];decide
  have hs:∀{l:List Ce} {j:Nat} {d:Ce},(∀c∈l,c.st<65536)->d.st<65536->∀c∈l.set j d,c.st<65536:=fun h1 h2 c hc=>(List.mem_or_eq_of_mem_set hc).elim (h1 c) (fun e=>by rw[e];exact h2)
  show ∀d∈zF g.cs g.w i c,d.st<65536
  unfold zF
  split
  ·exact hs (hs h.st (hb _)) hc
  split
  ·exact hs (hs h.st (hb _)) hc
  ·exact hs h.st hc
set_option maxRecDepth 2000 in
theorem zva:znX.Ok Tryz.prog 62:=by
  refine zu9 ⟨zsY,zkj,zcF,zlF,zoA,trivial⟩ ?_
  rintro⟨A,g,r,m⟩ w ⟨⟨hG,hk,hm⟩,hst⟩
  dsimp only at hG hk hm hst⊢
  have hF:=hk.fit hm
  have hw:=hF.w;have hh:=hF.h;have hlen:=hF.len
  have hez:(Utf8.encode r).size<=4:=zag r
  refine⟨⟨A,g,r,m⟩,rfl,⟨hG,hk,hm⟩,?_⟩
  rintro⟨A1,b⟩ w1 ⟨hb,hO1⟩
  dsimp only at hb hO1⊢
  refine zb (fun h=>⟨A1,rfl,?_⟩) (fun h=> ?_)
  ·obtain⟨g',hj⟩:=Option.isSome_iff_exists.1 (hb.symm.trans h)
   have e:qD g r=g':=by unfold qD;rw[hj]
   rw[e];rw[hj]at hO1;exact hO1
  have hj:zZ g r=none:=by
    cases hj:zZ g r with
    |none=>rfl
    |some g'=>rw[hj,h]at hb;cases hb
  rw[hj]at hO1
  replace hO1:GlOut w w1 A A1 g:=hO1
  have hp1:A1.p=A.p:=hO1.p
  have hG1:=hO1.is
  have hput:qD g r=if plN (Qq g r) g.wd=0\/g.w<plN (Qq g r) g.wd\/g.h=0 then {g with last:=0}else Ql (Zn g (plN (Qq g r) g.wd)) (Qq g r) (plN (Qq g r) g.wd):=by
    unfold qD;rw[hj];rfl
  refine⟨rfl,by rw[<-hp1];exact hG1.old (k:=8) (by decide),by rw[<-hp1];exact hG1.free 8,fun w2 hs2=> ?_⟩
  rw[<-hp1]at hs2
  have hO2:=hO1.trans (qG (g':={g with last:=0}) hG1 hs2 rfl rfl rfl)
  have hG2:=hO2.is
  refine⟨g.wd,by rw[<-hp1];exact(za hG2.box 2).trans rfl,⟨Utf8.encode r,0,lkW g.wd⟩,rfl,⟨hG2.ud.1,hG2.ud.2,by dsimp only;omega⟩,?_⟩
  rintro⟨s,k⟩ w3 ⟨hsk,hx3⟩
  have hs:s=Qq g r:=congrArg Prod.fst hsk
  clear hsk
  subst hs
  have hsz:(Qq g r).size<=20:=by
    have:=zej (Zt r) 0 (lkW g.wd)
    have h4:=zag r
    show(Zi (Zt r) 0 (lkW g.wd)).1.size<=20
    omega
  have hG3:=hG2.ext hx3
  refine⟨g.wd,by rw[<-hp1];exact(za hG3.box 2).trans rfl,(Qq g r,g.wd),rfl,⟨hG3.ud,Nat.le_trans hsz (by decide)⟩,?_⟩
  rintro n w4 ⟨hn,hx4⟩
  dsimp only at hn
  rw[<-hn]at hput
  have hx24:=Ext.trans hx3 hx4
  have hG4:=hG2.ext hx24
  have hO4:=hO2.trans (GlOut.ext hG2 hx24)
  have hn2:n<=2:=by rw[hn];exact zex _ _
  refine zb (fun h1=>⟨A1,rfl,?_⟩) (fun h1=>⟨g.w,by rw[<-hp1];exact(za hG4.box 0).trans rfl,zb (fun h2=>⟨A1,rfl,?_⟩) (fun h2=>⟨g.h,by rw[<-hp1];exact(za hG4.box 1).trans rfl,zb (fun h3=>⟨A1,rfl,?_⟩) (fun h3=> ?_)⟩)⟩)
  ·have h1:n=0:=by have:=beq_iff_eq.1 h1;omega
   rw[hput,if_pos (.inl h1)];exact hO4
  ·have h2:g.w<n:=by have:=of_decide_eq_true h2;omega
   rw[hput,if_pos (.inr (.inl h2))];exact hO4
  ·have h3:g.h=0:=by have:=beq_iff_eq.1 h3;omega
   rw[hput,if_pos (.inr (.inr h3))];exact hO4
  have h1:n≠0:=by have:=beq_eq_false_iff_ne.1 h1;omega
  have h2:¬g.w<n:=by have:=of_decide_eq_false h2;omega
  have h3:g.h≠0:=by have:=beq_eq_false_iff_ne.1 h3;omega
  have hhas:¬(n=0\/g.w<n\/g.h=0):=by omega
  rw[if_neg hhas]at hput
  have hx:=hk.x
  refine⟨fun w5 hd=>⟨g.x,by rw[<-hp1];exact(za hG4.box 4).trans rfl,zd (by omega) (by omega),g.w,by rw[<-hp1];exact(za hG4.box 0).trans rfl,zb (fun h4=> ?_) (fun h4=> ?_)⟩,?_⟩
  ·have h4:g.w<g.x+n:=by have:=of_decide_eq_true h4;omega
   have hG5:=hG4.ext hd.ext
   have hO5:=hO4.trans (GlOut.ext hG4 hd.ext)
   refine⟨rfl,by rw[<-hp1];exact hG5.old (k:=4) (by decide),by rw[<-hp1];exact hG5.free 4,fun w6 hs6=> ?_⟩
   rw[<-hp1]at hs6
   have hO6:=hO5.trans (qG (g':={g with last:=0,x:=0}) hG5 hs6 rfl rfl rfl)
   refine⟨⟨A1,{g with last:=0,x:=0}⟩,by rw[<-hp1],⟨hO6.is,(zk8 hk).fit hm⟩,fun A7 w7 hO7=>⟨A7,⟨?_,rfl,by rw[hn],by rw[<-hn];exact hput,by rw[<-hn];exact hhas⟩⟩⟩
   dsimp only at hO7
   rw[<-hn]
   have e:Zn g n=qc {g with last:=0,x:=0}:=by unfold Zn;rw[if_pos h4]
   rw[e]
   exact hO6.trans hO7
  ·have h4:¬g.w<g.x+n:=by have:=of_decide_eq_false h4;omega
   refine⟨A1,⟨?_,rfl,by rw[hn],by rw[<-hn];exact hput,by rw[<-hn];exact hhas⟩⟩
   rw[<-hn]
   have e:Zn g n={g with last:=0}:=by unfold Zn;rw[if_neg h4]
   rw[e]
   exact hO4.trans (GlOut.ext hG4 hd.ext)
  rintro _ A5 w5 ⟨hO5, -, -, -, -⟩ w6 hd6
  dsimp only at hO5
  rw[<-hn]at hO5
  rw[hput]
  have hwf:=zq0 g n
  have hkW:okG (Zn g n) m:=zoi hk
  have hlW:(Zn g n).last=0:=by unfold Zn;split;exact ziC _;rfl
  generalize Zn g n=gW at hO5 hwf hkW hlW⊢
  obtain⟨e1,e2,e3,e4,e5⟩:=hwf
  have hFW:=hkW.fit hm
  have hG5:=hO5.is
  have hp5:A5.p=A.p:=hO5.p
  have hG6:=hG5.ext hd6.ext
  have hO6:=hO5.trans (GlOut.ext hG5 hd6.ext)
  have hy:gW.y<gW.h:=by rcases hkW.y with e|e<;>omega
  have hxn:=e5 (by omega)
  have hW1:=hkW.w;have hW2:=hkW.h
  have hyw:gW.y*gW.w+gW.w<=gW.cs.length:=by
    rw[hkW.len]
    have:(gW.y+1)*gW.w<=gW.h*gW.w:=Nat.mul_le_mul_right _ hy
    rw[Nat.add_mul,Nat.one_mul,Nat.mul_comm gW.h]at this
    exact this
  have hlen5:gW.cs.length<=1048576:=by rw[hkW.len];exact Nat.le_trans (Nat.mul_le_mul hW1 hW2) (by decide)
  have hcast:(gW.y:Int)*(gW.w:Int)=((gW.y*gW.w:Nat):Int):=by rw[Int.natCast_mul]
  rw[hp5.symm]
  refine⟨gW.y,(za hG5.box 5).trans rfl,gW.w,(za hG5.box 0).trans rfl,by rw[hcast];exact zd (by omega) (by omega),gW.x,(za hG5.box 4).trans rfl,by rw[hcast];exact zd (by omega) (by omega),?_⟩
  rw[hcast]
  have hpls:plN (Qq g r) gW.wd=n:=by rw[e3];exact hn.symm
  have htx:zM ⟨Qq g r,0,0,0,false,gW.sty⟩=Qq g r:=zf3 (wd:=gW.wd) rfl (by show plN (Qq g r) gW.wd≠0;omega)
  rcases(show n=1\/n=2 by omega)with e|e
  ·subst e
   refine zb (fun h=>by cases h) (fun _=> ?_)
   have hi:gW.y*gW.w+gW.x<gW.cs.length:=by omega
   refine⟨gW.sty,(za hG6.box 7).trans rfl,⟨A5,gW,gW.y*gW.w+gW.x,⟨Qq g r,0,0,0,false,gW.sty⟩⟩,by simp,⟨hG6,hFW,hkW.lay hi⟩,?_⟩
   intro A7 w7 hO7
   dsimp only at hO7
   have hp7:A7.p=A5.p:=hO7.p
   have hG7:=hO7.is
   refine zb (fun h=>by cases h) (fun _=> ?_)
   rw[hp7.symm]
   refine⟨gW.x,(za hG7.box 4).trans rfl,zd (by omega) (by omega),rfl,hG7.old (k:=4) (by decide),hG7.free 4,fun w8 hs8=> ?_⟩
   have hO8:=qG (g':={Qe gW (gW.y*gW.w+gW.x) ⟨Qq g r,0,0,0,false,gW.sty⟩with x:=gW.x+1}) hG7 hs8 rfl rfl rfl
   have hG8:=hO8.is
   refine⟨zd (by omega) (by omega),rfl,hG8.old (k:=8) (by decide),hG8.free 8,fun w9 hs9=>⟨A7,rfl,?_⟩⟩
   rw[zoz]
   exact hO6.trans (hO7.trans (hO8.trans (qG hG8 hs9 rfl rfl rfl)))
  ·subst e
   refine zb (fun _=> ?_) (fun h=>by cases h)
   have hi1:gW.y*gW.w+gW.x+1<gW.cs.length:=by omega
   refine⟨zd (by omega) (by omega),gW.sty,(za hG6.box 7).trans rfl,⟨A5,gW,gW.y*gW.w+gW.x+1,zw gW.sty⟩,by simp[zw],⟨hG6,hFW,hkW.lay hi1⟩,?_⟩
   intro A7 w7 hO7
   dsimp only at hO7
   have hp7:A7.p=A5.p:=hO7.p
   have hG7:=hO7.is
   rw[hp7.symm]
   have hk7:=zvs (c:=zw gW.sty) hkW hlW hi1 (Z8 _ _) (zaL hkW.sty)
   have hi7:gW.y*gW.w+gW.x<(Qe gW (gW.y*gW.w+gW.x+1) (zw gW.sty)).cs.length:=by
     show _<(zF _ _ _ _).length;rw[zQ];omega
   refine⟨gW.sty,(za hG7.box 7).trans rfl,⟨A7,Qe gW (gW.y*gW.w+gW.x+1) (zw gW.sty),gW.y*gW.w+gW.x,⟨Qq g r,0,0,0,false,gW.sty⟩⟩,by simp,⟨hG7,hk7.fit hm,hk7.lay hi7⟩,?_⟩
   intro A8 w8 hO8
   dsimp only at hO8
   have hp8:A8.p=A7.p:=hO8.p
   have hG8:=hO8.is
   rw[hp8.symm]
   refine zb (fun _=> ?_) (fun h=>by cases h)
   have hi8:gW.y*gW.w+gW.x+1<(Qe (Qe gW (gW.y*gW.w+gW.x+1) (zw gW.sty)) (gW.y*gW.w+gW.x) ⟨Qq g r,0,0,0,false,gW.sty⟩).cs.length:=by
     show _<(zF (zF _ _ _ _) _ _ _).length;rw[zQ,zQ];omega
   refine⟨_,_,_,(za hG8.box 3).trans rfl,zd (by omega) (by omega),gW.y*gW.w+gW.x+1,by simp,hi8,?_⟩
   refine znh (k:=1) (v:= .int .i8 1) (x:={zg (zF (zF gW.cs gW.w (gW.y*gW.w+gW.x+1) (zw gW.sty)) gW.w (gW.y*gW.w+gW.x) ⟨Qq g r,0,0,0,false,gW.sty⟩) (gW.y*gW.w+gW.x+1)with p:=1}) hG8 hi8 (by decide) rfl (fun b9 o9 h91 h92 h93=>⟨rfl,h91,h92,fun w9 hs9=> ?_⟩)
   have hO9:=h93 w9 hs9
   have hG9:=hO9.is
   refine⟨gW.x,(za hG9.box 4).trans rfl,zd (by omega) (by omega),rfl,hG9.old (k:=4) (by decide),hG9.free 4,fun w10 hs10=> ?_⟩
   have hO10:=qG (g':={Qe (Qe gW (gW.y*gW.w+gW.x+1) (zw gW.sty)) (gW.y*gW.w+gW.x) ⟨Qq g r,0,0,0,false,gW.sty⟩with
     cs:=(zF (zF gW.cs gW.w (gW.y*gW.w+gW.x+1) (zw gW.sty)) gW.w (gW.y*gW.w+gW.x) ⟨Qq g r,0,0,0,false,gW.sty⟩).set (gW.y*gW.w+gW.x+1) {zg (zF (zF gW.cs gW.w (gW.y*gW.w+gW.x+1) (zw gW.sty)) gW.w (gW.y*gW.w+gW.x) ⟨Qq g r,0,0,0,false,gW.sty⟩) (gW.y*gW.w+gW.x+1)with p:=1},x:=gW.x+2}) hG9 hs10 rfl rfl rfl
   have hG10:=hO10.is
   refine⟨zd (by omega) (by omega),rfl,hG10.old (k:=8) (by decide),hG10.free 8,fun w11 hs11=>⟨A8,rfl,?_⟩⟩
   rw[zox]
   exact hO6.trans (hO7.trans (hO8.trans (hO9.trans (hO10.trans (qG hG10 hs11 rfl rfl rfl)))))
end

section
open Go Go.RowKit Vc Ut Tb Cl
theorem ziv{w w':World}{A A1:GlP}{g1 T:Gs}{r:Int}{m:Nat}(hO:GlOut w w' A A1 g1)(hk:okG g1 m)(hm:m<=549755813888)(hs:g1.stt=0)(hT:T=qz g1 r):
    ∃g1:Int, #[Value.int .i32 r]= #[Value.int .i32 g1]/\True/\∀(x:Int) (w'1:World),x=zn g1/\Ext w' w'1->
     zc (x !=0)
      (∃g2:GTak, #[Value.pointer (some ⟨A.p,0,none⟩),Value.int .i32 r]= #[Value.pointer (some ⟨g2.A.p,0,none⟩),Value.int .i32 g2.r]/\(zf5 w'1 g2.A g2.g g2.m/\g2.g.stt=0)/\
       ∀(x1:GlP) (w'2:World),GlOut w'1 w'2 g2.A x1 (qD g2.g g2.r)->∃x2:GlP,Value.tuple #[]=Value.tuple #[]/\GlOut w w'2 A x2 T)
      (true=true/\(∃old,w'1.cell? ⟨A.p,8,none⟩=some old)/\w'1.frozen? ⟨A.p,8,none⟩=false/\∀w1,Stored w'1 ⟨A.p,8,none⟩ (.int .i64 0) w1->
        zc (r==27)
         (true=true/\(∃old,w1.cell? ⟨A.p,10,none⟩=some old)/\w1.frozen? ⟨A.p,10,none⟩=false/\∀w11,Stored w1 ⟨A.p,10,none⟩ (.int .i64 1) w11->∃x1:GlP,Value.tuple #[]=Value.tuple #[]/\GlOut w w11 A x1 T)
         (zc (r==13)
           (true=true/\(∃old,w1.cell? ⟨A.p,4,none⟩=some old)/\w1.frozen? ⟨A.p,4,none⟩=false/\∀w11,Stored w1 ⟨A.p,4,none⟩ (.int .i64 0) w11->∃x1:GlP,Value.tuple #[]=Value.tuple #[]/\GlOut w w11 A x1 T)
           (zc (r==10)
             (∃g2:GGl, #[Value.pointer (some ⟨A.p,0,none⟩)]= #[Value.pointer (some ⟨g2.A.p,0,none⟩)]/\(GlIn w1 g2.A g2.g/\fitG g2.g)/\∀(x1:GlP) (w'2:World),GlOut w1 w'2 g2.A x1 (qu g2.g)->
              ∃g3:GGl, #[Value.pointer (some ⟨A.p,0,none⟩)]= #[Value.pointer (some ⟨g3.A.p,0,none⟩)]/\(GlIn w'2 g3.A g3.g/\fitG g3.g)/\∀(x2:GlP) (w'3:World),GlOut w'2 w'3 g3.A x2 (qc g3.g)->∃x3:GlP,Value.tuple #[]=Value.tuple #[]/\GlOut w w'3 A x3 T)
             (∃x1:GlP,Value.tuple #[]=Value.tuple #[]/\GlOut w w1 A x1 T)))):=by
  subst hT
  refine⟨r,rfl,trivial,?_⟩
  rintro _ w2 ⟨rfl,hx⟩
  have hG:=hO.is
  have hG2:=hG.ext hx
  have hO2:=hO.trans (GlOut.ext hG hx)
  have hp:A1.p=A.p:=hO.p
  rw[hp.symm]
  unfold qz
  refine zb (fun h=> ?_) (fun h=> ?_)
  ·have h:=bne_iff_ne.1 h
   rw[if_pos h]
   exact⟨⟨A1,g1,r,m⟩,rfl,⟨⟨hG2,hk,hm⟩,hs⟩,fun A3 w3 hO3=>⟨A3,rfl,hO2.trans hO3⟩⟩
  have h:=bne_eq_false_iff_eq.1 h
  rw[if_neg (fun hh=>hh h)]
  refine⟨rfl,hG2.old (k:=8) (by decide),hG2.free 8,fun w3 hs3=> ?_⟩
  have hO3:=hO2.trans (qG (g':={g1 with last:=0}) hG2 hs3 rfl rfl rfl)
  have hG3:=hO3.is
  have hk3:=QE hk
  refine zb (fun h1=>⟨rfl,hG3.old (k:=10) (by decide),hG3.free 10,fun w4 hs4=>⟨A1,rfl,?_⟩⟩) (fun h1=>zb (fun h2=>⟨rfl,hG3.old (k:=4) (by decide),hG3.free 4,fun w4 hs4=>⟨A1,rfl,?_⟩⟩) (fun h2=>zb (fun h3=> ?_) (fun h3=>⟨A1,rfl,?_⟩)))
  ·rw[if_pos (beq_iff_eq.1 h1)]
   exact hO3.trans (qG hG3 hs4 rfl rfl rfl)
  ·rw[if_neg (beq_eq_false_iff_ne.1 h1),if_pos (beq_iff_eq.1 h2)]
   exact hO3.trans (qG hG3 hs4 rfl rfl rfl)
  ·rw[if_neg (beq_eq_false_iff_ne.1 h1),if_neg (beq_eq_false_iff_ne.1 h2),if_pos (beq_iff_eq.1 h3)]
   refine⟨⟨A1,{g1 with last:=0}⟩,rfl,⟨hG3,hk3.fit hm⟩,fun A4 w4 hO4=> ?_⟩
   have hk4:=zfL hk3 rfl
   have hp4:A4.p=A1.p:=hO4.p
   exact⟨⟨A4,qu {g1 with last:=0}⟩,by rw[hp4],⟨hO4.is,hk4.fit hm⟩,fun A5 w5 hO5=>⟨A5,rfl,hO3.trans (hO4.trans hO5)⟩⟩
  ·rw[if_neg (beq_eq_false_iff_ne.1 h1),if_neg (beq_eq_false_iff_ne.1 h2),if_neg (beq_eq_false_iff_ne.1 h3)]
   exact hO3
theorem zjE{w:World}{A:GlP}{g:Gs}(h:GlIn w A g):A.na.isNone=decide (g.num=[]):=by
  by_cases hn:g.num=[]
  ·rw[h.nil hn,decide_eq_true hn];rfl
  ·rw[decide_eq_false hn]
   cases ha:A.na with
   |some a=>rfl
   |none=>
    exfalso
    have:=h.num.le.2
    rcases h.num.2 with⟨h1,h2⟩|⟨q,cur,h1, -⟩
    ·exact hn (List.eq_nil_of_length_eq_zero (by omega))
    ·rw[ha]at h1;cases h1
theorem zyd{w w3:World}{A:GlP}{g:Gs}(h:GlIn w A g)(hs:Stored w ⟨A.p,11,none⟩ (.slice none 0 0) w3):GlOut w w3 A {A with na:=none,nc:=0} {g with num:=[]}:=by
  have hz3:=hs.size
  have hfo:Fr (own A) w w3:=(Fr.stored hs).mono (fun x _ hx=> .inl hx)
  have hown:∀q,own {A with na:=none,nc:=0} q->own A q:=by
    rintro q (hq|hq|hq)
    ·exact .inl hq
    ·exact .inr (.inl hq)
    ·cases hq
  refine⟨⟨hs.heap h.box,?_,Row.nil _ _ _,fun _=>rfl,fun q hq=>h.bq q (hown q hq),by dsimp only;have:=h.bw;omega,h.u.on (h.below hfo)⟩,rfl,rfl,rfl,hfo,fun q hq=>⟨?_, .inl (hown q hq)⟩⟩
  ·exact h.row.keep fun q hq=>hs.other (by show q≠A.p;rintro rfl;exact h.cp hq)
  ·rw[hz3];exact h.lt q (hown q hq)
set_option maxRecDepth 2000 in
theorem zrq:zjo.Ok Tryz.prog 42:=by
  refine zrp ⟨zs4,ztB,zbq,zva,zlY,zlF,trivial⟩ ?_
  rintro⟨A,g,r,m⟩ w ⟨hG,hk,hm⟩
  dsimp only at hG hk hm⊢
  have hF:=hk.fit hm
  have hst:=hk.stt
  refine⟨⟨g.stt,(za hG.box 10).trans rfl,zb (fun h1=> ?_) (fun h1=>zb (fun h2=> ?_) (fun h2=> ?_))⟩,fun _ A1 W ⟨hO,hT,hk1⟩=> ?_,trivial⟩
  ·have h1:g.stt=1:=by have:=beq_iff_eq.1 h1;omega
   have e:zj g r=if r=91 then {g with stt:=2,num:=[],asked:=false,void:=false}else {g with stt:=0}:=by unfold zj;rw[if_pos h1]
   rw[e]
   refine⟨rfl,hG.old (k:=10) (by decide),hG.free 10,fun w1 hs1=> ?_⟩
   have hO1:=qG (g':={g with stt:=0}) hG hs1 rfl rfl rfl
   have hG1:=hO1.is
   refine zb (fun h2=> ?_) (fun h2=>⟨A,rfl,?_⟩)
   ·rw[if_pos (beq_iff_eq.1 h2)]
    refine⟨rfl,hG1.old (k:=10) (by decide),hG1.free 10,fun w2 hs2=> ?_⟩
    have hO2:=hO1.trans (qG (g':={g with stt:=2}) hG1 hs2 rfl rfl rfl)
    have hG2:=hO2.is
    refine⟨rfl,hG2.old (k:=11) (by decide),hG2.free 11,fun w3 hs3=> ?_⟩
    have hO3:=hO2.trans (zyd hG2 hs3)
    have hG3:=hO3.is
    refine⟨rfl,hG3.old (k:=12) (by decide),hG3.free 12,fun w4 hs4=> ?_⟩
    have hO4:=hO3.trans (qG (g':={g with stt:=2,num:=[],asked:=false}) hG3 hs4 rfl rfl rfl)
    have hG4:=hO4.is
    refine⟨rfl,hG4.old (k:=13) (by decide),hG4.free 13,fun w5 hs5=>⟨_,rfl,hO4.trans (qG hG4 hs5 rfl rfl rfl)⟩⟩
   ·rw[if_neg (beq_eq_false_iff_ne.1 h2)]
    exact hO1
  ·have h2:g.stt=2:=by have:=beq_iff_eq.1 h2;omega
   have hl:=hk.sl (by omega)
   have e:zj g r=if 32<=r/\r<=63 then qt (zk g) r (decide (g.num=[]))else if 64<=r/\r<=126 then zL {zk g with stt:=0} r else qz {zk g with stt:=0} r:=by
     unfold zj;rw[if_neg (by omega),if_pos h2];rfl
   rw[e]
   have hkh:=zg4 hk
   have hhf:=zhl g
   have hk0:okG (zam (zk g) 0) m:=zeA hkh (hhf.2.1.trans hl) (by decide)
   have tail:∀{W:World} {A1:GlP},GlOut w W A A1 (zk g)->
    zc (decide (r>=32)&&decide (r<=63))
     (∃g1:GHo, #[Value.pointer (some ⟨A.p,11,none⟩),Value.int .i32 r,Value.bool A.na.isNone]= #[Value.pointer (some ⟨g1.A.p,11,none⟩),Value.int .i32 g1.r,Value.bool g1.f]/\(GlIn W g1.A g1.g/\fitG g1.g/\g1.g.num≠[])/\
      ∀(x:GlP) (w':World),GlOut W w' g1.A x (qt g1.g g1.r g1.f)->∃x1:GlP,Value.tuple #[]=Value.tuple #[]/\GlOut w w' A x1 (if 32<=r/\r<=63 then qt (zk g) r (decide (g.num=[]))else if 64<=r/\r<=126 then zL {zk g with stt:=0} r else qz {zk g with stt:=0} r))
     (zc (decide (r>=64)&&decide (r<=126))
       (true=true/\(∃old,W.cell? ⟨A.p,10,none⟩=some old)/\W.frozen? ⟨A.p,10,none⟩=false/\∀w12,Stored W ⟨A.p,10,none⟩ (.int .i64 0) w12->
         ∃g1:GDs, #[Value.pointer (some ⟨A.p,0,none⟩),Value.int .i32 r]= #[Value.pointer (some ⟨g1.A.p,0,none⟩),Value.int .i32 g1.r]/\(GlIn w12 g1.A g1.g/\fitG g1.g)/\
          ∀(x:GlP) (w':World),GlOut w12 w' g1.A x (zL g1.g g1.r)->∃x1:GlP,Value.tuple #[]=Value.tuple #[]/\GlOut w w' A x1 (if 32<=r/\r<=63 then qt (zk g) r (decide (g.num=[]))else if 64<=r/\r<=126 then zL {zk g with stt:=0} r else qz {zk g with stt:=0} r))
       (true=true/\(∃old,W.cell? ⟨A.p,10,none⟩=some old)/\W.frozen? ⟨A.p,10,none⟩=false/\∀w12,Stored W ⟨A.p,10,none⟩ (.int .i64 0) w12->
         ∃y:GlP,GlOut w w12 A y (zam (zk g) 0)/\(if 32<=r/\r<=63 then qt (zk g) r (decide (g.num=[]))else if 64<=r/\r<=126 then zL {zk g with stt:=0} r else qz {zk g with stt:=0} r)=qz (zam (zk g) 0) r/\okG (zam (zk g) 0) m)):=by
     intro W A1 hO1
     have hp1:A1.p=A.p:=hO1.p
     have hG1:=hO1.is
     rw[zjE hG,hp1.symm]
     refine zb (fun h3=> ?_) (fun h3=>zb (fun h4=> ?_) (fun h4=> ?_))
     ·have h3:32<=r/\r<=63:=by rw[Bool.and_eq_true]at h3;exact⟨of_decide_eq_true h3.1,of_decide_eq_true h3.2⟩
      exact⟨⟨A1,zk g,r,decide (g.num=[])⟩,rfl,⟨hG1,hkh.fit hm,hhf.2.2.1⟩,fun A2 w2 hO2=>⟨A2,rfl,by rw[if_pos h3];exact hO1.trans hO2⟩⟩
     ·have h3:¬(32<=r/\r<=63):=fun hh=>by rw[decide_eq_true (show r>=32 from hh.1),decide_eq_true hh.2]at h3;cases h3
      have h4:64<=r/\r<=126:=by rw[Bool.and_eq_true]at h4;exact⟨of_decide_eq_true h4.1,of_decide_eq_true h4.2⟩
      refine⟨rfl,hG1.old (k:=10) (by decide),hG1.free 10,fun w2 hs2=> ?_⟩
      have hO2:=qG (g':=zam (zk g) 0) hG1 hs2 rfl rfl rfl
      exact⟨⟨A1,zam (zk g) 0,r⟩,rfl,⟨hO2.is,hk0.fit hm⟩,fun A3 w3 hO3=>⟨A3,rfl,by rw[if_neg h3,if_pos h4];exact hO1.trans (hO2.trans hO3)⟩⟩
     ·have h3:¬(32<=r/\r<=63):=fun hh=>by rw[decide_eq_true (show r>=32 from hh.1),decide_eq_true hh.2]at h3;cases h3
      have h4:¬(64<=r/\r<=126):=fun hh=>by rw[decide_eq_true (show r>=64 from hh.1),decide_eq_true hh.2]at h4;cases h4
      refine⟨rfl,hG1.old (k:=10) (by decide),hG1.free 10,fun w2 hs2=> ?_⟩
      have hO2:=qG (g':=zam (zk g) 0) hG1 hs2 rfl rfl rfl
      exact⟨A1,hO1.trans hO2,by rw[if_neg h3,if_neg h4];rfl,hk0⟩
   refine⟨A.na,g.num.length,A.nc,(za hG.box 11).trans rfl,zb (fun h3=> ?_) (fun h3=> ?_)⟩
   ·have hn:g.num=[]:=by rw[zjE hG]at h3;exact of_decide_eq_true h3
    intro b w1 hn1
    have hG1:=hG.ext hn1.ext
    have z1:=hn1.size
    refine⟨rfl,hG1.old (k:=11) (by decide),hG1.free 11,fun w2 hs2=> ?_⟩
    have hr:Row w1 3 1 (some ⟨b,0,none⟩) 1 (([-1]:List Int).map (Value.int .i64)) 1:=⟨rfl, .inr ⟨b,_,rfl,hn1.heap,Nat.le_refl _,by decide,rfl,rfl⟩⟩
    have hO2:=zoG (l:=[-1]) hG rfl (by simp) hr (Fr.of_ext hn1.ext) (fun q hq=>by have:b=q:=Option.some.inj hq;exact .inr (by omega)) hs2
    have eh:zk g={g with num:=[-1]}:=by unfold zk;rw[if_pos hn]
    rw[eh.symm]at hO2
    exact tail hO2
   ·have hn:g.num≠[]:=by rw[zjE hG]at h3;exact of_decide_eq_false h3
    have eh:zk g=g:=by unfold zk;rw[if_neg hn]
    exact tail (by rw[eh];exact GlOut.refl hG)
  ·have h1:g.stt≠1:=by have:=beq_eq_false_iff_ne.1 h1;omega
   have h2:g.stt≠2:=by have:=beq_eq_false_iff_ne.1 h2;omega
   have e:zj g r=qz g r:=by unfold zj;rw[if_neg h1,if_neg h2]
   exact ziv (GlOut.refl hG) hk hm (by omega) e
  ·have hp1:A1.p=A.p:=hO.p
   have hG1:=hO.is
   refine⟨0,by rw[hp1.symm];exact(za hG1.box 10).trans rfl,zb (fun h=>by cases h) (fun _=>zb (fun h=>by cases h) (fun _=> ?_))⟩
   exact ziv hO hk1 hm rfl hT
end

section
open Go Go.RowKit Vc Ut Tb Cl
structure GlRd(w:World)(A:GlP)(ha:Option Addr)(hc:Nat)(h:ByteArray):Prop where
  rd:RdIn w A.rb ha hc h
  sm:h.size<=3
  far:∀q,q=A.rb\/(qi ha=some q/\h.size≠0)->A.B<=q/\q<w.heap.size/\¬own A q
def zmW(A:GlP)(ha:Option Addr)(h:ByteArray)(q:Nat):Prop:=own A q\/q=A.rb\/(qi ha=some q/\h.size≠0)
structure NwX where
  p:Option Addr
  e:Int
  A:GlP
def zrK:CallSpec where
  G:=Int×Int×Bool
  args:=fun g=> #[.int .i64 g.1, .int .i64 g.2.1, .bool g.2.2]
  pre:=fun _ w=>UDB w.heap.size w
  X:=NwX
  res:=fun x=> .tuple #[.pointer x.p, .int .i64 x.e]
  post:=fun g w x w'=>Ext w w'/\(Zv g.1 g.2.1=false->x.p=none/\x.e=5)/\
    (Zv g.1 g.2.1=true->x.p=some ⟨x.A.p,0,none⟩/\x.e=0/\x.A.B=w.heap.size/\GlIn w' x.A (zaO g.1.toNat g.2.1.toNat g.2.2)/\GlRd w' x.A none 0 ⟨#[]⟩)
def zms:List (Nat×CallSpec):=[(24,za4),(33,zuT)]
structure GFd where
  A:GlP
  g:Gs
  m:Nat
  ha:Option Addr
  hc:Nat
  h:ByteArray
  ad:Option Addr
  c:Nat
  b:ByteArray
structure FdOut(w w':World)(A:GlP)(ha:Option Addr)(h:ByteArray)(A':GlP)(ha':Option Addr)(hc':Nat)(g':Gs)(h':ByteArray):Prop where
  is:GlIn w' A' g'
  rd:GlRd w' A' ha' hc' h'
  p:A'.p=A.p
  b:A'.B=A.B
  rb:A'.rb=A.rb
  st:Step (zmW A ha h) w w' (zmW A' ha' h')
def zjB:CallSpec where
  G:=GFd
  args:=fun g=> #[.pointer (some ⟨g.A.p,0,none⟩), .slice g.ad g.b.size g.c]
  pre:=fun g w=>GlIn w g.A g.g/\okG g.g g.m/\GlRd w g.A g.ha g.hc g.h/\CellsAt w g.ad (zu g.b)/\g.b.size<=67108864/\g.m+3+g.b.size<=549755813888
  X:=GlP×Option Addr×Nat
  res:=fun _=> .tuple #[]
  post:=fun g w x w'=>FdOut w w' g.A g.ha g.h x.1 x.2.1 x.2.2 (zH g.g (ZF (g.h++g.b))) (fdH (g.h++g.b))
def zje:List (Nat×CallSpec):=[(41,zn7),(42,zjo)]
def zum(g:GFd)(_:World):Ann where
  sp:=zje
  loops:=[(2,{
    X:=GlP×Nat
    sh:=fun _ x=>[(15, .int .i64 x.2)]
    inv:=fun _ w0 x w=>x.2<=(ZF (g.h++g.b)).length/\GlOut w0 w g.A x.1 (zH g.g ((ZF (g.h++g.b)).take x.2))
    mu:=fun _ _ x _=>(ZF (g.h++g.b)).length - x.2})]
structure GdX where
  b:Nat
  a:Option Addr
  c:Nat
  x:Int
  y:Int
structure gdOut(g:Gs)(w w':World)(x:(Option Addr×Nat)×Gr):Prop where
  eq:x.2=qQ g
  made:Made w w' 52 6 x.1.1 g.cs.length (zE g.cs) x.1.2
structure gdI(g:Gs)(w00:World)(x:GdX)(w:World)(v:Value):Prop where
  v:v= .pointer (some ⟨w00.heap.size,0,none⟩)
  res:w.heap[w00.heap.size]? =some (.cells #[.int .i64 0, .int .i64 0, .slice none 0 0, .int .i64 0, .int .i64 0] 24)
  out:w.heap[x.b]? =some (.cells #[.int .i64 g.w, .int .i64 g.h, .slice x.a g.cs.length x.c, .int .i64 x.x, .int .i64 x.y] 24)
  ne:w00.heap.size<x.b
  made:Made w00 w 52 6 x.a g.cs.length (zE g.cs) x.c
def zjz:CallSpec where
  G:=GGl
  args:=fun g=> #[.pointer (some ⟨g.A.p,0,none⟩)]
  pre:=fun g w=>GlIn w g.A g.g/\fitG g.g
  X:=(Option Addr×Nat)×Gr
  res:=fun x=>ZT x.1.1 x.1.2 x.2
  post:=fun g w x w'=>gdOut g.g w w' x
def ptN(v:Value)(q:Nat):Prop:=match v with| .pointer (some a)=>q=a.block|_=>False
def zuk(g:GGl)(w00:World):Ann where
  sp:=[]
  frees:=[(5,fun e=>ptN (gv e 3))]
  cuts:=[(3,3,{X:=GdX,sh:=fun _ x=>[(3, .pointer (some ⟨x.b,0,none⟩))],inv:=fun e _ x w=>gdI g.g w00 x w (gv e 2)/\x.x= -1/\x.y= -1}),
    (4,5,{X:=GdX,sh:=fun _ _=>[],inv:=fun e _ x w=>gv e 3= .pointer (some ⟨x.b,0,none⟩)/\gdI g.g w00 x w (gv e 2)/\x.x=(qQ g.g).x/\x.y=(qQ g.g).y})]
end
end Go.Proofs.YtjdohhididpomaaGreatDoor
