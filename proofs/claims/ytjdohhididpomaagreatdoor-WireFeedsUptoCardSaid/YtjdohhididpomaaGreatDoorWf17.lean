/-
  Texts joined by program: VgXi, Qg, Qh, Qj, WkXm, WkXn, WkXo, SpXj.
-/
import Derived.Test.YtjdohhididpomaaGreatDoorWf16
import Derived.Test.YtjdohhididpomaaGreatDoorProg
import Derived.KernelRfl
import Derived.Test.YtjdohhididpomaaGreatDoorWf15
import Derived.Test.YtjdohhididpomaaGreatDoorWf05
set_option linter.unusedVariables false
set_option linter.unusedSimpArgs false

namespace Go.Proofs.YtjdohhididpomaaGreatDoor
section
set_option linter.unusedVariables false
open Go Go.RowKit Vc Ut Tb Cl
open Value
set_option maxRecDepth 1000000
theorem zsG(hsp:zf Tryz.prog ziW)(h:∀(g:GTak) (w:World),zfR w g.A g.g g.m->zv w g.A.p 8 fun n=>zc (n==0) (∃(x:GlP×Bool),bool false=bool x.snd/\x.snd=(zX g.g g.r).isSome/\GlOut w w g.A x.fst ((zX g.g g.r).getD g.g)) (zv w g.A.p 8 fun n1=>InR .i64 (n1 - 1)/\qY w g.A.p 3 fun a1 n2 c=>qa (n1 - 1) n2 fun k=>zn a1 fun(b o:Nat)=>LdT w b (o+k*6) fun s=>zY w .i8 b (o+k*6+1) fun n3=>zv w b (o+k*6+2) fun n4=>zv w b (o+k*6+3) fun n5=>ZL w b (o+k*6+4) fun b1=>zY w .u16 b (o+k*6+5) fun n6=>∃(g1:Ce), #[agg #[string s,int .i8 n3,int .i64 n4,int .i64 n5,bool b1,int .u16 n6]]= #[agg #[string g1.t,int .i8 g1.p,int .i64 g1.a,int .i64 g1.n,bool g1.r,int .u16 (g1.st:Int)]]/\True/\∀(x:ByteArray) w',x=zL g1/\Ext w w'->ZL w' g.A.p 2 fun b2=>∃(g2:ByteArray×Bool), #[string x,bool b2]= #[string g2.fst,bool g2.snd]/\(UD w'/\g2.fst.size<=67108864)/\∀(x1:Nat) w'1,x1=plN g2.fst g2.snd/\Ext w' w'1->x.size+(Utf8.encode g.r).size<=9223372036854775807/\ZL w'1 g.A.p 2 fun b3=>∃(g3:ByteArray×Bool), #[string (x++Utf8.encode g.r),bool b3]= #[string g3.fst,bool g3.snd]/\(UD w'1/\g3.fst.size<=67108864)/\∀(x2:Nat) w'2,x2=plN g3.fst g3.snd/\Ext w'1 w'2->zc (decide ((x2:Int)<(x1:Int))) (∃(x3:GlP×Bool),bool false=bool x3.snd/\x3.snd=(zX g.g g.r).isSome/\GlOut w w'2 g.A x3.fst ((zX g.g g.r).getD g.g)) (zc (decide ((x2:Int)>(x1:Int))) (InR .i64 (n1 - 1+1)/\zv w'2 g.A.p 0 fun n7=>(0:Int)<=n1 - 1+1/\(0:Int)<n7/\zc ((n1 - 1+1)%n7==0) (zp w'2 g.A.p 8 (int .i64 0) fun w1=>∃(x3:GlP×Bool),bool true=bool x3.snd/\x3.snd=(zX g.g g.r).isSome/\GlOut w w1 g.A x3.fst ((zX g.g g.r).getD g.g)) (InR .i64 (n1 - 1+1)/\qY w'2 g.A.p 3 fun a5 n8 c1=>qa (n1 - 1) n8 fun k1=>zn a5 fun(b4 o1:Nat)=>zY w'2 .u16 b4 (o1+k1*6+5) fun n9=>∃(g4:GLy), #[pointer (some ⟨g.A.p,0,none⟩),int .i64 (n1 - 1+1),agg #[string (ByteArray.mk #[]),int .i8 1,int .i64 0,int .i64 0,bool false,int .u16 n9]]= #[pointer (some ⟨g4.A.p,0,none⟩),int .i64 (g4.i:Int),agg #[string g4.c.t,int .i8 g4.c.p,int .i64 g4.c.a,int .i64 g4.c.n,bool g4.c.r,int .u16 (g4.c.st:Int)]]/\(GlIn w'2 g4.A g4.g/\fitG g4.g/\zbI g4.g g4.i)/\∀(x3:GlP) w'3,GlOut w'2 w'3 g4.A x3 (Z6 g4.g g4.i g4.c)->zv w'3 g.A.p 4 fun n10=>InR .i64 (n10+1)/\zp w'3 g.A.p 4 (int .i64 (n10+1)) fun w1=>qY w1 g.A.p 3 fun a8 n11 c2=>x.size+(Utf8.encode g.r).size<=9223372036854775807/\qa (n1 - 1) n11 fun k2=>zn a8 fun(b5 o2:Nat)=>zp w1 b5 (o2+k2*6) (string (x++Utf8.encode g.r)) fun w11=>∃(x4:GlP×Bool),bool true=bool x4.snd/\x4.snd=(zX g.g g.r).isSome/\GlOut w w11 g.A x4.fst ((zX g.g g.r).getD g.g))) (qY w'2 g.A.p 3 fun a5 n7 c1=>x.size+(Utf8.encode g.r).size<=9223372036854775807/\
 qa (n1 - 1) n7 fun k1=>zn a5 fun(b4 o1:Nat)=>zp w'2 b4 (o1+k1*6) (string (x++Utf8.encode g.r)) fun w1=>∃(x3:GlP×Bool),bool true=bool x3.snd/\x3.snd=(zX g.g g.r).isSome/\GlOut w w1 g.A x3.fst ((zX g.g g.r).getD g.g))))):zje.Ok Tryz.prog 88:=ze zje (zI ziW) ziW (fun _ _=>rfl) (fun _ _=>rfl) hsp Tryz.func88 rfl (n:=2) (fun _=>rfl) (by kernel_rfl) (zj (by kernel_rfl) h)
theorem zuR(hsp:zf Tryz.prog zl9)(h:∀(g:GTak) (w:World),zfR w g.A g.g g.m/\g.g.stt=0->∃(g1:GTak), #[pointer (some ⟨g.A.p,0,none⟩),int .i32 g.r]= #[pointer (some ⟨g1.A.p,0,none⟩),int .i32 g1.r]/\zfR w g1.A g1.g g1.m/\∀(x:GlP×Bool) w',x.snd=(zX g1.g g1.r).isSome/\GlOut w w' g1.A x.fst ((zX g1.g g1.r).getD g1.g)->zc x.snd (∃(x1:GlP),tuple #[]=tuple #[]/\GlOut w w' g.A x1 (qD g.g g.r)) (zp w' g.A.p 8 (int .i64 0) fun w1=>ZL w1 g.A.p 2 fun b=>∃(g2:GT6), #[string (Utf8.encode g.r),int .i64 0,agg #[int .i64 0,bool b,int .i8 0,bool false,bool false]]= #[string g2.s,int .i64 g2.col,agg #[int .i64 g2.l.tab,bool g2.l.wide,int .i8 g2.l.want,bool g2.l.join,bool g2.l.raw]]/\(U8 w1/\DB w1/\g2.s.size<=67108864)/\∀(x1:ByteArray×Nat) w'1,x1=Zb g2.s g2.col g2.l/\Ext w1 w'1->ZL w'1 g.A.p 2 fun b1=>∃(g3:ByteArray×Bool), #[string x1.fst,bool b1]= #[string g3.fst,bool g3.snd]/\(UD w'1/\g3.fst.size<=67108864)/\∀(x2:Nat) w'2,x2=plN g3.fst g3.snd/\Ext w'1 w'2->zc ((x2:Int)==0) (∃(x3:GlP),tuple #[]=tuple #[]/\GlOut w w'2 g.A x3 (qD g.g g.r)) (zv w'2 g.A.p 0 fun n=>zc (decide ((x2:Int)>n)) (∃(x3:GlP),tuple #[]=tuple #[]/\GlOut w w'2 g.A x3 (qD g.g g.r)) (zv w'2 g.A.p 1 fun n1=>zc (n1==0) (∃(x3:GlP),tuple #[]=tuple #[]/\GlOut w w'2 g.A x3 (qD g.g g.r)) ((∀w11,Drew w'2 w11->zv w'2 g.A.p 4 fun n2=>InR .i64 (n2+(x2:Int))/\zv w'2 g.A.p 0 fun n3=>zc (decide (n2+(x2:Int)>n3)) (zp w11 g.A.p 4 (int .i64 0) fun w12=>∃(g4:GGl), #[pointer (some ⟨g.A.p,0,none⟩)]= #[pointer (some ⟨g4.A.p,0,none⟩)]/\(GlIn w12 g4.A g4.g/\fitG g4.g)/\∀(x3:GlP) w'3,GlOut w12 w'3 g4.A x3 (zZ g4.g)->∃(c:GlP),ptI g w c w'3 (string x1.fst) (int .i64 (x2:Int))) (∃(c:GlP),ptI g w c w11 (string x1.fst) (int .i64 (x2:Int))))/\∀(u:Nat->Value) (c:GlP) w'3,ptI g w c w'3 (string x1.fst) (int .i64 (x2:Int))->∀w11,Drew w'3 w11->zv w'3 g.A.p 5 fun n2=>zv w'3 g.A.p 0 fun n3=>InR .i64 (n2*n3)/\zv w'3 g.A.p 4 fun n4=>InR .i64 (n2*n3+n4)/\zc ((x2:Int)==2) (InR .i64 (n2*n3+n4+1)/\zY w11 .u16 g.A.p 7 fun n5=>∃(g4:GLy), #[pointer (some ⟨g.A.p,0,none⟩),int .i64 (n2*n3+n4+1),agg #[string (ByteArray.mk #[]),int .i8 0,int .i64 0,int .i64 0,bool false,int .u16 n5]]= #[pointer (some ⟨g4.A.p,0,none⟩),int .i64 (g4.i:Int),agg #[string g4.c.t,int .i8 g4.c.p,int .i64 g4.c.a,int .i64 g4.c.n,bool g4.c.r,int .u16 (g4.c.st:Int)]]/\(GlIn w11 g4.A g4.g/\fitG g4.g/\zbI g4.g g4.i)/\∀(x3:GlP) w'4,GlOut w11 w'4 g4.A x3 (Z6 g4.g g4.i g4.c)->zY w'4 .u16 g.A.p 7 fun n6=>∃(g5:GLy), #[pointer (some ⟨g.A.p,0,none⟩),int .i64 (n2*n3+n4),agg #[string x1.fst,int .i8 0,int .i64 0,int .i64 0,bool false,int .u16 n6]]= #[pointer (some ⟨g5.A.p,0,none⟩),int .i64 (g5.i:Int),agg
 #[string g5.c.t,int .i8 g5.c.p,int .i64 g5.c.a,int .i64 g5.c.n,bool g5.c.r,int .u16 (g5.c.st:Int)]]/\(GlIn w'4 g5.A g5.g/\fitG g5.g/\zbI g5.g g5.i)/\∀(x4:GlP) w'5,GlOut w'4 w'5 g5.A x4 (Z6 g5.g g5.i g5.c)->zc ((x2:Int)==2) (qY w'5 g.A.p 3 fun a9 n7 c1=>InR .i64 (n2*n3+n4+1)/\qa (n2*n3+n4+1) n7 fun k=>zn a9 fun(b2 o:Nat)=>zp w'5 b2 (o+k*6+1) (int .i8 1) fun w12=>zv w12 g.A.p 4 fun n8=>InR .i64 (n8+(x2:Int))/\zp w12 g.A.p 4 (int .i64 (n8+(x2:Int))) fun w13=>InR .i64 (n2*n3+n4+1)/\zp w13 g.A.p 8 (int .i64 (n2*n3+n4+1)) fun w14=>∃(x5:GlP),tuple #[]=tuple #[]/\GlOut w w14 g.A x5 (qD g.g g.r)) (zv w'5 g.A.p 4 fun n7=>InR .i64 (n7+(x2:Int))/\zp w'5 g.A.p 4 (int .i64 (n7+(x2:Int))) fun w12=>InR .i64 (n2*n3+n4+1)/\zp w12 g.A.p 8 (int .i64 (n2*n3+n4+1)) fun w13=>∃(x5:GlP),tuple #[]=tuple #[]/\GlOut w w13 g.A x5 (qD g.g g.r))) (zY w11 .u16 g.A.p 7 fun n5=>∃(g4:GLy), #[pointer (some ⟨g.A.p,0,none⟩),int .i64 (n2*n3+n4),agg #[string x1.fst,int .i8 0,int .i64 0,int .i64 0,bool false,int .u16 n5]]= #[pointer (some ⟨g4.A.p,0,none⟩),int .i64 (g4.i:Int),agg #[string g4.c.t,int .i8 g4.c.p,int .i64 g4.c.a,int .i64 g4.c.n,bool g4.c.r,int .u16 (g4.c.st:Int)]]/\(GlIn w11 g4.A g4.g/\fitG g4.g/\zbI g4.g g4.i)/\∀(x3:GlP) w'4,GlOut w11 w'4 g4.A x3 (Z6 g4.g g4.i g4.c)->zc ((x2:Int)==2) (qY w'4 g.A.p 3 fun a8 n6 c1=>InR .i64 (n2*n3+n4+1)/\qa (n2*n3+n4+1) n6 fun k=>zn a8 fun(b2 o:Nat)=>zp w'4 b2 (o+k*6+1) (int .i8 1) fun w12=>zv w12 g.A.p 4 fun n7=>InR .i64 (n7+(x2:Int))/\zp w12 g.A.p 4 (int .i64 (n7+(x2:Int))) fun w13=>InR .i64 (n2*n3+n4+1)/\zp w13 g.A.p 8 (int .i64 (n2*n3+n4+1)) fun w14=>∃(x4:GlP),tuple #[]=tuple #[]/\GlOut w w14 g.A x4 (qD g.g g.r)) (zv w'4 g.A.p 4 fun n6=>InR .i64 (n6+(x2:Int))/\zp w'4 g.A.p 4 (int .i64 (n6+(x2:Int))) fun w12=>InR .i64 (n2*n3+n4+1)/\zp w12 g.A.p 8 (int .i64 (n2*n3+n4+1)) fun w13=>∃(x4:GlP),tuple #[]=tuple #[]/\GlOut w w13 g.A x4 (qD g.g g.r)))))))):znH.Ok Tryz.prog 62:=ze znH zwx zl9 (fun _ _=>rfl) (fun _ _=>rfl) hsp Tryz.func62 rfl (n:=2) (fun _=>rfl) (by kernel_rfl) (zj (by kernel_rfl) h)
theorem zq5(hsp:zf Tryz.prog ziK)(h:∀(g:GTak) (w:World),zfR w g.A g.g g.m->(zv w g.A.p 10 fun n=>zc (n==1) (zp w g.A.p 10 (int .i64 0) fun w1=>zc (g.r==91) (zp w1 g.A.p 10 (int .i64 2) fun w11=>zp w11 g.A.p 11 (slice none 0 0) fun w12=>zp w12 g.A.p 12 (bool false) fun w13=>zp w13 g.A.p 13 (bool false) fun w14=>∃(x:GlP),tuple #[]=tuple #[]/\GlOut w w14 g.A x (zi g.g g.r)) (∃(x:GlP),tuple #[]=tuple #[]/\GlOut w w1 g.A x (zi g.g g.r))) (zc (n==2) (qY w g.A.p 11 fun a1 n1 c=>zc a1.isNone (∀b w1,New w (Obj.cells #[int .i64 (-1:Int)] 3) b w1->zp w1 g.A.p 11 (slice (some ⟨b,0,none⟩) 1 1) fun w11=>zc (decide (g.r>=32)&&decide (g.r<=63)) (∃(g1:GHo), #[pointer (some ⟨g.A.p,11,none⟩),int .i32 g.r,bool a1.isNone]= #[pointer (some ⟨g1.A.p,11,none⟩),int .i32 g1.r,bool g1.f]/\(GlIn w11 g1.A g1.g/\fitG g1.g/\g1.g.num≠[])/\∀(x:GlP) w',GlOut w11 w' g1.A x (qp g1.g g1.r g1.f)->∃(x1:GlP),tuple #[]=tuple #[]/\GlOut w w' g.A x1 (zi g.g g.r)) (zc (decide (g.r>=64)&&decide (g.r<=126)) (zp w11 g.A.p 10 (int .i64 0) fun w12=>∃(g1:GDs), #[pointer (some ⟨g.A.p,0,none⟩),int .i32 g.r]= #[pointer (some ⟨g1.A.p,0,none⟩),int .i32 g1.r]/\(GlIn w12 g1.A g1.g/\fitG g1.g)/\∀(x:GlP) w',GlOut w12 w' g1.A x (zH g1.g g1.r)->∃(x1:GlP),tuple #[]=tuple #[]/\GlOut w w' g.A x1 (zi g.g g.r)) (zp w11 g.A.p 10 (int .i64 0) fun w12=>∃(y:GlP),GlOut w w12 g.A y (Q7 (zk g.g) 0)/\zi g.g g.r=qy (Q7 (zk g.g) 0) g.r/\okG (Q7 (zk g.g) 0) g.m))) (zc (decide (g.r>=32)&&decide (g.r<=63)) (∃(g1:GHo), #[pointer (some ⟨g.A.p,11,none⟩),int .i32 g.r,bool a1.isNone]= #[pointer (some ⟨g1.A.p,11,none⟩),int .i32 g1.r,bool g1.f]/\(GlIn w g1.A g1.g/\fitG g1.g/\g1.g.num≠[])/\∀(x:GlP) w',GlOut w w' g1.A x (qp g1.g g1.r g1.f)->∃(x1:GlP),tuple #[]=tuple #[]/\GlOut w w' g.A x1 (zi g.g g.r)) (zc (decide (g.r>=64)&&decide (g.r<=126)) (zp w g.A.p 10 (int .i64 0) fun w1=>∃(g1:GDs), #[pointer (some ⟨g.A.p,0,none⟩),int .i32 g.r]= #[pointer (some ⟨g1.A.p,0,none⟩),int .i32 g1.r]/\(GlIn w1 g1.A g1.g/\fitG g1.g)/\∀(x:GlP) w',GlOut w1 w' g1.A x (zH g1.g g1.r)->∃(x1:GlP),tuple #[]=tuple #[]/\GlOut w w' g.A x1 (zi g.g g.r)) (zp w g.A.p 10 (int .i64 0) fun w1=>∃(y:GlP),GlOut w w1 g.A y (Q7 (zk g.g) 0)/\zi g.g g.r=qy (Q7 (zk g.g) 0) g.r/\okG (Q7 (zk g.g) 0) g.m)))) (∃(g1:Int), #[int .i32 g.r]= #[int .i32 g1]/\True/\∀(x:Int) w',x=zl g1/\Ext w w'->zc (x !=0) (∃(g2:GTak), #[pointer (some ⟨g.A.p,0,none⟩),int .i32 g.r]= #[pointer (some ⟨g2.A.p,0,none⟩),int .i32 g2.r]/\(zfR w' g2.A g2.g g2.m/\g2.g.stt=0)/\∀(x1:GlP) w'1,GlOut w' w'1 g2.A x1 (qD g2.g g2.r)->∃(x2:GlP),tuple #[]=tuple #[]/\GlOut w w'1 g.A x2 (zi g.g g.r)) (zp w' g.A.p 8 (int .i64 0) fun w1=>
 zc (g.r==27) (zp w1 g.A.p 10 (int .i64 1) fun w11=>∃(x1:GlP),tuple #[]=tuple #[]/\GlOut w w11 g.A x1 (zi g.g g.r)) (zc (g.r==13) (zp w1 g.A.p 4 (int .i64 0) fun w11=>∃(x1:GlP),tuple #[]=tuple #[]/\GlOut w w11 g.A x1 (zi g.g g.r)) (zc (g.r==10) (∃(g2:GGl), #[pointer (some ⟨g.A.p,0,none⟩)]= #[pointer (some ⟨g2.A.p,0,none⟩)]/\(GlIn w1 g2.A g2.g/\fitG g2.g)/\∀(x1:GlP) w'1,GlOut w1 w'1 g2.A x1 (qq g2.g)->∃(g3:GGl), #[pointer (some ⟨g.A.p,0,none⟩)]= #[pointer (some ⟨g3.A.p,0,none⟩)]/\(GlIn w'1 g3.A g3.g/\fitG g3.g)/\∀(x2:GlP) w'2,GlOut w'1 w'2 g3.A x2 (zZ g3.g)->∃(x3:GlP),tuple #[]=tuple #[]/\GlOut w w'2 g.A x3 (zi g.g g.r)) (∃(x1:GlP),tuple #[]=tuple #[]/\GlOut w w1 g.A x1 (zi g.g g.r))))))))/\(∀(u:Nat->Value) (x:GlP) w',GlOut w w' g.A x (Q7 (zk g.g) 0)/\zi g.g g.r=qy (Q7 (zk g.g) 0) g.r/\okG (Q7 (zk g.g) 0) g.m->zv w' g.A.p 10 fun n=>zc (n==1) (zp w' g.A.p 10 (int .i64 0) fun w1=>zc (g.r==91) (zp w1 g.A.p 10 (int .i64 2) fun w11=>zp w11 g.A.p 11 (slice none 0 0) fun w12=>zp w12 g.A.p 12 (bool false) fun w13=>zp w13 g.A.p 13 (bool false) fun w14=>∃(x1:GlP),tuple #[]=tuple #[]/\GlOut w w14 g.A x1 (zi g.g g.r)) (∃(x1:GlP),tuple #[]=tuple #[]/\GlOut w w1 g.A x1 (zi g.g g.r))) (zc (n==2) (qY w' g.A.p 11 fun a2 n1 c=>zc a2.isNone (∀b w1,New w' (Obj.cells #[int .i64 (-1:Int)] 3) b w1->zp w1 g.A.p 11 (slice (some ⟨b,0,none⟩) 1 1) fun w11=>zc (decide (g.r>=32)&&decide (g.r<=63)) (∃(g1:GHo), #[pointer (some ⟨g.A.p,11,none⟩),int .i32 g.r,bool a2.isNone]= #[pointer (some ⟨g1.A.p,11,none⟩),int .i32 g1.r,bool g1.f]/\(GlIn w11 g1.A g1.g/\fitG g1.g/\g1.g.num≠[])/\∀(x1:GlP) w'1,GlOut w11 w'1 g1.A x1 (qp g1.g g1.r g1.f)->∃(x2:GlP),tuple #[]=tuple #[]/\GlOut w w'1 g.A x2 (zi g.g g.r)) (zc (decide (g.r>=64)&&decide (g.r<=126)) (zp w11 g.A.p 10 (int .i64 0) fun w12=>∃(g1:GDs), #[pointer (some ⟨g.A.p,0,none⟩),int .i32 g.r]= #[pointer (some ⟨g1.A.p,0,none⟩),int .i32 g1.r]/\(GlIn w12 g1.A g1.g/\fitG g1.g)/\∀(x1:GlP) w'1,GlOut w12 w'1 g1.A x1 (zH g1.g g1.r)->∃(x2:GlP),tuple #[]=tuple #[]/\GlOut w w'1 g.A x2 (zi g.g g.r)) (zp w11 g.A.p 10 (int .i64 0) fun w12=>∃(y:GlP),(GlOut w w12 g.A y (Q7 (zk g.g) 0)/\zi g.g g.r=qy (Q7 (zk g.g) 0) g.r/\okG (Q7 (zk g.g) 0) g.m)/\0<0))) (zc (decide (g.r>=32)&&decide (g.r<=63)) (∃(g1:GHo), #[pointer (some ⟨g.A.p,11,none⟩),int .i32 g.r,bool a2.isNone]= #[pointer (some ⟨g1.A.p,11,none⟩),int .i32 g1.r,bool g1.f]/\(GlIn w' g1.A g1.g/\fitG g1.g/\g1.g.num≠[])/\∀(x1:GlP) w'1,GlOut w' w'1 g1.A x1 (qp g1.g g1.r g1.f)->∃(x2:GlP),tuple #[]=tuple #[]/\GlOut w w'1 g.A x2 (zi g.g g.r)) (zc (decide (g.r>=64)&&decide (g.r<=126)) (zp w' g.A.p 10 (int .i64 0) fun w1=>∃(g1:GDs),
 #[pointer (some ⟨g.A.p,0,none⟩),int .i32 g.r]= #[pointer (some ⟨g1.A.p,0,none⟩),int .i32 g1.r]/\(GlIn w1 g1.A g1.g/\fitG g1.g)/\∀(x1:GlP) w'1,GlOut w1 w'1 g1.A x1 (zH g1.g g1.r)->∃(x2:GlP),tuple #[]=tuple #[]/\GlOut w w'1 g.A x2 (zi g.g g.r)) (zp w' g.A.p 10 (int .i64 0) fun w1=>∃(y:GlP),(GlOut w w1 g.A y (Q7 (zk g.g) 0)/\zi g.g g.r=qy (Q7 (zk g.g) 0) g.r/\okG (Q7 (zk g.g) 0) g.m)/\0<0)))) (∃(g1:Int), #[int .i32 g.r]= #[int .i32 g1]/\True/\∀(x1:Int) w'1,x1=zl g1/\Ext w' w'1->zc (x1 !=0) (∃(g2:GTak), #[pointer (some ⟨g.A.p,0,none⟩),int .i32 g.r]= #[pointer (some ⟨g2.A.p,0,none⟩),int .i32 g2.r]/\(zfR w'1 g2.A g2.g g2.m/\g2.g.stt=0)/\∀(x2:GlP) w'2,GlOut w'1 w'2 g2.A x2 (qD g2.g g2.r)->∃(x3:GlP),tuple #[]=tuple #[]/\GlOut w w'2 g.A x3 (zi g.g g.r)) (zp w'1 g.A.p 8 (int .i64 0) fun w1=>zc (g.r==27) (zp w1 g.A.p 10 (int .i64 1) fun w11=>∃(x2:GlP),tuple #[]=tuple #[]/\GlOut w w11 g.A x2 (zi g.g g.r)) (zc (g.r==13) (zp w1 g.A.p 4 (int .i64 0) fun w11=>∃(x2:GlP),tuple #[]=tuple #[]/\GlOut w w11 g.A x2 (zi g.g g.r)) (zc (g.r==10) (∃(g2:GGl), #[pointer (some ⟨g.A.p,0,none⟩)]= #[pointer (some ⟨g2.A.p,0,none⟩)]/\(GlIn w1 g2.A g2.g/\fitG g2.g)/\∀(x2:GlP) w'2,GlOut w1 w'2 g2.A x2 (qq g2.g)->∃(g3:GGl), #[pointer (some ⟨g.A.p,0,none⟩)]= #[pointer (some ⟨g3.A.p,0,none⟩)]/\(GlIn w'2 g3.A g3.g/\fitG g3.g)/\∀(x3:GlP) w'3,GlOut w'2 w'3 g3.A x3 (zZ g3.g)->∃(x4:GlP),tuple #[]=tuple #[]/\GlOut w w'3 g.A x4 (zi g.g g.r)) (∃(x2:GlP),tuple #[]=tuple #[]/\GlOut w w1 g.A x2 (zi g.g g.r))))))))/\True):zi6.Ok Tryz.prog 42:=ze zi6 ztQ ziK (fun _ _=>rfl) (fun _ _=>rfl) hsp Tryz.func42 rfl (n:=2) (fun _=>rfl) (by kernel_rfl) (zj (by kernel_rfl) h)
end

section
open Go Vc Ut Tb Cl Orb
theorem zav{st:Nat}(h:st<65536):ze9 (zr st):=⟨h,rfl,rfl,rfl⟩
theorem okG.mono{g:Gs}{m n:Nat}(h:okG g m)(hm:m<=n):okG g n:=⟨h.w,h.h,h.len,h.ok,h.x,h.y,h.sty,h.st,h.num,Nat.le_trans h.numl (by omega),h.stt,h.sl,h.last⟩
theorem zjr{w h:Nat}(hw:w<=1024)(hh:h<=1024)(wd:Bool):okG (Zg w h wd) 0:=
  ⟨hw,hh,List.length_replicate,zn5 _ _ _ _,Nat.zero_le _, .inr rfl,by show(0:Nat)<65536;decide,fun c hc=>by rw[(List.mem_replicate.1 hc).2];exact zav (by decide),fun _ h=>(by cases h),by show(0:Nat)<=1;decide,by show(0:Nat)<=2;decide,fun _=>rfl,fun h=>absurd rfl h⟩
theorem zdW{l:List Ce}{i:Nat}(h:i<l.length):zg l i∈l:=by rw[zbE h];exact List.getElem_mem h
theorem zbT{l:List Ce}{i:Nat}{c:Ce}(h:∀c∈l,ze9 c)(hc:ze9 c):∀d∈l.set i c,ze9 d:=fun d hd=>(List.mem_or_eq_of_mem_set hd).elim (h d) (fun e=>by rw[e];exact hc)
theorem zf6{l:List Ce}(h:∀c∈l,ze9 c)(i:Nat):ze9 (zg l i):=by
  by_cases hi:i<l.length
  ·exact h _ (zdW hi)
  ·rw[zdV (by omega)];exact zav (by decide)
theorem zf5{l:List Ce}{w i:Nat}{c:Ce}(h:∀c∈l,ze9 c)(hc:ze9 c):∀d∈zC l w i c,ze9 d:=by
  unfold zC
  split
  ·exact zbT (zbT h (zav (zf6 h _).1)) hc
  split
  ·exact zbT (zbT h (zav (zf6 h _).1)) hc
  ·exact zbT h hc
theorem Qt{g:Gs}{m:Nat}(h:okG g m):okG {g with last:=0} m:=⟨h.w,h.h,h.len,h.ok,h.x,h.y,h.sty,h.st,h.num,h.numl,h.stt,fun _=>rfl,fun h=>absurd rfl h⟩
theorem zkR{g:Gs}{m:Nat}(h:okG g m):okG {g with last:=0,x:=0} m:=⟨h.w,h.h,h.len,h.ok,Nat.zero_le _,h.y,h.sty,h.st,h.num,h.numl,h.stt,fun _=>rfl,fun h=>absurd rfl h⟩
theorem zfy{g:Gs}{m:Nat}(h:okG g m)(h0:g.last=0):okG (qq g) m:=by
  unfold qq;split
  ·exact⟨h.w,h.h,h.len,h.ok,by show g.w - 1<=g.w;omega,h.y,h.sty,h.st,h.num,h.numl,h.stt,fun _=>h0,fun h=>absurd h0 h⟩
  ·exact h
theorem zql(g:Gs):(qq g).last=g.last:=by unfold qq;split<;>rfl
theorem zim(g:Gs):(zZ g).last=g.last:=by unfold zZ;split<;>rfl
theorem zjs{g:Gs}{m:Nat}(h:okG g m)(h0:g.last=0):okG (zZ g) m:=by
  unfold zZ;split
  ·rename_i hy
   exact⟨h.w,h.h,h.len,h.ok,h.x, .inl hy,h.sty,h.st,h.num,h.numl,h.stt,fun _=>h0,fun h=>absurd h0 h⟩
  ·have hl:=h.len
   by_cases hw:g.w<=g.cs.length
   ·refine⟨h.w,h.h,?_,zsc h.ok hw _,h.x,h.y,h.sty,?_,h.num,h.numl,h.stt,fun _=>h0,fun h=>absurd h0 h⟩
    ·show(g.cs.drop g.w++List.replicate (min g.w g.cs.length) (zr 0)).length=g.w*g.h
     rw[List.length_append,List.length_drop,List.length_replicate];omega
    ·intro c hc
     rcases List.mem_append.1 hc with hc|hc
     ·exact h.st c (List.mem_of_mem_drop hc)
     ·rw[(List.mem_replicate.1 hc).2];exact zav (by decide)
   ·have hc0:g.cs=[]:=by
      have:g.h=0:=by
        rcases Nat.eq_zero_or_pos g.h with e|e
        ·exact e
        ·have:=Nat.le_mul_of_pos_right g.w e;omega
      rw[this,Nat.mul_zero]at hl
      exact List.eq_nil_of_length_eq_zero hl
    have e:({g with cs:=g.cs.drop g.w++List.replicate (min g.w g.cs.length) (zr 0)}:Gs)=g:=by
      rw[show g.cs.drop g.w++List.replicate (min g.w g.cs.length) (zr 0)=g.cs from by rw[hc0];simp]
    rw[e];exact h
theorem ZQ{l:List Ce}{w i:Nat}{wd:Bool}(h:okL l w wd)(hi:i<l.length)(hp:(zg l i).p=0):plN (zL (zg l i)) wd=1\/plN (zL (zg l i)) wd=2/\(i+1)%w≠0/\i+1<l.length/\(zg l (i+1)).p=1/\(zg l (i+1)).st=(zg l i).st/\(zg l (i+1)).t.size=0:=by
  have:=h i hi
  unfold ZR at this
  rw[if_neg (by rw[hp];decide)]at this
  exact this.2
theorem Q1(r:Int):(Zo r).size<=4:=by
  have h:=congrArg List.length (zil r)
  rw[List.length_map]at h
  have h2:=(zhc (zD r)).2
  show(Utf8.encode r).data.size<=4
  rw[<-Array.length_toList]
  omega
theorem zsb{l:List Ce}{w i:Nat}{wd:Bool}{s:ByteArray}(h:okL l w wd)(hi:i<l.length)(hp:(zg l i).p=0)(hs:plN s wd=plN (zL (zg l i)) wd):okL (l.set i {zg l i with t:=s}) w wd:=by
  have h2:=ZQ h hi hp
  have hn:plN s wd≠0:=by rcases h2 with h2|h2<;>omega
  have ht:zL {zg l i with t:=s}=s:=zfP hp hn
  have hg:∀j,zg (l.set i {zg l i with t:=s}) j=if j=i then {zg l i with t:=s}else zg l j:=fun j=>qZ hi
  intro j hj
  rw[List.length_set]at hj
  have hoj:=h j hj
  unfold ZR at hoj⊢
  have hpp:∀k,(zg (l.set i {zg l i with t:=s}) k).p=(zg l k).p:=fun k=>by
    rw[hg];split
    ·rename_i e;rw[e]
    ·rfl
  have hst:∀k,(zg (l.set i {zg l i with t:=s}) k).st=(zg l k).st:=fun k=>by
    rw[hg];split
    ·rename_i e;rw[e]
    ·rfl
  have hpl:∀k,plN (zL (zg (l.set i {zg l i with t:=s}) k)) wd=plN (zL (zg l k)) wd:=fun k=>by
    rw[hg];split
    ·rename_i e;rw[ht,e,hs]
    ·rfl
  rw[hpp,hpp,hpl,hpl,hpp,hst,hst,List.length_set]
  by_cases h1:(zg l j).p=1
  ·rw[if_pos h1]at hoj⊢;exact hoj
  ·rw[if_neg h1]at hoj⊢
   refine⟨hoj.1,hoj.2.imp id fun⟨a1,a2,a3,a4,a5,a6⟩=>⟨a1,a2,a3,a4,a5,?_⟩⟩
   rw[hg,if_neg (fun e=>by rw[e,hp]at a4;cases a4)]
   exact a6
theorem zvb{g g':Gs}{m:Nat}{r:Int}(h:okG g m)(hj:zX g r=some g'):okG g' m:=by
  unfold zX at hj
  split at hj
  ·cases hj
  rename_i hl
  have hL:=h.last hl
  have hlt:g.last - 1<g.cs.length:=by have:=hL.le;omega
  have hst0:g.stt=0:=by
    rcases Nat.eq_zero_or_pos g.stt with e|e
    ·exact e
    ·exact absurd (h.sl (by omega)) hl
  split at hj
  ·cases hj
  rename_i hn1
  split at hj
  ·rename_i hn2
   split at hj
   ·injection hj with hj;subst hj;exact Qt h
   ·rename_i hm
    injection hj with hj;subst hj
    have h2:=ZQ h.ok hlt hL.p
    have hb:=zel (zL (zg g.cs (g.last - 1))++Zo r) g.wd
    have h21:plN (zL (zg g.cs (g.last - 1))) g.wd=1:=by rcases h2 with h2|h2<;>omega
    have h22:plN (zL (zg g.cs (g.last - 1))++Zo r) g.wd=2:=by omega
    have hat:=hL.at_
    rw[h21]at hat
    have hxw:g.x<g.w:=by
      rcases Nat.lt_or_ge g.x g.w with e|e
      ·exact e
      ·have e2:g.x=g.w:=Nat.le_antisymm h.x e
       rw[show g.last=g.y*g.w+g.w by omega,Nat.add_mod_right,Nat.mul_mod_left]at hm
       exact absurd rfl hm
    have hyh:g.y<g.h:=by
      rcases h.y with e|e
      ·exact e
      ·rcases Nat.eq_zero_or_pos g.h with e2|e2
       ·have:=h.len;rw[e2,Nat.mul_zero]at this;have:=hL.le;omega
       ·omega
    have hll:g.last<g.cs.length:=by
      rw[h.len]
      have:(g.y+1)*g.w<=g.h*g.w:=Nat.mul_le_mul_right _ hyh
      rw[Nat.add_mul,Nat.one_mul,Nat.mul_comm g.h]at this
      omega
    have hi1:g.last - 1+1=g.last:=by omega
    have hp1:¬(zg g.cs g.last).p=1:=fun e=>by
      have:=h.ok g.last hll
      unfold ZR at this
      rw[if_pos e]at this
      omega
    have hgl:=Zf (w:=g.w) (c:=Zs (zg g.cs (g.last - 1)).st) hll (fun e=>absurd e hp1)
    have e1:zg (zC g.cs g.w g.last (Zs (zg g.cs (g.last - 1)).st)) (g.last - 1)=zg g.cs (g.last - 1):=by
      rw[hgl,if_neg (by omega),if_neg hp1,if_neg (by omega)]
    rw[e1]
    have hn:plN (zL (zg g.cs (g.last - 1))++Zo r) g.wd≠0:=by omega
    have htx:zL {zg g.cs (g.last - 1)with t:=zL (zg g.cs (g.last - 1))++Zo r}=zL (zg g.cs (g.last - 1))++Zo r:=zfP hL.p hn
    have hcell:okL ((zC g.cs g.w g.last (Zs (zg g.cs (g.last - 1)).st)).set (g.last - 1) {zg g.cs (g.last - 1)with t:=zL (zg g.cs (g.last - 1))++Zo r}) g.w g.wd:=by
      rw[<-zol (c:=zr 0),List.set_comm _ _ (by omega)]
      have o1:=zct h.ok hll (ZY 0 g.wd)
      have hgb:=Zf (w:=g.w) (c:=zr 0) hll (fun e=>absurd e hp1)
      have:=zkS (i:=g.last - 1) (c:={zg g.cs (g.last - 1)with t:=zL (zg g.cs (g.last - 1))++Zo r}) (d:=Zs (zg g.cs (g.last - 1)).st) o1 (by rw[zN];omega) (by rw[hi1];exact hm)
        (by rw[hgb,if_neg (by omega),if_neg hp1,if_neg (by omega)];exact⟨hL.p,h21⟩) (by rw[hi1,hgb,if_pos rfl];exact ZY 0 _) hL.p (by rw[htx];exact h22) rfl rfl rfl
      rw[hi1]at this
      exact this
    refine⟨h.w,h.h,?_,hcell,by show g.x+1<=g.w;omega,h.y,h.sty,?_,h.num,h.numl,h.stt,fun e=>absurd hst0 e,fun _=>⟨?_,?_,?_⟩⟩
    ·show(List.set _ _ _).length=_
     rw[List.length_set,zN];exact h.len
    ·exact zbT (zf5 h.st ⟨(zf6 h.st (g.last - 1)).1,rfl,rfl,rfl⟩) (zf6 h.st (g.last - 1))
    ·show g.last<=(List.set _ _ _).length
     rw[List.length_set,zN];exact hL.le
    ·show(zg (List.set _ _ _) (g.last - 1)).p=0
     rw[qZ (by rw[zN];exact hlt),if_pos rfl];exact hL.p
    ·show g.y*g.w+(g.x+1)+1=g.last+plN (zL (zg (List.set _ _ _) (g.last - 1))) g.wd
     rw[qZ (by rw[zN];exact hlt),if_pos rfl,htx,h22];omega
  ·rename_i hn2
   injection hj with hj;subst hj
   have heq:plN (zL (zg g.cs (g.last - 1))++Zo r) g.wd=plN (zL (zg g.cs (g.last - 1))) g.wd:=by omega
   have h2:=ZQ h.ok hlt hL.p
   have hn:plN (zL (zg g.cs (g.last - 1))++Zo r) g.wd≠0:=by rcases h2 with h2|h2<;>omega
   have htx:zL {zg g.cs (g.last - 1)with t:=zL (zg g.cs (g.last - 1))++Zo r}=zL (zg g.cs (g.last - 1))++Zo r:=zfP hL.p hn
   refine⟨h.w,h.h,by rw[List.length_set];exact h.len,zsb h.ok hlt hL.p heq,h.x,h.y,h.sty,zbT h.st (zf6 h.st (g.last - 1)),h.num,h.numl,h.stt,h.sl,fun _=>⟨?_,?_,?_⟩⟩
   ·show g.last<=(List.set _ _ _).length
    rw[List.length_set];exact hL.le
   ·show(zg (List.set _ _ _) (g.last - 1)).p=0
    rw[qZ hlt,if_pos rfl];exact hL.p
   ·show g.y*g.w+g.x+1=g.last+plN (zL (zg (List.set _ _ _) (g.last - 1))) g.wd
    rw[qZ hlt,if_pos rfl,htx,heq];exact hL.at_
theorem zk7{g g':Gs}{r:Int}(hj:zX g r=some g'):g'.stt=g.stt/\g'.w=g.w/\g'.h=g.h/\g'.wd=g.wd:=by
  unfold zX at hj
  split at hj
  ·cases hj
  split at hj
  ·cases hj
  split at hj
  ·split at hj<;>(injection hj with hj;subst hj;exact⟨rfl,rfl,rfl,rfl⟩)
  ·injection hj with hj;subst hj;exact⟨rfl,rfl,rfl,rfl⟩
theorem zsa{g:Gs}{m n:Nat}{s:ByteArray}(h:okG g m)(hs:g.stt=0)(hn:plN s g.wd=n)(h0:n≠0)(hx:g.x+n<=g.w)(hh:g.h≠0):okG (Qc g s n) m:=by
  have h2:=zel s g.wd
  have hyh:g.y<g.h:=by rcases h.y with e|e<;>omega
  have hi:g.y*g.w+g.x+n<=g.cs.length:=by
    rw[h.len]
    have:(g.y+1)*g.w<=g.h*g.w:=Nat.mul_le_mul_right _ hyh
    rw[Nat.add_mul,Nat.one_mul,Nat.mul_comm g.h]at this
    omega
  have htx:zL ⟨s,0,0,0,false,g.sty⟩=s:=zfP rfl (by show plN s g.wd≠0;omega)
  have hp0:∀{l:List Ce} {i},okL l g.w g.wd->i<l.length->(zg l i).p=1->0<i:=fun ho hl hp=>by have:=ho _ hl;unfold ZR at this;rw[if_pos hp]at this;exact this.1
  rcases(show n=1\/n=2 by omega)with e|e
  ·subst e
   have el:Qc g s 1={g with cs:=zC g.cs g.w (g.y*g.w+g.x) ⟨s,0,0,0,false,g.sty⟩,x:=g.x+1,last:=g.y*g.w+g.x+1}:=rfl
   rw[el]
   have hlt:g.y*g.w+g.x<g.cs.length:=by omega
   have hce:zg (zC g.cs g.w (g.y*g.w+g.x) ⟨s,0,0,0,false,g.sty⟩) (g.y*g.w+g.x)=⟨s,0,0,0,false,g.sty⟩:=by rw[Zf hlt (hp0 h.ok hlt),if_pos rfl]
   refine⟨h.w,h.h,by rw[zN];exact h.len,zct h.ok hlt ⟨rfl,by rw[htx];exact hn⟩,hx,h.y,h.sty,zf5 h.st ⟨h.sty,rfl,rfl,rfl⟩,h.num,h.numl,h.stt,fun e=>absurd hs e,fun _=>⟨?_,?_,?_⟩⟩
   ·show _+1<=(zC _ _ _ _).length;rw[zN];omega
   ·show(zg (zC _ _ _ _) (g.y*g.w+g.x+1 - 1)).p=0
    rw[Nat.add_sub_cancel,hce]
   ·show g.y*g.w+(g.x+1)+1=g.y*g.w+g.x+1+plN (zL (zg (zC _ _ _ _) (g.y*g.w+g.x+1 - 1))) g.wd
    rw[Nat.add_sub_cancel,hce,htx,hn];omega
  ·subst e
   generalize hii:g.y*g.w+g.x=i at hi
   have hl1:i+1<g.cs.length:=by omega
   have hm:(i+1)%g.w≠0:=by
     rw[<-hii,show g.y*g.w+g.x+1=g.x+1+g.y*g.w by omega,Nat.add_mul_mod_self_right,Nat.mod_eq_of_lt (by omega)]
     omega
   have hla:i<(zC g.cs g.w (i+1) (zr g.sty)).length:=by rw[zN];omega
   have o1:=zct (c:=zr g.sty) h.ok hl1 (ZY g.sty g.wd)
   have g1:zg (zC g.cs g.w (i+1) (zr g.sty)) (i+1)=zr g.sty:=by rw[Zf hl1 (fun _=>by omega),if_pos rfl]
   have hgl:=Zf (w:=g.w) (c:=⟨s,0,0,0,false,g.sty⟩) hla (hp0 o1 hla)
   have g2:zg (zC (zC g.cs g.w (i+1) (zr g.sty)) g.w i ⟨s,0,0,0,false,g.sty⟩) (i+1)=zr g.sty:=by
     rw[hgl,if_neg (by omega)]
     split
     ·rw[if_neg (by omega),g1]
     ·rw[if_neg (fun e=>by rw[g1]at e;have e2:(0:Int)=1:=e.2.1;cases e2),g1]
   have el:Qc g s 2={g with cs:=(zC (zC g.cs g.w (i+1) (zr g.sty)) g.w i ⟨s,0,0,0,false,g.sty⟩).set (i+1) (Zs g.sty),x:=g.x+2,last:=i+1}:=by
     unfold Qc
     dsimp only
     rw[hii,if_pos rfl,if_pos rfl,g2]
     rfl
   rw[el]
   have hce:zg ((zC (zC g.cs g.w (i+1) (zr g.sty)) g.w i ⟨s,0,0,0,false,g.sty⟩).set (i+1) (Zs g.sty)) i=⟨s,0,0,0,false,g.sty⟩:=by
     rw[qZ (by rw[zN,zN];exact hl1),if_neg (by omega),hgl,if_pos rfl]
   refine⟨h.w,h.h,by rw[List.length_set,zN,zN];exact h.len,zve (c:=⟨s,0,0,0,false,g.sty⟩) (d:=Zs g.sty) h.ok hl1 hm rfl (by rw[htx];exact hn) rfl rfl rfl _,hx,h.y,h.sty,zbT (zf5 (zf5 h.st ⟨h.sty,rfl,rfl,rfl⟩) ⟨h.sty,rfl,rfl,rfl⟩) ⟨h.sty,rfl,rfl,rfl⟩,h.num,h.numl,h.stt,fun e=>absurd hs e,fun _=>⟨?_,?_,?_⟩⟩
   ·show i+1<=(List.set _ _ _).length;rw[List.length_set,zN,zN];omega
   ·show(zg (List.set _ _ _) (i+1 - 1)).p=0
    rw[Nat.add_sub_cancel,hce]
   ·show g.y*g.w+(g.x+2)+1=i+1+plN (zL (zg (List.set _ _ _) (i+1 - 1))) g.wd
    rw[Nat.add_sub_cancel,hce,htx,hn];omega
theorem zeC(g:Gs):(zZ g).stt=g.stt/\(zZ g).w=g.w/\(zZ g).h=g.h/\(zZ g).wd=g.wd/\(zZ g).x=g.x/\(zZ g).sty=g.sty:=by
  unfold zZ;split<;>exact⟨rfl,rfl,rfl,rfl,rfl,rfl⟩
theorem zxE{g:Gs}{m:Nat}{r:Int}(h:okG g m)(hs:g.stt=0):okG (qD g r) m:=by
  unfold qD
  split
  ·rename_i g' hj
   exact zvb h hj
  ·dsimp only
   split
   ·exact Qt h
   ·rename_i hn
    split
    ·have hd:=zeC {g with last:=0,x:=0}
     exact zsa (zjs (zkR h) rfl) (by rw[hd.1];exact hs) (by rw[hd.2.2.2.1]) (by omega) (by rw[hd.2.2.2.2.1,hd.2.1];show 0+_<=g.w;omega) (by rw[hd.2.2.1];show g.h≠0;omega)
    ·exact zsa (Qt h) hs rfl (by omega) (by show g.x+_<=g.w;omega) (by show g.h≠0;omega)
end

section
open Go Vc Ut Tb Cl Orb
theorem zpz{a b:Nat}(ha:a<65536)(hb:b<65536):a|||b<65536:=Nat.or_lt_two_pow (n:=16) ha hb
theorem znv:∀(f:Nat) (l:List Int) (st:Nat),st<65536->zK f l st<65536
  |0,_,st,h=>by simpa only[zK]using h
  |f+1,[],st,h=>by simpa only[zK]using h
  |f+1,n::l,st,h=>by
   have ih:=fun l st=>znv f l st
   simp only[zK]
   split
   ·exact ih _ _ (by decide)
   split
   ·exact ih _ _ (zpz h (by decide))
   split
   ·exact ih _ _ (zpz h (by decide))
   split
   ·exact ih _ _ (zpz h (by decide))
   split
   ·exact ih _ _ (zpz h (by decide))
   split
   ·split
    ·exact ih _ _ (zpz (by omega) (by omega))
    split
    ·exact ih _ _ (zpz (by omega) (by omega))
    ·exact ih _ _ h
   ·exact ih _ _ h
theorem zxD{g:Gs}{m s:Nat}(h:okG g m)(hs:s<65536):okG {g with sty:=s} m:=⟨h.w,h.h,h.len,h.ok,h.x,h.y,hs,h.st,h.num,h.numl,h.stt,h.sl,fun hl=>⟨(h.last hl).le,(h.last hl).p,(h.last hl).at_⟩⟩
theorem zxF{g:Gs}{m:Nat}{b:Bool}(h:okG g m):okG {g with hid:=b} m:=⟨h.w,h.h,h.len,h.ok,h.x,h.y,h.sty,h.st,h.num,h.numl,h.stt,h.sl,fun hl=>⟨(h.last hl).le,(h.last hl).p,(h.last hl).at_⟩⟩
theorem zcs{g:Gs}{m n:Nat}{l:List Int}{a v:Bool}(h:okG g m)(hl:∀k∈l, -1<=k/\k<=9999)(hn:l.length<=n+1):okG {g with num:=l,asked:=a,void:=v} n:=⟨h.w,h.h,h.len,h.ok,h.x,h.y,h.sty,h.st,hl,hn,h.stt,h.sl,fun hl=>⟨(h.last hl).le,(h.last hl).p,(h.last hl).at_⟩⟩
theorem zep{g:Gs}{m s:Nat}(h:okG g m)(h0:g.last=0)(hs:s<=2):okG {g with stt:=s} m:=⟨h.w,h.h,h.len,h.ok,h.x,h.y,h.sty,h.st,h.num,h.numl,hs,fun _=>h0,fun hl=>absurd h0 hl⟩
theorem zlz(n:Int){m:Nat}:qS n m<m\/qS n m=0:=by unfold qS;omega
theorem zvd{g:Gs}{m:Nat}{r:Int}(h:okG g m)(h0:g.last=0):okG (zH g r) m:=by
  unfold zH
  split
  ·exact h
  split
  ·split
   ·exact zxF h
   ·exact h
  split
  ·refine⟨h.w,h.h,h.len,h.ok,?_,zlz _,h.sty,h.st,h.num,h.numl,h.stt,h.sl,fun hl=>absurd h0 hl⟩
   show qS (zS g.num 1) g.w<=g.w
   rcases zlz (zS g.num 1) (m:=g.w)with e|e<;>omega
  split
  ·refine zfy ⟨h.w,h.h,?_,zn5 _ _ _ _,h.x,h.y,h.sty,fun c hc=> ?_,h.num,h.numl,h.stt,h.sl,fun hl=>absurd h0 hl⟩ h0
   ·show(List.replicate _ _).length=_;rw[List.length_replicate];exact h.len
   ·rw[(List.mem_replicate.1 hc).2];exact zav (by decide)
  split
  ·exact zxD h (znv _ _ _ h.sty)
  ·exact h
theorem zn7{l:List Int}(h:∀n∈l, -1<=n/\n<=9999)(i:Nat): -1<=zS l i/\zS l i<=9999:=by
  unfold zS
  rw[List.getD_eq_getElem?_getD]
  by_cases hi:i<l.length
  ·rw[List.getElem?_eq_getElem hi];exact h _ (List.getElem_mem hi)
  ·rw[List.getElem?_eq_none (by omega)];exact⟨by decide,by decide⟩
theorem zvc{g:Gs}{m:Nat}{r:Int}{f:Bool}(h:okG g m):okG (qp g r f) (m+1):=by
  have hn:=h.numl
  unfold qp
  split
  ·exact zcs h h.num (by omega)
  split
  ·refine zcs h (fun k hk=> ?_) (by rw[List.length_append];show g.num.length+1<=_;omega)
   rcases List.mem_append.1 hk with hk|hk
   ·exact h.num k hk
   ·rw[List.mem_singleton.1 hk];exact⟨by decide,by decide⟩
  split
  ·rename_i hr
   refine zcs h (fun k hk=> ?_) (by rw[List.length_set];omega)
   have hb:=zn7 h.num (g.num.length - 1)
   rcases List.mem_or_eq_of_mem_set hk with hk|hk
   ·exact h.num k hk
   ·rw[hk];omega
  ·exact zcs h h.num (by omega)
theorem zn4{g:Gs}{m:Nat}{r:Int}(h:okG g m)(hs:g.stt=0):okG (qy g r) m:=by
  unfold qy
  split
  ·exact zxE h hs
  split
  ·exact zep (Qt h) rfl (by decide)
  split
  ·exact zkR h
  split
  ·exact zjs (zfy (Qt h) rfl) (by rw[zql])
  ·exact Qt h
theorem zg7(g:Gs):(zk g).stt=g.stt/\(zk g).last=g.last/\(zk g).num≠[]/\(zk g).w=g.w/\(zk g).h=g.h/\(zk g).wd=g.wd/\(zk g).cs=g.cs:=by
  unfold zk;split
  ·exact⟨rfl,rfl,by simp,rfl,rfl,rfl,rfl⟩
  ·rename_i h;exact⟨rfl,rfl,h,rfl,rfl,rfl,rfl⟩
theorem zgQ{g:Gs}{m:Nat}(h:okG g m):okG (zk g) m:=by
  unfold zk;split
  ·exact zcs (a:=g.asked) (v:=g.void) h (fun k hk=>by rw[List.mem_singleton.1 hk];exact⟨by decide,by decide⟩) (by show 1<=m+1;omega)
  ·exact h
theorem zu9{g:Gs}{m:Nat}{r:Int}(h:okG g m):okG (zi g r) (m+1):=by
  unfold zi
  have hh:=zg7 g
  split
  ·rename_i h1
   have hl:=h.sl (by omega)
   split
   ·exact zcs (g:={g with stt:=2}) (zep h hl (by decide)) (fun _ h=>by cases h) (Nat.zero_le _)
   ·exact(zep h hl (by decide)).mono (by omega)
  split
  ·rename_i h1 h2
   have hl:=h.sl (by omega)
   show okG (if 32<=r/\r<=63 then qp (zk g) r (decide (g.num=[]))else if 64<=r/\r<=126 then zH {zk g with stt:=0} r else qy {zk g with stt:=0} r) (m+1)
   have h3:=zgQ h
   have h4:okG {zk g with stt:=0} m:=zep h3 (hh.2.1.trans hl) (by decide)
   split
   ·exact zvc h3
   split
   ·exact(zvd h4 (hh.2.1.trans hl)).mono (by omega)
   ·exact(zn4 h4 rfl).mono (by omega)
  ·rename_i h1 h2
   have:=h.stt
   exact(zn4 h (by omega)).mono (by omega)
theorem zdH:∀(l:List Int) {g:Gs} {m:Nat},okG g m->okG (zB g l) (m+l.length)
  |[],_,_,h=>h
  |r::l,_,m,h=>by
   have:=zdH l (zu9 (r:=r) h)
   rw[List.length_cons,show m+(l.length+1)=m+1+l.length by omega]
   exact this
theorem zyF(g:Gs)(r:Int):(qD g r).w=g.w/\(qD g r).h=g.h/\(qD g r).wd=g.wd:=by
  unfold qD
  split
  ·rename_i hj;exact(zk7 hj).2
  ·dsimp only
   generalize (Zb (Zo r) 0 (lkW g.wd)).1=s
   generalize plN s g.wd=n
   split
   ·exact⟨rfl,rfl,rfl⟩
   ·split
    ·have:=zeC {g with last:=0,x:=0}
     exact⟨this.2.1,this.2.2.1,this.2.2.2.1⟩
    ·exact⟨rfl,rfl,rfl⟩
theorem ztL(g:Gs):(qq g).w=g.w/\(qq g).h=g.h/\(qq g).wd=g.wd:=by unfold qq;split<;>exact⟨rfl,rfl,rfl⟩
theorem zsZ(g:Gs)(r:Int):(qy g r).w=g.w/\(qy g r).h=g.h/\(qy g r).wd=g.wd:=by
  unfold qy
  split
  ·exact zyF g r
  split
  ·exact⟨rfl,rfl,rfl⟩
  split
  ·exact⟨rfl,rfl,rfl⟩
  split
  ·have h1:=zeC (qq {g with last:=0})
   have h2:=ztL {g with last:=0}
   exact⟨h1.2.1.trans h2.1,h1.2.2.1.trans h2.2.1,h1.2.2.2.1.trans h2.2.2⟩
  ·exact⟨rfl,rfl,rfl⟩
theorem zxZ(g:Gs)(r:Int):(zH g r).w=g.w/\(zH g r).h=g.h/\(zH g r).wd=g.wd:=by
  unfold zH
  split
  ·exact⟨rfl,rfl,rfl⟩
  split
  ·split<;>exact⟨rfl,rfl,rfl⟩
  split
  ·exact⟨rfl,rfl,rfl⟩
  split
  ·exact ztL {g with cs:=List.replicate g.cs.length (zr 0)}
  split<;>exact⟨rfl,rfl,rfl⟩
theorem zxQ(g:Gs)(r:Int)(f:Bool):(qp g r f).w=g.w/\(qp g r f).h=g.h/\(qp g r f).wd=g.wd:=by
  unfold qp
  split
  ·exact⟨rfl,rfl,rfl⟩
  split
  ·exact⟨rfl,rfl,rfl⟩
  split<;>exact⟨rfl,rfl,rfl⟩
theorem zxj(g:Gs)(r:Int):(zi g r).w=g.w/\(zi g r).h=g.h/\(zi g r).wd=g.wd:=by
  unfold zi
  have hh:=zg7 g
  split
  ·split<;>exact⟨rfl,rfl,rfl⟩
  split
  ·show(if 32<=r/\r<=63 then qp (zk g) r (decide (g.num=[]))else if 64<=r/\r<=126 then zH {zk g with stt:=0} r else qy {zk g with stt:=0} r).w=g.w/\(if 32<=r/\r<=63 then qp (zk g) r (decide (g.num=[]))else if 64<=r/\r<=126 then zH {zk g with stt:=0} r else qy {zk g with stt:=0} r).h=g.h/\(if 32<=r/\r<=63 then qp (zk g) r (decide (g.num=[]))else if 64<=r/\r<=126 then zH {zk g with stt:=0} r else qy {zk g with stt:=0} r).wd=g.wd
   split
   ·have:=zxQ (zk g) r (decide (g.num=[]));exact⟨this.1.trans hh.2.2.2.1,this.2.1.trans hh.2.2.2.2.1,this.2.2.trans hh.2.2.2.2.2.1⟩
   split
   ·have:=zxZ {zk g with stt:=0} r;exact⟨this.1.trans hh.2.2.2.1,this.2.1.trans hh.2.2.2.2.1,this.2.2.trans hh.2.2.2.2.2.1⟩
   ·have:=zsZ {zk g with stt:=0} r;exact⟨this.1.trans hh.2.2.2.1,this.2.1.trans hh.2.2.2.2.1,this.2.2.trans hh.2.2.2.2.2.1⟩
  ·exact zsZ g r
theorem zta:∀(l:List Int) (g:Gs),(zB g l).w=g.w/\(zB g l).h=g.h/\(zB g l).wd=g.wd
  |[],_=>⟨rfl,rfl,rfl⟩
  |r::l,g=>by
   have h1:=zxj g r
   have h2:=zta l (zi g r)
   exact⟨h2.1.trans h1.1,h2.2.1.trans h1.2.1,h2.2.2.trans h1.2.2⟩
end

section
open Go Vc Ut Tb Cl Orb
theorem okG.fit{g:Gs}{m:Nat}(h:okG g m)(hm:m<=549755813888):fitG g:=
  ⟨h.w,h.h,h.len,by have:=h.x;have:=h.w;omega,by have:=h.h;rcases h.y with e|e<;>omega,h.sty,fun c hc=>(h.st c hc).1,h.num,by have:=h.numl;omega,by
    by_cases hl:g.last=0
    ·omega
    ·exact(h.last hl).le⟩
theorem okG.lay{g:Gs}{m i:Nat}(h:okG g m)(hi:i<g.cs.length):zbI g i:=by
  have hl:=h.len
  refine⟨hi,?_,fun hp=> ?_,fun hm=> ?_⟩
  ·rcases Nat.eq_zero_or_pos g.w with e|e
   ·rw[e,Nat.zero_mul]at hl;omega
   ·exact e
  ·have:=h.ok i hi;unfold ZR at this;rw[if_pos hp]at this;exact this.1
  ·rcases Nat.lt_or_ge (i+1) g.cs.length with e|e
   ·exact e
   ·have e2:i+1=g.w*g.h:=by omega
    rw[e2,Nat.mul_mod_right]at hm
    exact absurd rfl hm
theorem okG.last_lt{g:Gs}{m:Nat}(h:okG g m)(hl:g.last≠0)(h1:plN (zL (zg g.cs (g.last - 1))) g.wd=1)(hm:g.last%g.w≠0):g.last<g.cs.length/\g.x<g.w:=by
  have hL:=h.last hl
  have hat:=hL.at_
  rw[h1]at hat
  have hxw:g.x<g.w:=by
    rcases Nat.lt_or_ge g.x g.w with e|e
    ·exact e
    ·have e2:g.x=g.w:=Nat.le_antisymm h.x e
     rw[show g.last=g.y*g.w+g.w by omega,Nat.add_mod_right,Nat.mul_mod_left]at hm
     exact absurd rfl hm
  have hyh:g.y<g.h:=by
    rcases h.y with e|e
    ·exact e
    ·rcases Nat.eq_zero_or_pos g.h with e2|e2
     ·have:=h.len;rw[e2,Nat.mul_zero]at this;have:=hL.le;omega
     ·omega
  refine⟨?_,hxw⟩
  rw[h.len]
  have:(g.y+1)*g.w<=g.h*g.w:=Nat.mul_le_mul_right _ hyh
  rw[Nat.add_mul,Nat.one_mul,Nat.mul_comm g.h]at this
  omega
theorem okG.txt{g:Gs}{m:Nat}(h:okG g m)(hl:g.last≠0):1<=plN (zL (zg g.cs (g.last - 1))) g.wd/\plN (zL (zg g.cs (g.last - 1))) g.wd<=2/\(zL (zg g.cs (g.last - 1))).size<=128:=by
  have hL:=h.last hl
  have h2:=ZQ (i:=g.last - 1) h.ok (by have:=hL.le;omega) hL.p
  have h3:plN (zL (zg g.cs (g.last - 1))) g.wd≠0:=by rcases h2 with h2|h2<;>omega
  exact⟨by omega,by rcases h2 with h2|h2<;>omega,zuT h3⟩
theorem zqH(g:Gs)(n:Nat):(Zi g n).w=g.w/\(Zi g n).h=g.h/\(Zi g n).wd=g.wd/\(Zi g n).stt=g.stt/\(n<=g.w->(Zi g n).x+n<=g.w):=by
  unfold Zi
  split
  ·have hd:=zeC {g with last:=0,x:=0}
   exact⟨hd.2.1,hd.2.2.1,hd.2.2.2.1,hd.1,fun h=>by rw[hd.2.2.2.2.1];show 0+n<=g.w;omega⟩
  ·exact⟨rfl,rfl,rfl,rfl,fun _=>by show g.x+n<=g.w;omega⟩
theorem zn3{g:Gs}{m n:Nat}(h:okG g m):okG (Zi g n) m:=by
  unfold Zi
  split
  ·exact zjs (zkR h) rfl
  ·exact Qt h
end

section
open Go Go.RowKit Vc Ut Tb Cl
set_option maxRecDepth 2000 in
theorem zsH:zje.Ok Tryz.prog 88:=by
  refine zsG ⟨zdm,zcr,zon,trivial⟩ ?_
  rintro⟨A,g,r,m⟩ w ⟨hG,hk,hm⟩
  dsimp only at hG hk hm⊢
  have hF:=hk.fit hm
  have hw:=hF.w;have hh:=hF.h;have hlen:=hF.len;have hlast:=hF.last
  have hwh:g.w*g.h<=1048576:=Nat.le_trans (Nat.mul_le_mul hw hh) (by decide)
  have hx:=hF.x
  refine⟨g.last,(za hG.box 8).trans rfl,zb (fun h=> ?_) (fun h=> ?_)⟩
  ·have h:g.last=0:=by have:=beq_iff_eq.1 h;omega
   have e:zX g r=none:=by unfold zX;rw[if_pos h]
   exact⟨(A,false),rfl,by rw[e];rfl,by rw[e];exact GlOut.refl hG⟩
  have hl:g.last≠0:=by have:=beq_eq_false_iff_ne.1 h;omega
  clear h
  obtain⟨t1,t2,tz⟩:=hk.txt hl
  have hL:=hk.last hl
  have hi:g.last - 1<g.cs.length:=by have:=hL.le;omega
  have hez:=Q1 r
  refine⟨g.last,(za hG.box 8).trans rfl,zd (by omega) (by omega),_,_,_,(za hG.box 3).trans rfl,g.last - 1,by omega,hi,hG.row.cells.ce hi fun b o hce=>hce.load ⟨zg g.cs (g.last - 1),rfl,trivial,?_⟩⟩
  rintro _ w1 ⟨rfl,hx1⟩
  have hG1:=hG.ext hx1
  refine⟨g.wd,(za hG1.box 2).trans rfl,(zL (zg g.cs (g.last - 1)),g.wd),rfl,⟨hG1.ud,Nat.le_trans tz (by decide)⟩,?_⟩
  rintro n w2 ⟨hn,hx2⟩
  dsimp only at hn
  have hx02:=Ext.trans hx1 hx2
  have hG2:=hG.ext hx02
  have hsz:(zL (zg g.cs (g.last - 1))++Utf8.encode r).size<=132:=by
    rw[ByteArray.size_append];have:(Utf8.encode r).size<=4:=hez;omega
  refine⟨by have:(Utf8.encode r).size<=4:=hez;omega,g.wd,(za hG2.box 2).trans rfl,(zL (zg g.cs (g.last - 1))++Utf8.encode r,g.wd),rfl,⟨hG2.ud,Nat.le_trans hsz (by decide)⟩,?_⟩
  rintro k w3 ⟨hkk,hx3⟩
  dsimp only at hkk
  have hx03:=Ext.trans hx02 hx3
  have hG3:=hG.ext hx03
  have hO3:=GlOut.ext hG hx03
  have hj:zX g r=if k<n then none else if n<k then
    (if g.last%g.w=0 then some {g with last:=0}else
      some {g with cs:=(zC g.cs g.w g.last (Zs (zg g.cs (g.last - 1)).st)).set (g.last - 1) {zg (zC g.cs g.w g.last (Zs (zg g.cs (g.last - 1)).st)) (g.last - 1)with t:=zL (zg g.cs (g.last - 1))++Zo r},x:=g.x+1})
    else some {g with cs:=g.cs.set (g.last - 1) {zg g.cs (g.last - 1)with t:=zL (zg g.cs (g.last - 1))++Zo r}}:=by
    unfold zX;rw[if_neg hl,hn,hkk];rfl
  rw[hj]
  clear hj
  refine zb (fun h1=> ?_) (fun h1=>zb (fun h2=> ?_) (fun h2=> ?_))
  ·have h1:k<n:=by have:=of_decide_eq_true h1;omega
   rw[if_pos h1]
   exact⟨(A,false),rfl,rfl,hO3⟩
  ·have h1:¬k<n:=by have:=of_decide_eq_false h1;omega
   have h2:n<k:=by have:=of_decide_eq_true h2;omega
   rw[if_neg h1,if_pos h2]
   have hk2:k<=2:=by rw[hkk];exact zel _ _
   have hn1:plN (zL (zg g.cs (g.last - 1))) g.wd=1:=by omega
   have hw0:0<g.w:=(hk.lay hi).2.1
   have hmod:((g.last:Int) - 1+1)%(g.w:Int)=((g.last%g.w:Nat):Int):=by rw[Int.natCast_emod,show(g.last:Int) - 1+1=g.last by omega]
   refine⟨zd (by omega) (by omega),g.w,(za hG3.box 0).trans rfl,by omega,by omega,zb (fun h3=> ?_) (fun h3=> ?_)⟩
   ·have h3:g.last%g.w=0:=by have:=beq_iff_eq.1 h3;rw[hmod]at this;omega
    refine⟨rfl,hG3.old (k:=8) (by decide),hG3.free 8,fun w4 hs=>⟨(A,true),rfl,?_⟩⟩
    rw[if_pos h3]
    exact⟨rfl,hO3.trans (qG hG3 hs rfl rfl rfl)⟩
   ·have h3:g.last%g.w≠0:=by have:=beq_eq_false_iff_ne.1 h3;rw[hmod]at this;omega
    rw[if_neg h3]
    obtain⟨hll,hxw⟩:=hk.last_lt hl hn1 h3
    have hlay:=hk.lay hll
    have hst:=(zf6 hk.st (g.last - 1)).1
    refine⟨zd (by omega) (by omega),_,_,_,(za hG3.box 3).trans rfl,g.last - 1,by omega,hi,hG3.row.cells.ce hi fun b4 o4 hc4=>⟨_,hc4.2.2.2.2.2,⟨A,g,g.last,Zs (zg g.cs (g.last - 1)).st⟩,by dsimp only;rw[show(g.last:Int) - 1+1=g.last by omega];rfl,⟨hG3,hF,hlay⟩,?_⟩⟩
    intro A4 w4 hO4
    dsimp only at hO4
    have hG4:=hO4.is
    have hp4:A4.p=A.p:=hO4.p
    refine⟨g.x,by rw[<-hp4];exact(za hG4.box 4).trans rfl,zd (by omega) (by omega),rfl,by rw[<-hp4];exact hG4.old (k:=4) (by decide),by rw[<-hp4];exact hG4.free 4,fun w5 hs5=> ?_⟩
    rw[<-hp4]at hs5
    have hO5:=qG (g':={Z6 g g.last (Zs (zg g.cs (g.last - 1)).st)with x:=g.x+1}) hG4 hs5 rfl rfl rfl
    have hG5:=hO5.is
    have hl5:(zC g.cs g.w g.last (Zs (zg g.cs (g.last - 1)).st)).length=g.cs.length:=zN _ _ _ _
    refine⟨_,_,_,by rw[<-hp4];exact(za hG5.box 3).trans rfl,by have:(Utf8.encode r).size<=4:=hez;omega,g.last - 1,by omega,by dsimp only;show g.last - 1<(zC _ _ _ _).length;rw[hl5];exact hi,?_⟩
    refine zm0 (k:=0) (j:=g.last - 1) (v:= .string (zL (zg g.cs (g.last - 1))++Utf8.encode r)) (x:={zg (zC g.cs g.w g.last (Zs (zg g.cs (g.last - 1)).st)) (g.last - 1)with t:=zL (zg g.cs (g.last - 1))++Zo r}) hG5 (by dsimp only;show g.last - 1<(zC _ _ _ _).length;rw[hl5];exact hi) (by decide) rfl (fun b5 o5 h51 h52 h53=>⟨rfl,h51,h52,fun w6 hs6=>⟨(A4,true),rfl,rfl,?_⟩⟩)
    exact hO3.trans (hO4.trans (hO5.trans (h53 w6 hs6)))
  ·have h1:¬k<n:=by have:=of_decide_eq_false h1;omega
   have h2:¬n<k:=by have:=of_decide_eq_false h2;omega
   rw[if_neg h1,if_neg h2]
   refine⟨_,_,_,(za hG3.box 3).trans rfl,by have:(Utf8.encode r).size<=4:=hez;omega,g.last - 1,by omega,hi,?_⟩
   exact zm0 (k:=0) (j:=g.last - 1) (v:= .string (zL (zg g.cs (g.last - 1))++Utf8.encode r)) (x:={zg g.cs (g.last - 1)with t:=zL (zg g.cs (g.last - 1))++Zo r}) hG3 hi (by decide) rfl (fun b5 o5 h51 h52 h53=>⟨rfl,h51,h52,fun w6 hs6=>⟨(A,true),rfl,rfl,hO3.trans (h53 w6 hs6)⟩⟩)
end

section
open Go Go.RowKit Vc Ut Tb Cl
theorem zd6(s:ByteArray)(col:Int)(l:Lk):(Zb s col l).1.size<=s.size+16:=by
  unfold Zb
  split
  ·exact Nat.zero_le _
  ·have h1:=(zyI (pcP s 0).2 col l).2
   have h2:(pcP s 0).2.size<=s.size:=by
     show(s.extract _ _).size<=s.size
     rw[ByteArray.size_extract]
     omega
   omega
theorem zva{g:Gs}{m i:Nat}{c:Ce}(h:okG g m)(h0:g.last=0)(hi:i<g.cs.length)(hc:zh3 c g.wd)(hk:ze9 c):okG (Z6 g i c) m:=
  ⟨h.w,h.h,by show(zC _ _ _ _).length=_;rw[zN];exact h.len,zct h.ok hi hc,h.x,h.y,h.sty,zf5 h.st hk,h.num,h.numl,h.stt,fun _=>h0,fun e=>absurd h0 e⟩
theorem zom(g:Gs)(s:ByteArray):Qc g s 1={g with cs:=zC g.cs g.w (g.y*g.w+g.x) ⟨s,0,0,0,false,g.sty⟩,x:=g.x+1,last:=g.y*g.w+g.x+1}:=rfl
theorem zok(g:Gs)(s:ByteArray):Qc g s 2={g with
    cs:=(zC (zC g.cs g.w (g.y*g.w+g.x+1) (zr g.sty)) g.w (g.y*g.w+g.x) ⟨s,0,0,0,false,g.sty⟩).set (g.y*g.w+g.x+1) {zg (zC (zC g.cs g.w (g.y*g.w+g.x+1) (zr g.sty)) g.w (g.y*g.w+g.x) ⟨s,0,0,0,false,g.sty⟩) (g.y*g.w+g.x+1)with p:=1},x:=g.x+2,last:=g.y*g.w+g.x+1}:=rfl
theorem zs5{g:Gs}{i:Nat}{c:Ce}(h:fitG g)(hc:c.st<65536):fitG (Z6 g i c):=by
  have hl:(zC g.cs g.w i c).length=g.cs.length:=zN _ _ _ _
  refine⟨h.w,h.h,hl.trans h.len,h.x,h.y,h.sty,?_,h.num,h.numl,by show g.last<=(zC _ _ _ _).length;rw[hl];exact h.last⟩
  have hb:∀j,(zr (zg g.cs j).st).st<65536:=fun j=>by
    show(zg g.cs j).st<65536
    by_cases hj:j<g.cs.length
    ·exact h.st _ (zdW hj)
    ·rw[zdV (by omega)];decide
  have hs:∀{l:List Ce} {j:Nat} {d:Ce},(∀c∈l,c.st<65536)->d.st<65536->∀c∈l.set j d,c.st<65536:=fun h1 h2 c hc=>(List.mem_or_eq_of_mem_set hc).elim (h1 c) (fun e=>by rw[e];exact h2)
  show ∀d∈zC g.cs g.w i c,d.st<65536
  unfold zC
  split
  ·exact hs (hs h.st (hb _)) hc
  split
  ·exact hs (hs h.st (hb _)) hc
  ·exact hs h.st hc
set_option maxRecDepth 2000 in
theorem zuS:znH.Ok Tryz.prog 62:=by
  refine zuR ⟨zsH,zj1,zcr,zlq,zon,trivial⟩ ?_
  rintro⟨A,g,r,m⟩ w ⟨⟨hG,hk,hm⟩,hst⟩
  dsimp only at hG hk hm hst⊢
  have hF:=hk.fit hm
  have hw:=hF.w;have hh:=hF.h;have hlen:=hF.len
  have hez:(Utf8.encode r).size<=4:=Q1 r
  refine⟨⟨A,g,r,m⟩,rfl,⟨hG,hk,hm⟩,?_⟩
  rintro⟨A1,b⟩ w1 ⟨hb,hO1⟩
  dsimp only at hb hO1⊢
  refine zb (fun h=>⟨A1,rfl,?_⟩) (fun h=> ?_)
  ·obtain⟨g',hj⟩:=Option.isSome_iff_exists.1 (hb.symm.trans h)
   have e:qD g r=g':=by unfold qD;rw[hj]
   rw[e];rw[hj]at hO1;exact hO1
  have hj:zX g r=none:=by
    cases hj:zX g r with
    |none=>rfl
    |some g'=>rw[hj,h]at hb;cases hb
  rw[hj]at hO1
  replace hO1:GlOut w w1 A A1 g:=hO1
  have hp1:A1.p=A.p:=hO1.p
  have hG1:=hO1.is
  have hput:qD g r=if plN (Qg g r) g.wd=0\/g.w<plN (Qg g r) g.wd\/g.h=0 then {g with last:=0}else Qc (Zi g (plN (Qg g r) g.wd)) (Qg g r) (plN (Qg g r) g.wd):=by
    unfold qD;rw[hj];rfl
  refine⟨rfl,by rw[<-hp1];exact hG1.old (k:=8) (by decide),by rw[<-hp1];exact hG1.free 8,fun w2 hs2=> ?_⟩
  rw[<-hp1]at hs2
  have hO2:=hO1.trans (qG (g':={g with last:=0}) hG1 hs2 rfl rfl rfl)
  have hG2:=hO2.is
  refine⟨g.wd,by rw[<-hp1];exact(za hG2.box 2).trans rfl,⟨Utf8.encode r,0,lkW g.wd⟩,rfl,⟨hG2.ud.1,hG2.ud.2,by dsimp only;omega⟩,?_⟩
  rintro⟨s,k⟩ w3 ⟨hsk,hx3⟩
  have hs:s=Qg g r:=congrArg Prod.fst hsk
  clear hsk
  subst hs
  have hsz:(Qg g r).size<=20:=by
    have:=zd6 (Zo r) 0 (lkW g.wd)
    have h4:=Q1 r
    show(Zb (Zo r) 0 (lkW g.wd)).1.size<=20
    omega
  have hG3:=hG2.ext hx3
  refine⟨g.wd,by rw[<-hp1];exact(za hG3.box 2).trans rfl,(Qg g r,g.wd),rfl,⟨hG3.ud,Nat.le_trans hsz (by decide)⟩,?_⟩
  rintro n w4 ⟨hn,hx4⟩
  dsimp only at hn
  rw[<-hn]at hput
  have hx24:=Ext.trans hx3 hx4
  have hG4:=hG2.ext hx24
  have hO4:=hO2.trans (GlOut.ext hG2 hx24)
  have hn2:n<=2:=by rw[hn];exact zel _ _
  refine zb (fun h1=>⟨A1,rfl,?_⟩) (fun h1=>⟨g.w,by rw[<-hp1];exact(za hG4.box 0).trans rfl,zb (fun h2=>⟨A1,rfl,?_⟩) (fun h2=>⟨g.h,by rw[<-hp1];exact(za hG4.box 1).trans rfl,zb (fun h3=>⟨A1,rfl,?_⟩) (fun h3=> ?_)⟩)⟩)
  ·have h1:n=0:=by have:=beq_iff_eq.1 h1;omega
   rw[hput,if_pos (.inl h1)];exact hO4
  ·have h2:g.w<n:=by have:=of_decide_eq_true h2;omega
   rw[hput,if_pos (.inr (.inl h2))];exact hO4
  ·have h3:g.h=0:=by have:=beq_iff_eq.1 h3;omega
   rw[hput,if_pos (.inr (.inr h3))];exact hO4
  have h1:n≠0:=by have:=beq_eq_false_iff_ne.1 h1;omega
  have h2:¬g.w<n:=by have:=of_decide_eq_false h2;omega
  have h3:g.h≠0:=by have:=beq_eq_false_iff_ne.1 h3;omega
  have hhas:¬(n=0\/g.w<n\/g.h=0):=by omega
  rw[if_neg hhas]at hput
  have hx:=hk.x
  refine⟨fun w5 hd=>⟨g.x,by rw[<-hp1];exact(za hG4.box 4).trans rfl,zd (by omega) (by omega),g.w,by rw[<-hp1];exact(za hG4.box 0).trans rfl,zb (fun h4=> ?_) (fun h4=> ?_)⟩,?_⟩
  ·have h4:g.w<g.x+n:=by have:=of_decide_eq_true h4;omega
   have hG5:=hG4.ext hd.ext
   have hO5:=hO4.trans (GlOut.ext hG4 hd.ext)
   refine⟨rfl,by rw[<-hp1];exact hG5.old (k:=4) (by decide),by rw[<-hp1];exact hG5.free 4,fun w6 hs6=> ?_⟩
   rw[<-hp1]at hs6
   have hO6:=hO5.trans (qG (g':={g with last:=0,x:=0}) hG5 hs6 rfl rfl rfl)
   refine⟨⟨A1,{g with last:=0,x:=0}⟩,by rw[<-hp1],⟨hO6.is,(zkR hk).fit hm⟩,fun A7 w7 hO7=>⟨A7,⟨?_,rfl,by rw[hn],by rw[<-hn];exact hput,by rw[<-hn];exact hhas⟩⟩⟩
   dsimp only at hO7
   rw[<-hn]
   have e:Zi g n=zZ {g with last:=0,x:=0}:=by unfold Zi;rw[if_pos h4]
   rw[e]
   exact hO6.trans hO7
  ·have h4:¬g.w<g.x+n:=by have:=of_decide_eq_false h4;omega
   refine⟨A1,⟨?_,rfl,by rw[hn],by rw[<-hn];exact hput,by rw[<-hn];exact hhas⟩⟩
   rw[<-hn]
   have e:Zi g n={g with last:=0}:=by unfold Zi;rw[if_neg h4]
   rw[e]
   exact hO4.trans (GlOut.ext hG4 hd.ext)
  rintro _ A5 w5 ⟨hO5, -, -, -, -⟩ w6 hd6
  dsimp only at hO5
  rw[<-hn]at hO5
  rw[hput]
  have hwf:=zqH g n
  have hkW:okG (Zi g n) m:=zn3 hk
  have hlW:(Zi g n).last=0:=by unfold Zi;split;exact zim _;rfl
  generalize Zi g n=gW at hO5 hwf hkW hlW⊢
  obtain⟨e1,e2,e3,e4,e5⟩:=hwf
  have hFW:=hkW.fit hm
  have hG5:=hO5.is
  have hp5:A5.p=A.p:=hO5.p
  have hG6:=hG5.ext hd6.ext
  have hO6:=hO5.trans (GlOut.ext hG5 hd6.ext)
  have hy:gW.y<gW.h:=by rcases hkW.y with e|e<;>omega
  have hxn:=e5 (by omega)
  have hW1:=hkW.w;have hW2:=hkW.h
  have hyw:gW.y*gW.w+gW.w<=gW.cs.length:=by
    rw[hkW.len]
    have:(gW.y+1)*gW.w<=gW.h*gW.w:=Nat.mul_le_mul_right _ hy
    rw[Nat.add_mul,Nat.one_mul,Nat.mul_comm gW.h]at this
    exact this
  have hlen5:gW.cs.length<=1048576:=by rw[hkW.len];exact Nat.le_trans (Nat.mul_le_mul hW1 hW2) (by decide)
  have hcast:(gW.y:Int)*(gW.w:Int)=((gW.y*gW.w:Nat):Int):=by rw[Int.natCast_mul]
  rw[hp5.symm]
  refine⟨gW.y,(za hG5.box 5).trans rfl,gW.w,(za hG5.box 0).trans rfl,by rw[hcast];exact zd (by omega) (by omega),gW.x,(za hG5.box 4).trans rfl,by rw[hcast];exact zd (by omega) (by omega),?_⟩
  rw[hcast]
  have hpls:plN (Qg g r) gW.wd=n:=by rw[e3];exact hn.symm
  have htx:zL ⟨Qg g r,0,0,0,false,gW.sty⟩=Qg g r:=zfP (wd:=gW.wd) rfl (by show plN (Qg g r) gW.wd≠0;omega)
  rcases(show n=1\/n=2 by omega)with e|e
  ·subst e
   refine zb (fun h=>by cases h) (fun _=> ?_)
   have hi:gW.y*gW.w+gW.x<gW.cs.length:=by omega
   refine⟨gW.sty,(za hG6.box 7).trans rfl,⟨A5,gW,gW.y*gW.w+gW.x,⟨Qg g r,0,0,0,false,gW.sty⟩⟩,by simp,⟨hG6,hFW,hkW.lay hi⟩,?_⟩
   intro A7 w7 hO7
   dsimp only at hO7
   have hp7:A7.p=A5.p:=hO7.p
   have hG7:=hO7.is
   refine zb (fun h=>by cases h) (fun _=> ?_)
   rw[hp7.symm]
   refine⟨gW.x,(za hG7.box 4).trans rfl,zd (by omega) (by omega),rfl,hG7.old (k:=4) (by decide),hG7.free 4,fun w8 hs8=> ?_⟩
   have hO8:=qG (g':={Z6 gW (gW.y*gW.w+gW.x) ⟨Qg g r,0,0,0,false,gW.sty⟩with x:=gW.x+1}) hG7 hs8 rfl rfl rfl
   have hG8:=hO8.is
   refine⟨zd (by omega) (by omega),rfl,hG8.old (k:=8) (by decide),hG8.free 8,fun w9 hs9=>⟨A7,rfl,?_⟩⟩
   rw[zom]
   exact hO6.trans (hO7.trans (hO8.trans (qG hG8 hs9 rfl rfl rfl)))
  ·subst e
   refine zb (fun _=> ?_) (fun h=>by cases h)
   have hi1:gW.y*gW.w+gW.x+1<gW.cs.length:=by omega
   refine⟨zd (by omega) (by omega),gW.sty,(za hG6.box 7).trans rfl,⟨A5,gW,gW.y*gW.w+gW.x+1,zr gW.sty⟩,by simp[zr],⟨hG6,hFW,hkW.lay hi1⟩,?_⟩
   intro A7 w7 hO7
   dsimp only at hO7
   have hp7:A7.p=A5.p:=hO7.p
   have hG7:=hO7.is
   rw[hp7.symm]
   have hk7:=zva (c:=zr gW.sty) hkW hlW hi1 (ZY _ _) (zav hkW.sty)
   have hi7:gW.y*gW.w+gW.x<(Z6 gW (gW.y*gW.w+gW.x+1) (zr gW.sty)).cs.length:=by
     show _<(zC _ _ _ _).length;rw[zN];omega
   refine⟨gW.sty,(za hG7.box 7).trans rfl,⟨A7,Z6 gW (gW.y*gW.w+gW.x+1) (zr gW.sty),gW.y*gW.w+gW.x,⟨Qg g r,0,0,0,false,gW.sty⟩⟩,by simp,⟨hG7,hk7.fit hm,hk7.lay hi7⟩,?_⟩
   intro A8 w8 hO8
   dsimp only at hO8
   have hp8:A8.p=A7.p:=hO8.p
   have hG8:=hO8.is
   rw[hp8.symm]
   refine zb (fun _=> ?_) (fun h=>by cases h)
   have hi8:gW.y*gW.w+gW.x+1<(Z6 (Z6 gW (gW.y*gW.w+gW.x+1) (zr gW.sty)) (gW.y*gW.w+gW.x) ⟨Qg g r,0,0,0,false,gW.sty⟩).cs.length:=by
     show _<(zC (zC _ _ _ _) _ _ _).length;rw[zN,zN];omega
   refine⟨_,_,_,(za hG8.box 3).trans rfl,zd (by omega) (by omega),gW.y*gW.w+gW.x+1,by simp,hi8,?_⟩
   refine zm0 (k:=1) (v:= .int .i8 1) (x:={zg (zC (zC gW.cs gW.w (gW.y*gW.w+gW.x+1) (zr gW.sty)) gW.w (gW.y*gW.w+gW.x) ⟨Qg g r,0,0,0,false,gW.sty⟩) (gW.y*gW.w+gW.x+1)with p:=1}) hG8 hi8 (by decide) rfl (fun b9 o9 h91 h92 h93=>⟨rfl,h91,h92,fun w9 hs9=> ?_⟩)
   have hO9:=h93 w9 hs9
   have hG9:=hO9.is
   refine⟨gW.x,(za hG9.box 4).trans rfl,zd (by omega) (by omega),rfl,hG9.old (k:=4) (by decide),hG9.free 4,fun w10 hs10=> ?_⟩
   have hO10:=qG (g':={Z6 (Z6 gW (gW.y*gW.w+gW.x+1) (zr gW.sty)) (gW.y*gW.w+gW.x) ⟨Qg g r,0,0,0,false,gW.sty⟩with
     cs:=(zC (zC gW.cs gW.w (gW.y*gW.w+gW.x+1) (zr gW.sty)) gW.w (gW.y*gW.w+gW.x) ⟨Qg g r,0,0,0,false,gW.sty⟩).set (gW.y*gW.w+gW.x+1) {zg (zC (zC gW.cs gW.w (gW.y*gW.w+gW.x+1) (zr gW.sty)) gW.w (gW.y*gW.w+gW.x) ⟨Qg g r,0,0,0,false,gW.sty⟩) (gW.y*gW.w+gW.x+1)with p:=1},x:=gW.x+2}) hG9 hs10 rfl rfl rfl
   have hG10:=hO10.is
   refine⟨zd (by omega) (by omega),rfl,hG10.old (k:=8) (by decide),hG10.free 8,fun w11 hs11=>⟨A8,rfl,?_⟩⟩
   rw[zok]
   exact hO6.trans (hO7.trans (hO8.trans (hO9.trans (hO10.trans (qG hG10 hs11 rfl rfl rfl)))))
end

section
open Go Go.RowKit Vc Ut Tb Cl
theorem zif{w w':World}{A A1:GlP}{g1 T:Gs}{r:Int}{m:Nat}(hO:GlOut w w' A A1 g1)(hk:okG g1 m)(hm:m<=549755813888)(hs:g1.stt=0)(hT:T=qy g1 r):
    ∃g1:Int, #[Value.int .i32 r]= #[Value.int .i32 g1]/\True/\∀(x:Int) (w'1:World),x=zl g1/\Ext w' w'1->
     zc (x !=0)
      (∃g2:GTak, #[Value.pointer (some ⟨A.p,0,none⟩),Value.int .i32 r]= #[Value.pointer (some ⟨g2.A.p,0,none⟩),Value.int .i32 g2.r]/\(zfR w'1 g2.A g2.g g2.m/\g2.g.stt=0)/\
       ∀(x1:GlP) (w'2:World),GlOut w'1 w'2 g2.A x1 (qD g2.g g2.r)->∃x2:GlP,Value.tuple #[]=Value.tuple #[]/\GlOut w w'2 A x2 T)
      (true=true/\(∃old,w'1.cell? ⟨A.p,8,none⟩=some old)/\w'1.frozen? ⟨A.p,8,none⟩=false/\∀w1,Stored w'1 ⟨A.p,8,none⟩ (.int .i64 0) w1->
        zc (r==27)
         (true=true/\(∃old,w1.cell? ⟨A.p,10,none⟩=some old)/\w1.frozen? ⟨A.p,10,none⟩=false/\∀w11,Stored w1 ⟨A.p,10,none⟩ (.int .i64 1) w11->∃x1:GlP,Value.tuple #[]=Value.tuple #[]/\GlOut w w11 A x1 T)
         (zc (r==13)
           (true=true/\(∃old,w1.cell? ⟨A.p,4,none⟩=some old)/\w1.frozen? ⟨A.p,4,none⟩=false/\∀w11,Stored w1 ⟨A.p,4,none⟩ (.int .i64 0) w11->∃x1:GlP,Value.tuple #[]=Value.tuple #[]/\GlOut w w11 A x1 T)
           (zc (r==10)
             (∃g2:GGl, #[Value.pointer (some ⟨A.p,0,none⟩)]= #[Value.pointer (some ⟨g2.A.p,0,none⟩)]/\(GlIn w1 g2.A g2.g/\fitG g2.g)/\∀(x1:GlP) (w'2:World),GlOut w1 w'2 g2.A x1 (qq g2.g)->
              ∃g3:GGl, #[Value.pointer (some ⟨A.p,0,none⟩)]= #[Value.pointer (some ⟨g3.A.p,0,none⟩)]/\(GlIn w'2 g3.A g3.g/\fitG g3.g)/\∀(x2:GlP) (w'3:World),GlOut w'2 w'3 g3.A x2 (zZ g3.g)->∃x3:GlP,Value.tuple #[]=Value.tuple #[]/\GlOut w w'3 A x3 T)
             (∃x1:GlP,Value.tuple #[]=Value.tuple #[]/\GlOut w w1 A x1 T)))):=by
  subst hT
  refine⟨r,rfl,trivial,?_⟩
  rintro _ w2 ⟨rfl,hx⟩
  have hG:=hO.is
  have hG2:=hG.ext hx
  have hO2:=hO.trans (GlOut.ext hG hx)
  have hp:A1.p=A.p:=hO.p
  rw[hp.symm]
  unfold qy
  refine zb (fun h=> ?_) (fun h=> ?_)
  ·have h:=bne_iff_ne.1 h
   rw[if_pos h]
   exact⟨⟨A1,g1,r,m⟩,rfl,⟨⟨hG2,hk,hm⟩,hs⟩,fun A3 w3 hO3=>⟨A3,rfl,hO2.trans hO3⟩⟩
  have h:=bne_eq_false_iff_eq.1 h
  rw[if_neg (fun hh=>hh h)]
  refine⟨rfl,hG2.old (k:=8) (by decide),hG2.free 8,fun w3 hs3=> ?_⟩
  have hO3:=hO2.trans (qG (g':={g1 with last:=0}) hG2 hs3 rfl rfl rfl)
  have hG3:=hO3.is
  have hk3:=Qt hk
  refine zb (fun h1=>⟨rfl,hG3.old (k:=10) (by decide),hG3.free 10,fun w4 hs4=>⟨A1,rfl,?_⟩⟩) (fun h1=>zb (fun h2=>⟨rfl,hG3.old (k:=4) (by decide),hG3.free 4,fun w4 hs4=>⟨A1,rfl,?_⟩⟩) (fun h2=>zb (fun h3=> ?_) (fun h3=>⟨A1,rfl,?_⟩)))
  ·rw[if_pos (beq_iff_eq.1 h1)]
   exact hO3.trans (qG hG3 hs4 rfl rfl rfl)
  ·rw[if_neg (beq_eq_false_iff_ne.1 h1),if_pos (beq_iff_eq.1 h2)]
   exact hO3.trans (qG hG3 hs4 rfl rfl rfl)
  ·rw[if_neg (beq_eq_false_iff_ne.1 h1),if_neg (beq_eq_false_iff_ne.1 h2),if_pos (beq_iff_eq.1 h3)]
   refine⟨⟨A1,{g1 with last:=0}⟩,rfl,⟨hG3,hk3.fit hm⟩,fun A4 w4 hO4=> ?_⟩
   have hk4:=zfy hk3 rfl
   have hp4:A4.p=A1.p:=hO4.p
   exact⟨⟨A4,qq {g1 with last:=0}⟩,by rw[hp4],⟨hO4.is,hk4.fit hm⟩,fun A5 w5 hO5=>⟨A5,rfl,hO3.trans (hO4.trans hO5)⟩⟩
  ·rw[if_neg (beq_eq_false_iff_ne.1 h1),if_neg (beq_eq_false_iff_ne.1 h2),if_neg (beq_eq_false_iff_ne.1 h3)]
   exact hO3
theorem zjk{w:World}{A:GlP}{g:Gs}(h:GlIn w A g):A.na.isNone=decide (g.num=[]):=by
  by_cases hn:g.num=[]
  ·rw[h.nil hn,decide_eq_true hn];rfl
  ·rw[decide_eq_false hn]
   cases ha:A.na with
   |some a=>rfl
   |none=>
    exfalso
    have:=h.num.le.2
    rcases h.num.2 with⟨h1,h2⟩|⟨q,cur,h1, -⟩
    ·exact hn (List.eq_nil_of_length_eq_zero (by omega))
    ·rw[ha]at h1;cases h1
theorem zxT{w w3:World}{A:GlP}{g:Gs}(h:GlIn w A g)(hs:Stored w ⟨A.p,11,none⟩ (.slice none 0 0) w3):GlOut w w3 A {A with na:=none,nc:=0} {g with num:=[]}:=by
  have hz3:=hs.size
  have hfo:Fr (own A) w w3:=(Fr.stored hs).mono (fun x _ hx=> .inl hx)
  have hown:∀q,own {A with na:=none,nc:=0} q->own A q:=by
    rintro q (hq|hq|hq)
    ·exact .inl hq
    ·exact .inr (.inl hq)
    ·cases hq
  refine⟨⟨hs.heap h.box,?_,Row.nil _ _ _,fun _=>rfl,fun q hq=>h.bq q (hown q hq),by dsimp only;have:=h.bw;omega,h.u.on (h.below hfo)⟩,rfl,rfl,rfl,hfo,fun q hq=>⟨?_, .inl (hown q hq)⟩⟩
  ·exact h.row.keep fun q hq=>hs.other (by show q≠A.p;rintro rfl;exact h.cp hq)
  ·rw[hz3];exact h.lt q (hown q hq)
set_option maxRecDepth 2000 in
theorem zj5:zi6.Ok Tryz.prog 42:=by
  refine zq5 ⟨zsN,ztm,zbd,zuS,zlI,zlq,trivial⟩ ?_
  rintro⟨A,g,r,m⟩ w ⟨hG,hk,hm⟩
  dsimp only at hG hk hm⊢
  have hF:=hk.fit hm
  have hst:=hk.stt
  refine⟨⟨g.stt,(za hG.box 10).trans rfl,zb (fun h1=> ?_) (fun h1=>zb (fun h2=> ?_) (fun h2=> ?_))⟩,fun _ A1 W ⟨hO,hT,hk1⟩=> ?_,trivial⟩
  ·have h1:g.stt=1:=by have:=beq_iff_eq.1 h1;omega
   have e:zi g r=if r=91 then {g with stt:=2,num:=[],asked:=false,void:=false}else {g with stt:=0}:=by unfold zi;rw[if_pos h1]
   rw[e]
   refine⟨rfl,hG.old (k:=10) (by decide),hG.free 10,fun w1 hs1=> ?_⟩
   have hO1:=qG (g':={g with stt:=0}) hG hs1 rfl rfl rfl
   have hG1:=hO1.is
   refine zb (fun h2=> ?_) (fun h2=>⟨A,rfl,?_⟩)
   ·rw[if_pos (beq_iff_eq.1 h2)]
    refine⟨rfl,hG1.old (k:=10) (by decide),hG1.free 10,fun w2 hs2=> ?_⟩
    have hO2:=hO1.trans (qG (g':={g with stt:=2}) hG1 hs2 rfl rfl rfl)
    have hG2:=hO2.is
    refine⟨rfl,hG2.old (k:=11) (by decide),hG2.free 11,fun w3 hs3=> ?_⟩
    have hO3:=hO2.trans (zxT hG2 hs3)
    have hG3:=hO3.is
    refine⟨rfl,hG3.old (k:=12) (by decide),hG3.free 12,fun w4 hs4=> ?_⟩
    have hO4:=hO3.trans (qG (g':={g with stt:=2,num:=[],asked:=false}) hG3 hs4 rfl rfl rfl)
    have hG4:=hO4.is
    refine⟨rfl,hG4.old (k:=13) (by decide),hG4.free 13,fun w5 hs5=>⟨_,rfl,hO4.trans (qG hG4 hs5 rfl rfl rfl)⟩⟩
   ·rw[if_neg (beq_eq_false_iff_ne.1 h2)]
    exact hO1
  ·have h2:g.stt=2:=by have:=beq_iff_eq.1 h2;omega
   have hl:=hk.sl (by omega)
   have e:zi g r=if 32<=r/\r<=63 then qp (zk g) r (decide (g.num=[]))else if 64<=r/\r<=126 then zH {zk g with stt:=0} r else qy {zk g with stt:=0} r:=by
     unfold zi;rw[if_neg (by omega),if_pos h2];rfl
   rw[e]
   have hkh:=zgQ hk
   have hhf:=zg7 g
   have hk0:okG (Q7 (zk g) 0) m:=zep hkh (hhf.2.1.trans hl) (by decide)
   have tail:∀{W:World} {A1:GlP},GlOut w W A A1 (zk g)->
    zc (decide (r>=32)&&decide (r<=63))
     (∃g1:GHo, #[Value.pointer (some ⟨A.p,11,none⟩),Value.int .i32 r,Value.bool A.na.isNone]= #[Value.pointer (some ⟨g1.A.p,11,none⟩),Value.int .i32 g1.r,Value.bool g1.f]/\(GlIn W g1.A g1.g/\fitG g1.g/\g1.g.num≠[])/\
      ∀(x:GlP) (w':World),GlOut W w' g1.A x (qp g1.g g1.r g1.f)->∃x1:GlP,Value.tuple #[]=Value.tuple #[]/\GlOut w w' A x1 (if 32<=r/\r<=63 then qp (zk g) r (decide (g.num=[]))else if 64<=r/\r<=126 then zH {zk g with stt:=0} r else qy {zk g with stt:=0} r))
     (zc (decide (r>=64)&&decide (r<=126))
       (true=true/\(∃old,W.cell? ⟨A.p,10,none⟩=some old)/\W.frozen? ⟨A.p,10,none⟩=false/\∀w12,Stored W ⟨A.p,10,none⟩ (.int .i64 0) w12->
         ∃g1:GDs, #[Value.pointer (some ⟨A.p,0,none⟩),Value.int .i32 r]= #[Value.pointer (some ⟨g1.A.p,0,none⟩),Value.int .i32 g1.r]/\(GlIn w12 g1.A g1.g/\fitG g1.g)/\
          ∀(x:GlP) (w':World),GlOut w12 w' g1.A x (zH g1.g g1.r)->∃x1:GlP,Value.tuple #[]=Value.tuple #[]/\GlOut w w' A x1 (if 32<=r/\r<=63 then qp (zk g) r (decide (g.num=[]))else if 64<=r/\r<=126 then zH {zk g with stt:=0} r else qy {zk g with stt:=0} r))
       (true=true/\(∃old,W.cell? ⟨A.p,10,none⟩=some old)/\W.frozen? ⟨A.p,10,none⟩=false/\∀w12,Stored W ⟨A.p,10,none⟩ (.int .i64 0) w12->
         ∃y:GlP,GlOut w w12 A y (Q7 (zk g) 0)/\(if 32<=r/\r<=63 then qp (zk g) r (decide (g.num=[]))else if 64<=r/\r<=126 then zH {zk g with stt:=0} r else qy {zk g with stt:=0} r)=qy (Q7 (zk g) 0) r/\okG (Q7 (zk g) 0) m)):=by
     intro W A1 hO1
     have hp1:A1.p=A.p:=hO1.p
     have hG1:=hO1.is
     rw[zjk hG,hp1.symm]
     refine zb (fun h3=> ?_) (fun h3=>zb (fun h4=> ?_) (fun h4=> ?_))
     ·have h3:32<=r/\r<=63:=by rw[Bool.and_eq_true]at h3;exact⟨of_decide_eq_true h3.1,of_decide_eq_true h3.2⟩
      exact⟨⟨A1,zk g,r,decide (g.num=[])⟩,rfl,⟨hG1,hkh.fit hm,hhf.2.2.1⟩,fun A2 w2 hO2=>⟨A2,rfl,by rw[if_pos h3];exact hO1.trans hO2⟩⟩
     ·have h3:¬(32<=r/\r<=63):=fun hh=>by rw[decide_eq_true (show r>=32 from hh.1),decide_eq_true hh.2]at h3;cases h3
      have h4:64<=r/\r<=126:=by rw[Bool.and_eq_true]at h4;exact⟨of_decide_eq_true h4.1,of_decide_eq_true h4.2⟩
      refine⟨rfl,hG1.old (k:=10) (by decide),hG1.free 10,fun w2 hs2=> ?_⟩
      have hO2:=qG (g':=Q7 (zk g) 0) hG1 hs2 rfl rfl rfl
      exact⟨⟨A1,Q7 (zk g) 0,r⟩,rfl,⟨hO2.is,hk0.fit hm⟩,fun A3 w3 hO3=>⟨A3,rfl,by rw[if_neg h3,if_pos h4];exact hO1.trans (hO2.trans hO3)⟩⟩
     ·have h3:¬(32<=r/\r<=63):=fun hh=>by rw[decide_eq_true (show r>=32 from hh.1),decide_eq_true hh.2]at h3;cases h3
      have h4:¬(64<=r/\r<=126):=fun hh=>by rw[decide_eq_true (show r>=64 from hh.1),decide_eq_true hh.2]at h4;cases h4
      refine⟨rfl,hG1.old (k:=10) (by decide),hG1.free 10,fun w2 hs2=> ?_⟩
      have hO2:=qG (g':=Q7 (zk g) 0) hG1 hs2 rfl rfl rfl
      exact⟨A1,hO1.trans hO2,by rw[if_neg h3,if_neg h4];rfl,hk0⟩
   refine⟨A.na,g.num.length,A.nc,(za hG.box 11).trans rfl,zb (fun h3=> ?_) (fun h3=> ?_)⟩
   ·have hn:g.num=[]:=by rw[zjk hG]at h3;exact of_decide_eq_true h3
    intro b w1 hn1
    have hG1:=hG.ext hn1.ext
    have z1:=hn1.size
    refine⟨rfl,hG1.old (k:=11) (by decide),hG1.free 11,fun w2 hs2=> ?_⟩
    have hr:Row w1 3 1 (some ⟨b,0,none⟩) 1 (([-1]:List Int).map (Value.int .i64)) 1:=⟨rfl, .inr ⟨b,_,rfl,hn1.heap,Nat.le_refl _,by decide,rfl,rfl⟩⟩
    have hO2:=zos (l:=[-1]) hG rfl (by simp) hr (Fr.of_ext hn1.ext) (fun q hq=>by have:b=q:=Option.some.inj hq;exact .inr (by omega)) hs2
    have eh:zk g={g with num:=[-1]}:=by unfold zk;rw[if_pos hn]
    rw[eh.symm]at hO2
    exact tail hO2
   ·have hn:g.num≠[]:=by rw[zjk hG]at h3;exact of_decide_eq_false h3
    have eh:zk g=g:=by unfold zk;rw[if_neg hn]
    exact tail (by rw[eh];exact GlOut.refl hG)
  ·have h1:g.stt≠1:=by have:=beq_eq_false_iff_ne.1 h1;omega
   have h2:g.stt≠2:=by have:=beq_eq_false_iff_ne.1 h2;omega
   have e:zi g r=qy g r:=by unfold zi;rw[if_neg h1,if_neg h2]
   exact zif (GlOut.refl hG) hk hm (by omega) e
  ·have hp1:A1.p=A.p:=hO.p
   have hG1:=hO.is
   refine⟨0,by rw[hp1.symm];exact(za hG1.box 10).trans rfl,zb (fun h=>by cases h) (fun _=>zb (fun h=>by cases h) (fun _=> ?_))⟩
   exact zif hO hk1 hm rfl hT
end

section
open Go Go.RowKit Vc Ut Tb Cl
structure GlRd(w:World)(A:GlP)(ha:Option Addr)(hc:Nat)(h:ByteArray):Prop where
  rd:RdIn w A.rb ha hc h
  sm:h.size<=3
  far:∀q,q=A.rb\/(zV ha=some q/\h.size≠0)->A.B<=q/\q<w.heap.size/\¬own A q
def zem(A:GlP)(ha:Option Addr)(h:ByteArray)(q:Nat):Prop:=own A q\/q=A.rb\/(zV ha=some q/\h.size≠0)
structure NwX where
  p:Option Addr
  e:Int
  A:GlP
def zrs:CallSpec where
  G:=Int×Int×Bool
  args:=fun g=> #[.int .i64 g.1, .int .i64 g.2.1, .bool g.2.2]
  pre:=fun _ w=>UDB w.heap.size w
  X:=NwX
  res:=fun x=> .tuple #[.pointer x.p, .int .i64 x.e]
  post:=fun g w x w'=>Ext w w'/\(qo g.1 g.2.1=false->x.p=none/\x.e=5)/\
    (qo g.1 g.2.1=true->x.p=some ⟨x.A.p,0,none⟩/\x.e=0/\x.A.B=w.heap.size/\GlIn w' x.A (Zg g.1.toNat g.2.1.toNat g.2.2)/\GlRd w' x.A none 0 ⟨#[]⟩)
def zmc:List (Nat×CallSpec):=[(24,zbn),(33,zuA)]
structure GFd where
  A:GlP
  g:Gs
  m:Nat
  ha:Option Addr
  hc:Nat
  h:ByteArray
  ad:Option Addr
  c:Nat
  b:ByteArray
structure FdOut(w w':World)(A:GlP)(ha:Option Addr)(h:ByteArray)(A':GlP)(ha':Option Addr)(hc':Nat)(g':Gs)(h':ByteArray):Prop where
  is:GlIn w' A' g'
  rd:GlRd w' A' ha' hc' h'
  p:A'.p=A.p
  b:A'.B=A.B
  rb:A'.rb=A.rb
  st:Step (zem A ha h) w w' (zem A' ha' h')
def zgu:CallSpec where
  G:=GFd
  args:=fun g=> #[.pointer (some ⟨g.A.p,0,none⟩), .slice g.ad g.b.size g.c]
  pre:=fun g w=>GlIn w g.A g.g/\okG g.g g.m/\GlRd w g.A g.ha g.hc g.h/\CellsAt w g.ad (zh g.b)/\g.b.size<=67108864/\g.m+3+g.b.size<=549755813888
  X:=GlP×Option Addr×Nat
  res:=fun _=> .tuple #[]
  post:=fun g w x w'=>FdOut w w' g.A g.ha g.h x.1 x.2.1 x.2.2 (zB g.g (Zh (g.h++g.b))) (fdH (g.h++g.b))
def zjh:CallSpec where
  G:=Option Addr×Nat×Nat
  args:=fun g=> #[.pointer none, .slice g.1 g.2.1 g.2.2]
  pre:=fun _ _=>True
  X:=Unit
  res:=fun _=> .tuple #[]
  post:=fun _ w _ w'=>Ext w w'
def zcp:List (Nat×CallSpec):=[(41,znP),(42,zi6)]
def zt5(g:GFd)(_:World):Ann where
  sp:=zcp
  loops:=[(2,{
    X:=GlP×Nat
    sh:=fun _ x=>[(15, .int .i64 x.2)]
    inv:=fun _ w0 x w=>x.2<=(Zh (g.h++g.b)).length/\GlOut w0 w g.A x.1 (zB g.g ((Zh (g.h++g.b)).take x.2))
    mu:=fun _ _ x _=>(Zh (g.h++g.b)).length - x.2})]
structure GdX where
  b:Nat
  a:Option Addr
  c:Nat
  x:Int
  y:Int
structure gdOut(g:Gs)(w w':World)(x:(Option Addr×Nat)×Gr):Prop where
  eq:x.2=zR g
  made:Made w w' 52 6 x.1.1 g.cs.length (qn g.cs) x.1.2
structure gdI(g:Gs)(w00:World)(x:GdX)(w:World)(v:Value):Prop where
  v:v= .pointer (some ⟨w00.heap.size,0,none⟩)
  res:w.heap[w00.heap.size]? =some (.cells #[.int .i64 0, .int .i64 0, .slice none 0 0, .int .i64 0, .int .i64 0] 24)
  out:w.heap[x.b]? =some (.cells #[.int .i64 g.w, .int .i64 g.h, .slice x.a g.cs.length x.c, .int .i64 x.x, .int .i64 x.y] 24)
  ne:w00.heap.size<x.b
  made:Made w00 w 52 6 x.a g.cs.length (qn g.cs) x.c
def zgs:CallSpec where
  G:=GGl
  args:=fun g=> #[.pointer (some ⟨g.A.p,0,none⟩)]
  pre:=fun g w=>GlIn w g.A g.g/\fitG g.g
  X:=(Option Addr×Nat)×Gr
  res:=fun x=>grA x.1.1 x.1.2 x.2
  post:=fun g w x w'=>gdOut g.g w w' x
def ptN(v:Value)(q:Nat):Prop:=match v with| .pointer (some a)=>q=a.block|_=>False
def zt3(g:GGl)(w00:World):Ann where
  sp:=[]
  frees:=[(5,fun e=>ptN (gv e 3))]
  cuts:=[(3,3,{X:=GdX,sh:=fun _ x=>[(3, .pointer (some ⟨x.b,0,none⟩))],inv:=fun e _ x w=>gdI g.g w00 x w (gv e 2)/\x.x= -1/\x.y= -1}),
    (4,5,{X:=GdX,sh:=fun _ _=>[],inv:=fun e _ x w=>gv e 3= .pointer (some ⟨x.b,0,none⟩)/\gdI g.g w00 x w (gv e 2)/\x.x=(zR g.g).x/\x.y=(zR g.g).y})]
end
end Go.Proofs.YtjdohhididpomaaGreatDoor
